/-
  Part 5 of what a proof of this claim uses: rules, contracts and plain laws. No condition.
-/
import Derived.Test.YtcnpkmdooekmgaaGreatDoorV4
namespace Go.Proofs.YtcnpkmdooekmgaaGreatDoor
open Go Sl
theorem hlogUp {p N N' : Nat} (h : N ≤ N') (L : List Assn) : Ent (hlog p N :: L) (hlog p N' :: L) := by
  rintro im h1 ⟨a1, a2, e1, e2, e3, ⟨x, hx⟩, s⟩
  refine ⟨a1, a2, e1, e2, e3, ⟨x, ?_⟩, s⟩
  obtain ⟨b1, b2, f1, f2, f3, ⟨g1, g2, g3⟩, t⟩ := hx
  exact ⟨b1, b2, f1, f2, f3, ⟨g1.up h, g2, g3⟩, t⟩
def MakeQ (S : St) (D : Dk) (n : Nd) (x : Nat × Rf × St × Dk) : Prop :=
  (x.1 = 0 ∧ Made S D n x.2.1 x.2.2.1 x.2.2.2) ∨ (x.2.1 = Rf0 ∧ x.2.2.1 = S ∧ Er D.down S x.2.2.2 x.1 ∧ Chg S S D x.2.2.2 1)
/-- how often those are held that are not noted yet. -/
theorem count_step {l : List Nat} {i k : Nat} (h : l[i]? = some k) (s : Nat) : (l.drop i).count s = (l.drop (i + 1)).count s + if k = s then 1 else 0 := by
  obtain ⟨hi, e⟩ := List.getElem?_eq_some_iff.1 h
  rw [List.drop_eq_getElem_cons hi, e, List.count_cons]
  simp
attribute [local irreducible] cw sw J Exit.then Exit.inBlock Exit.noGoto bodyPost swG swL permL
set_option maxHeartbeats 1000000 in
theorem smake_c (p N : Nat) (S : St) (D : Dk) (n : Nd) (y : NR) (hr : n.right) (hw : n.wt) (hS : S.wf) (ha : Agr S D) (hk : ∀ k ∈ n.kids, S.K k.sec ≠ none) (hN : N ≤ 900000000) (hwt : D.waits.length ≤ 900000000) (Φ : Base) (hT : Tab Φ) :
    Sl.Fn Tryz.prog Φ F.shadow_Store_Make [ptr p, nV n y] [store p S, node n y, disk S.pd D, hlog S.pl N] (MakeQ S D n) (fun x => .tuple #[.agg (rcells x.2.1).toArray, i64 x.1]) (fun x => [store p x.2.2.1, disk S.pd x.2.2.2, hlog S.pl (N + 1)]) := by
  obtain ⟨ka0, kc0, va0, vc0, ra0, rc0⟩ := y
  have hkl : n.kids.length ≤ 11 := by
    have := hr.most
    cases hl : n.leaf
    · have := (hr.inner hl).2.2.1; omega
    · rw [(hr.leaf hl).2.2.2]; simp
  refine fo fun F => ?_
  repeat refine s1 ?_
  refine r_box (cs := nbx n ⟨ka0, kc0, va0, vc0, ra0, rc0⟩) rfl rfl rfl rfl (fun t3 => ?_)
  refine al (cs := rcells Rf0) (fun t4 => ?_)
  repeat refine s1 ?_
  refine cl (smade_c p S noδ Φ) ?_
  repeat refine s1 ?_
  refine cx (write_c n ⟨ka0, kc0, va0, vc0, ra0, rc0⟩ hr hw Φ) (fun pw _ => ?_)
  repeat refine s2 ?_
  refine jh [node n ⟨ka0, kc0, va0, vc0, ra0, rc0⟩] (j_ent (Ent.unnode _) ?_)
  refine jh [kidsA n ⟨ka0, kc0, va0, vc0, ra0, rc0⟩] (j_leni (fun _ _ hra => ?_))
  dsimp only at hra
  repeat refine s1 ?_
  refine t_loop (σ := Nat) (fun i => [(32, i64 i), (31, i64 n.kids.length), (30, .slice ra0 n.kids.length rc0), (6, .slice (some ⟨pw, 0, none⟩) 512 512), (3, ptr t3), (4, ptr t4), (0, ptr p)])
    (fun _ => kidsA n ⟨ka0, kc0, va0, vc0, ra0, rc0⟩ :: node n ⟨ka0, kc0, va0, vc0, ra0, rc0⟩ :: store p S :: pt t3 (.cells (nbx n ⟨ka0, kc0, va0, vc0, ra0, rc0⟩).toArray T.node_Node (0, 0)) :: pt t4 (.cells (rcells Rf0).toArray T.api_Ref (0, 0)) :: brow (some ⟨pw, 0, none⟩) 512 512 n.enc :: disk S.pd D :: hlog S.pl N :: F)
    (fun i => i ≤ n.kids.length) (fun i => n.kids.length - i) 0 (Nat.zero_le _) ⟨rfl, rfl, rfl, rfl, rfl, rfl, rfl, trivial⟩ leD ?_
  intro i hi
  repeat refine s1 ?_
  refine r_icmp rfl rfl rfl rfl ?_
  repeat refine s1 ?_
  refine t_condS rfl (fun hlt => ?_) (fun hge => ?_)
  · have hil : i < n.kids.length := by omega
    obtain ⟨b, o, rfl⟩ := hra (by omega)
    have hq := hw.kids _ (List.getElem_mem hil)
    obtain ⟨ks, hks⟩ := Option.ne_none_iff_exists'.1 (hk _ (List.getElem_mem hil))
    repeat refine s1 ?_
    refine ix rfl rfl hil ?_
    refine r_loadIA (off := o) (n := n.kids.length) (cap := rc0) (E := T.api_Ref) (s := 33) (xs := n.kids.flatMap rcells) (vs := rcells n.kids[i]) rfl (j := i * 33) (by omega) (by simp [hq.sum.1]) (kid_at hw hil) rfl rfl ?_
    refine al (fun t9 => ?_)
    refine r_storeW (vs := rcells n.kids[i]) rfl rfl (by simp [hq.sum.1]) (by simp) (by simp [Value.oneCell']) rfl ?_
    repeat refine s1 ?_
    refine cl (shas_c p S noδ n.kids[i].sec Φ) ?_
    rw [hks, Option.isSome_some]
    repeat refine s1 ?_
    exact j_again (i + 1) (by first | omega | (dsimp only; omega) | (dsimp only at *; omega)) (by first | omega | (dsimp only; omega) | (dsimp only at *; omega)) ⟨rfl, rfl, rfl, rfl, rfl, rfl, rfl, trivial⟩ leD
  · repeat refine s1 ?_
    refine jh [storeD p S noδ] (j_store fun x hx => ?_)
    dsimp only [List.cons_append, List.nil_append]
    have hbig := hx.big
    repeat refine s1 ?_
    refine cx (row_free x.pr S.cnt (occ S.K S.frm) 0 (by omega) Φ hT) (fun q hq => ?_)
    rcases q with _ | at'
    · have hfull : ∀ i < S.cnt, S.K (S.frm + i) ≠ none := fun i hi h0 => by
        have := hq i (Nat.zero_le _) hi
        rw [occ, h0] at this
        simp at this
      rw [Option.getD_none, Option.isSome_none]
      repeat refine s1 ?_
      refine r_build (cells := rcells Rf0) rfl (by rfl) rfl ?_
      refine r_storeW (vs := rcells Rf0) rfl rfl (by rfl) (by rfl) (by simp [Value.oneCell']) rfl ?_
      repeat refine s1 ?_
      refine js (storeB p S x) (fun L => Ent.store x hx) ?_
      refine jh [hlog S.pl N] (j_ent (hlogUp (N' := N + 1) (by omega) _) ?_)
      exact j_fin rfl (.cons (rv_agg (l := rcells Rf0) (U := T.api_Ref) (fr := (0, 0)) rfl (by rfl)) (.cons (rv_tmp rfl) .nil)) (5, Rf0, S, D) rfl (.inr ⟨rfl, rfl, .inl ⟨rfl, card_full hS hfull, rfl⟩, Chg.refl hS ha 1⟩)
    · obtain ⟨_, hat, hfr, _⟩ := hq
      have hnew : S.K (S.frm + at') = none := by
        rcases h0 : S.K (S.frm + at') with _ | ks
        · rfl
        · simp [occ, h0] at hfr
      rw [Option.getD_some, Option.isSome_some]
      repeat refine s1 ?_
      refine r_addN (m := S.frm) (n := at') rfl rfl (by omega) rfl ?_
      repeat refine s1 ?_
      rw [show IntKind.u32.wrap ((S.frm + at' : Nat) : Int) = ((S.frm + at' : Nat) : Int) from wrapU32 (by omega)]
      have hsz := ha.size
      rcases hd : D.down with _ | _
      · by_cases hpl : D.plan = true ∧ D.left = 0
        · repeat refine s1 ?_
          refine cl (dwrite_p S.pd D (S.frm + at') (by omega) hd (by omega) hpl (some ⟨pw, 0, none⟩) 512 Φ) ?_
          repeat refine s2 ?_
          refine r_build (cells := rcells Rf0) rfl (by rfl) rfl ?_
          repeat refine s1 ?_
          refine r_storeW (vs := rcells Rf0) rfl rfl (by rfl) (by rfl) (by simp [Value.oneCell']) rfl ?_
          repeat refine s1 ?_
          refine js (storeB p S x) (fun L => Ent.store x hx) ?_
          refine jh [hlog S.pl N] (j_ent (hlogUp (N' := N + 1) (by omega) _) ?_)
          have hg : D.chg.down = true := by unfold Dk.chg; rw [if_pos hpl]
          have hh := DLe.hit (K := S.K) (f := S.frm) (c := S.cnt) hd hpl.1 1
          exact j_fin rfl (.cons (rv_agg (l := rcells Rf0) (U := T.api_Ref) (fr := (0, 0)) rfl (by rfl)) (.cons (rv_tmp rfl) .nil)) (30, Rf0, S, D.chg) rfl
            (.inr ⟨rfl, rfl, .inr ⟨rfl, hg⟩, ⟨rfl, rfl, rfl, rfl, rfl, Gd.le_refl _, hS, ⟨fun s hs => by rw [hh.sec hs]; exact ha.sec s hs, by rw [hh.size]; exact ha.size, Nat.le_trans hh.left ha.left⟩, (by first | omega | (dsimp only; omega) | (dsimp only at *; omega)), hh⟩⟩)
        · repeat refine s1 ?_
          refine cl (dwrite_c S.pd D (S.frm + at') (by omega) hd (by omega) hpl ha.left (by omega) (some ⟨pw, 0, none⟩) 512 n.enc (enc_bytes hr hw).1 (enc_bytes hr hw).2 Φ) ?_
          repeat refine s2 ?_
          refine js (storeB p S x) (fun L => Ent.store x hx) ?_
          refine t_draw [pt t3 (.cells (nbx n ⟨ka0, kc0, va0, vc0, ra0, rc0⟩).toArray T.node_Node (0, 0))] [2] mixed (by decide +kernel) ?_
          repeat refine s1 ?_
          refine cl (sholders_c p S noδ (S.frm + at') Φ) ?_
          rw [innK_zero hS hnew]
          repeat refine s1 ?_
          have hE0 : S.E (S.frm + at') = 0 := by
            apply Nat.eq_zero_of_not_pos
            intro h0
            exact hS.ext _ h0 hnew
          have hks0 : (secs n).count (S.frm + at') = 0 := List.count_eq_zero.2 fun hm => by
            obtain ⟨r, hr', e⟩ := List.mem_map.1 hm
            exact hk r hr' (by rw [e]; exact hnew)
          refine cl (skeep_c p S noδ (fun s => - (((secs n).drop 0).count s : Int)) (S.frm + at') n ⟨ka0, kc0, va0, vc0, ra0, rc0⟩ 0 hw hnew (by omega) (by omega) hkl (by rw [hE0, innK_zero hS hnew]; simp [hks0]) (fun k _ => by simp) (fun k => by
            have := List.count_le_length (l := secs n) (a := k)
            simp only [List.length_map] at this
            simp only [List.drop_zero]
            omega) Φ) ?_
          repeat refine s1 ?_
          refine j_head (node n ⟨ka0, kc0, va0, vc0, ra0, rc0⟩) (j_ent (Ent.unnode _) ?_)
          refine t_loop (σ := Nat) (fun i => [(82, i64 i), (81, i64 n.kids.length), (80, .slice ra0 n.kids.length rc0), (6, .slice (some ⟨pw, 0, none⟩) 512 512), (12, kU (S.frm + at')), (4, ptr t4), (0, ptr p)])
            (fun i => kidsA n ⟨ka0, kc0, va0, vc0, ra0, rc0⟩ :: storeD p { S with K := upd S.K (S.frm + at') (some (secs n)) } (fun s => - (((secs n).drop i).count s : Int)) :: pt t4 (.cells (rcells Rf0).toArray T.api_Ref (0, 0)) :: brow (some ⟨pw, 0, none⟩) 512 512 n.enc :: disk S.pd (D.wr (S.frm + at') n.enc) :: hlog S.pl N :: F)
            (fun i => i ≤ n.kids.length) (fun i => n.kids.length - i) 0 (Nat.zero_le _) ⟨rfl, rfl, rfl, rfl, rfl, rfl, rfl, trivial⟩ leD ?_
          intro j hj
          repeat refine s1 ?_
          refine r_icmp rfl rfl rfl rfl ?_
          repeat refine s1 ?_
          refine t_condS rfl (fun hlt2 => ?_) (fun hge2 => ?_)
          · have hjl : j < n.kids.length := by omega
            obtain ⟨b, o, rfl⟩ := hra (by omega)
            have hq2 := hw.kids _ (List.getElem_mem hjl)
            have hkn := hk _ (List.getElem_mem hjl)
            have hne : n.kids[j].sec ≠ S.frm + at' := fun e => hkn (by rw [e]; exact hnew)
            have hsj : (secs n)[j]? = some n.kids[j].sec := by simp [List.getElem?_eq_getElem hjl]
            have hst := count_step hsj
            repeat refine s1 ?_
            refine ix rfl rfl hjl ?_
            refine r_loadIA (off := o) (n := n.kids.length) (cap := rc0) (E := T.api_Ref) (s := 33) (xs := n.kids.flatMap rcells) (vs := rcells n.kids[j]) rfl (j := j * 33) (by omega) (by simp [hq2.sum.1]) (kid_at hw hjl) rfl rfl ?_
            refine al (fun t15 => ?_)
            refine r_storeW (vs := rcells n.kids[j]) rfl rfl (by simp [hq2.sum.1]) (by simp) (by simp [Value.oneCell']) rfl ?_
            refine j_head (storeD p { S with K := upd S.K (S.frm + at') (some (secs n)) } (fun s => - (((secs n).drop j).count s : Int))) (j_store fun x2 hx2 => ?_)
            dsimp only [List.cons_append, List.nil_append]
            repeat refine s1 ?_
            obtain ⟨z, l1, l2, e1, e2, e3, hn⟩ := at_some (s := n.kids[j].sec) hx2 (by simp only [upd]; rw [if_neg hne]; exact hkn)
            obtain ⟨pr2, km2, ll⟩ := x2
            dsimp only at e1 e3 hx2 ⊢
            subst e3
            have hh := hx2.hold (e := (n.kids[j].sec, z)) (by simp)
            dsimp only at hh
            refine j_head (each (l1 ++ (n.kids[j].sec, z) :: l2) infA) (j_ent (Ent.eachMid l1 (n.kids[j].sec, z) l2 infA _) (j_all ?_))
            dsimp only [List.cons_append, List.nil_append]
            refine r_lookup1 rfl rfl ⟨_, rfl⟩ rfl rfl ?_
            rw [mget_em kU_inj, e1]
            repeat refine s1 ?_
            refine r_addI rfl rfl (by omega) rfl ?_
            repeat refine s1 ?_
            refine so rfl rfl ?_
            repeat refine s1 ?_
            have hq := hx2.bump (d := 1) (δ' := fun s => - (((secs n).drop (j + 1)).count s : Int)) (E' := S.E) (by have := hst n.kids[j].sec; rw [if_pos rfl] at this; dsimp only; omega)
              (fun s h => by have := hst s; rw [if_neg (Ne.symm h)] at this; exact ⟨rfl, (by first | omega | (dsimp only; omega) | (dsimp only at *; omega))⟩) (hx2.lim _) (by
                have := List.count_le_length (l := (secs n).drop (j + 1)) (a := n.kids[j].sec)
                simp only [List.length_drop, List.length_map] at this
                first | omega | (dsimp only; omega))
            refine js [pt z.p (.cells [.slice z.a z.kids.length z.c, .int .i64 (z.held + 1)].toArray T.shadow_info (0, 0)), inf2 z] (B := infA (n.kids[j].sec, { z with held := z.held + 1 })) (fun L => Ent.unall [inf1 { z with held := z.held + 1 }, inf2 { z with held := z.held + 1 }] L) ?_
            refine js [infA (n.kids[j].sec, { z with held := z.held + 1 }), each (l1 ++ l2) infA] (fun L => Ent.eachUnmid l1 _ l2 infA L) ?_
            have hem : em kU vI (l1 ++ (n.kids[j].sec, z) :: l2) = em kU vI (l1 ++ (n.kids[j].sec, { z with held := z.held + 1 }) :: l2) := by simp [em]
            rw [hem]
            refine js (storeB p { S with K := upd S.K (S.frm + at') (some (secs n)) } ⟨pr2, km2, l1 ++ (n.kids[j].sec, { z with held := z.held + 1 }) :: l2⟩) (fun L => Ent.store _ hq) ?_
            exact j_again (j + 1) (by first | omega | (dsimp only; omega) | (dsimp only at *; omega)) (by first | omega | (dsimp only; omega) | (dsimp only at *; omega)) ⟨rfl, rfl, rfl, rfl, rfl, rfl, rfl, trivial⟩ leD
          · have hjl : j = n.kids.length := by omega
            subst hjl
            refine j_head (storeD p { S with K := upd S.K (S.frm + at') (some (secs n)) } (fun s => - (((secs n).drop n.kids.length).count s : Int))) ?_
            rw [show (fun s => - (((secs n).drop n.kids.length).count s : Int)) = noδ by funext s; rw [List.drop_of_length_le (by simp)]; rfl]
            refine j_store fun x2 hx2 => ?_
            dsimp only [List.cons_append, List.nil_append]
            repeat refine s1 ?_
            refine cl (hlog_c S.pl N (by omega) (some ⟨pw, 0, none⟩) 512 512 n.enc (enc_bytes hr hw).1 (enc_bytes hr hw).2 (by decide) Φ) ?_
            have hsl := (sha_bytes n.enc (enc_bytes hr hw).2)
            generalize hm : shaM n.enc = m at hsl ⊢
            refine r_build (cells := rcells ⟨S.frm + at', m⟩) rfl (by simp [fillL, hsl.1, Value.cells]) rfl ?_
            refine r_storeW (vs := rcells ⟨S.frm + at', m⟩) rfl rfl (by simp [hsl.1]) (by simp [Rf0]) (by simp [Value.oneCell']) rfl ?_
            repeat refine s1 ?_
            have hx3 : SQ { S with K := upd S.K (S.frm + at') (some (secs n)), sec := fun s => if s = S.frm + at' then n.enc else S.sec s } noδ x2.l := ⟨hx2.rep, hx2.rng, hx2.held, hx2.few, hx2.pos, hx2.big, hx2.lim, hx2.dl⟩
            refine js (storeB p { S with K := upd S.K (S.frm + at') (some (secs n)), sec := fun s => if s = S.frm + at' then n.enc else S.sec s } x2) (fun L => Ent.store x2 hx3) ?_
            exact j_fin rfl (.cons (rv_agg (l := rcells ⟨S.frm + at', m⟩) (U := T.api_Ref) (fr := (0, 0)) rfl (by simp [hsl.1])) (.cons (rv_tmp rfl) .nil)) (0, ⟨S.frm + at', m⟩, { S with K := upd S.K (S.frm + at') (some (secs n)), sec := fun s => if s = S.frm + at' then n.enc else S.sec s }, D.wr (S.frm + at') n.enc) rfl
              (.inl ⟨rfl, ⟨hnew, by dsimp only; omega, by dsimp only; omega, ⟨by dsimp only; omega, hsl⟩, hm.symm, rfl, rfl, hd, hpl⟩⟩)
      · repeat refine s1 ?_
        refine cl (dwrite_d S.pd D (S.frm + at') hd (.slice (some ⟨pw, 0, none⟩) 512 512) Φ) ?_
        repeat refine s2 ?_
        refine r_build (cells := rcells Rf0) rfl (by rfl) rfl ?_
        repeat refine s1 ?_
        refine r_storeW (vs := rcells Rf0) rfl rfl (by rfl) (by rfl) (by simp [Value.oneCell']) rfl ?_
        repeat refine s1 ?_
        refine js (storeB p S x) (fun L => Ent.store x hx) ?_
        refine jh [hlog S.pl N] (j_ent (hlogUp (N' := N + 1) (by omega) _) ?_)
        exact j_fin rfl (.cons (rv_agg (l := rcells Rf0) (U := T.api_Ref) (fr := (0, 0)) rfl (by rfl)) (.cons (rv_tmp rfl) .nil)) (30, Rf0, S, D) rfl (.inr ⟨rfl, rfl, .inr ⟨rfl, hd⟩, Chg.refl hS ha 1⟩)
end Go.Proofs.YtcnpkmdooekmgaaGreatDoor
namespace Go.Proofs.YtcnpkmdooekmgaaGreatDoor
open Go Sl
def nd0 : Nd := ⟨false, [], [], []⟩
def nr0 : NR := ⟨none, 0, none, 0, none, 0⟩
theorem ent_node0 (L : List Assn) : Ent L (node nd0 nr0 :: L) :=
  (((Ent.islNil (E := T.api_Ref) (s := 33) (cap := 0) (a := none) L).trans (Ent.islNil (E := T.a44_uint8) (s := 44) (cap := 0) (a := none) _)).trans (Ent.islNil (E := T.uint64) (s := 1) (cap := 0) (a := none) _)).trans (Ent.node (n := nd0) (x := nr0) L)
attribute [local irreducible] cw sw J Exit.then Exit.inBlock Exit.noGoto bodyPost swG swL permL
theorem sload_d (p : Nat) (S : St) (D : Dk) (r : Rf) (_hr : r.wt) (h1 : S.frm ≤ r.sec) (h2 : r.sec < S.frm + S.cnt) (hd : D.down = true) (Φ : Base) :
    Sl.Fn Tryz.prog Φ F.shadow_Store_Load [ptr p, .agg (rcells r).toArray] [store p S, disk S.pd D] (fun _ : Unit => True) (fun _ => .tuple #[nV nd0 nr0, i64 30]) (fun _ => [store p S, disk S.pd D, node nd0 nr0]) := by
  refine fo fun F => ?_
  repeat refine s1 ?_
  refine r_box (cs := rcells r) rfl rfl rfl rfl (fun t3 => ?_)
  refine al (cs := nbx nd0 nr0) (fun t4 => ?_)
  repeat refine s1 ?_
  refine cl (smade_c p S noδ Φ) ?_
  refine jh [storeD p S noδ] (j_store fun x hx => ?_)
  dsimp only [List.cons_append, List.nil_append]
  have hbig := hx.big
  repeat refine s1 ?_
  refine t_draw [pt p (.cells (scells S x).toArray T.shadow_Store (0, 0)), pt t3 (.cells (rcells r).toArray T.api_Ref (0, 0))] [1, 6] mixed (by decide +kernel) ?_
  repeat refine s1 ?_
  rw [show IntKind.i64.wrap (r.sec : Int) = (r.sec : Int) from i64_nat (by omega)]
  repeat refine s1 ?_
  refine r_subN (m := r.sec) (n := S.frm) rfl rfl h1 (by omega) rfl ?_
  repeat refine s2 ?_
  refine r_cmpF rfl rfl rfl (by simp; omega) rfl ?_
  repeat refine s1 ?_
  refine cl (dread_d S.pd D r.sec hd Φ) ?_
  repeat refine s2 ?_
  refine r_build (cells := nbx nd0 nr0) rfl (by rfl) rfl ?_
  repeat refine s1 ?_
  refine r_storeW (vs := nbx nd0 nr0) rfl rfl (by rfl) (by rfl) (by simp [Value.oneCell']) rfl ?_
  repeat refine s1 ?_
  refine js (storeB p S x) (fun L => Ent.store x hx) ?_
  refine j_ent (ent_node0 _) ?_
  exact j_fin rfl (.cons (rv_agg (l := nbx nd0 nr0) (U := T.node_Node) (fr := (0, 0)) rfl (by rfl)) (.cons (rv_tmp rfl) .nil)) () rfl trivial
/-- what comes of a text that is a right node's: that node, where its sum is as told. -/
noncomputable def ldN (r : Rf) (m : Nd) : Nd := if shaM m.enc = r.sum then m else nd0
theorem sload_s (p N : Nat) (S : St) (D : Dk) (r : Rf) (m : Nd) (hr : r.wt) (h1 : S.frm ≤ r.sec) (h2 : r.sec < S.frm + S.cnt) (hm : m.right) (hw : m.wt) (hsec : D.sec r.sec = m.enc) (hsz : S.frm + S.cnt ≤ D.size) (hd : D.down = false) (hN : N ≤ 900000000) (Φ : Base) :
    Sl.Fn Tryz.prog Φ F.shadow_Store_Load [ptr p, .agg (rcells r).toArray] [store p S, disk S.pd D, hlog S.pl N] (fun _ : NR => True) (fun y => .tuple #[nV (ldN r m) y, i64 (if shaM m.enc = r.sum then 0 else 40)])
      (fun y => [store p S, disk S.pd D, hlog S.pl (N + 1), node (ldN r m) y]) := by
  refine fo fun F => ?_
  repeat refine s1 ?_
  refine r_box (cs := rcells r) rfl rfl rfl rfl (fun t3 => ?_)
  refine al (cs := nbx nd0 nr0) (fun t4 => ?_)
  repeat refine s1 ?_
  refine cl (smade_c p S noδ Φ) ?_
  refine jh [storeD p S noδ] (j_store fun x hx => ?_)
  dsimp only [List.cons_append, List.nil_append]
  have hbig := hx.big
  repeat refine s1 ?_
  refine t_draw [pt p (.cells (scells S x).toArray T.shadow_Store (0, 0)), pt t3 (.cells (rcells r).toArray T.api_Ref (0, 0))] [1, 6] mixed (by decide +kernel) ?_
  repeat refine s1 ?_
  rw [show IntKind.i64.wrap (r.sec : Int) = (r.sec : Int) from i64_nat (by omega)]
  repeat refine s1 ?_
  refine r_subN (m := r.sec) (n := S.frm) rfl rfl h1 (by omega) rfl ?_
  repeat refine s2 ?_
  refine r_cmpF rfl rfl rfl (by simp; omega) rfl ?_
  repeat refine s1 ?_
  refine cx (dread_c S.pd D r.sec (by omega) hd (by omega) Φ) (fun q _ => ?_)
  rw [hsec]
  repeat refine s2 ?_
  refine cx (nread_c m q.1 q.2 hm hw Φ) (fun y _ => ?_)
  repeat refine s1 ?_
  refine al (fun t9 => ?_)
  refine r_storeW (vs := nbx m y) rfl rfl (by rfl) (by rfl) (by simp [Value.oneCell']) rfl ?_
  repeat refine s1 ?_
  refine t_draw [pt p (.cells (scells S x).toArray T.shadow_Store (0, 0)), pt t3 (.cells (rcells r).toArray T.api_Ref (0, 0))] [3, 7] mixed (by decide +kernel) ?_
  repeat refine s1 ?_
  refine cl (hlog_c S.pl N (by omega) q.1 512 q.2 m.enc (enc_bytes hm hw).1 (enc_bytes hm hw).2 (by decide) Φ) ?_
  have hsl := sha_bytes m.enc (enc_bytes hm hw).2
  unfold ldN
  generalize shaM m.enc = c at hsl ⊢
  repeat refine s1 ?_
  refine s_loadA (vs := r.sum.map u8) rfl (by simp [hr.sum.1]) (fun j v hj => by rw [List.getElem?_toArray, Nat.add_comm, List.getElem?_cons_succ]; exact hj) rfl rfl ?_
  refine r_aneB (n := 32) (by kernel_rfl) rfl rfl hsl.1 hr.sum.1 rfl ?_
  by_cases hc : c = r.sum
  · rw [decide_eq_true hc, Bool.not_true, if_pos hc, if_pos hc]
    repeat refine s2 ?_
    refine r_storeW (vs := nbx m y) rfl rfl (by rfl) (by rfl) (by simp [Value.oneCell']) rfl ?_
    repeat refine s1 ?_
    refine js (storeB p S x) (fun L => Ent.store x hx) ?_
    exact j_fin rfl (.cons (rv_agg (l := nbx m y) (U := T.node_Node) (fr := (0, 0)) rfl (by rfl)) (.cons (rv_tmp rfl) .nil)) y rfl trivial
  · rw [decide_eq_false hc, Bool.not_false, if_neg hc, if_neg hc]
    repeat refine s2 ?_
    refine r_build (cells := nbx nd0 nr0) rfl (by rfl) rfl ?_
    refine r_storeW (vs := nbx nd0 nr0) rfl rfl (by rfl) (by rfl) (by simp [Value.oneCell']) rfl ?_
    repeat refine s1 ?_
    refine js (storeB p S x) (fun L => Ent.store x hx) ?_
    refine j_ent (ent_node0 _) ?_
    exact j_fin rfl (.cons (rv_agg (l := nbx nd0 nr0) (U := T.node_Node) (fr := (0, 0)) rfl (by rfl)) (.cons (rv_tmp rfl) .nil)) nr0 rfl trivial
end Go.Proofs.YtcnpkmdooekmgaaGreatDoor
namespace Go.Proofs.YtcnpkmdooekmgaaGreatDoor
open Go Sl
/-- a row of one's own that may have run out. -/
def que (a : Option Addr) (n c : Nat) (q : List Nat) : Assn := if c = 0 then pu (n = 0 ∧ q = []) else vec a n c T.uint32 1 (q.map kU)
theorem que_vec {a : Option Addr} {n c : Nat} {q : List Nat} (h : c ≠ 0) : que a n c q = vec a n c T.uint32 1 (q.map kU) := if_neg h
theorem que_nil {a : Option Addr} {n : Nat} {q : List Nat} : que a n 0 q = pu (n = 0 ∧ q = []) := if_pos rfl
section
variable {X : Cx} {e : Env} {L L1 F : List Assn} {A : List Assn} {S : List Nat} {ops : Array Oper} {k : Nat} {l : List Oper} {R : Act → World → Prop} {G : Act → World → Prop}
variable {d : Nat} {TT : TypeId} {pos : String} {af : Array Edge}
theorem Ent.queNil {a : Option Addr} (L : List Assn) : Ent L (que a 0 0 [] :: L) := by rw [que_nil]; exact Ent.mkPu ⟨rfl, rfl⟩
theorem Ent.que {a : Option Addr} {n c : Nat} {q : List Nat} (L : List Assn) : Ent (vec a n c T.uint32 1 (q.map kU) :: L) (Go.Proofs.YtcnpkmdooekmgaaGreatDoor.que a n c q :: L) := by
  by_cases hc : c = 0
  · subst hc
    rw [que_nil]
    rintro im h ⟨a1, a2, e1, e2, e3, ⟨hl, hn, _⟩, s⟩
    have h0 : n = 0 := by omega
    subst h0
    have hq : q = [] := List.eq_nil_of_length_eq_zero (by simpa using hl)
    exact ⟨a1, a2, e1, e2, e3, ⟨rfl, hq⟩, s⟩
  · rw [que_vec hc]; exact Ent.refl _
theorem j_queLen {a : Option Addr} {n c : Nat} {q : List Nat} (h : q.length = n → J X e (Go.Proofs.YtcnpkmdooekmgaaGreatDoor.que a n c q :: L) G) : J X e (Go.Proofs.YtcnpkmdooekmgaaGreatDoor.que a n c q :: L) G := by
  by_cases hc : c = 0
  · subst hc
    rw [que_nil] at h ⊢
    refine j_pu fun ⟨h1, h2⟩ => ?_
    exact j_ent (Ent.mkPu ⟨h1, h2⟩) (h (by rw [h1, h2]; rfl))
  · rw [que_vec hc] at h ⊢
    exact j_len fun hl _ _ => h (by simpa using hl)
/-- append to an empty row without room. -/
theorem r_appendE {t E : TypeId} {x y : Operand} {s by_ : Nat} {z : Value} {a a2 : Option Addr} {m cap2 : Nat} {ys : List Value} [tu : TUnd X.P t (.slice E)] [te : TElem X.P E s by_ z]
    (hx : ev e x = some (.slice a 0 0)) (hy : ev e y = some (.slice a2 m cap2)) [g : RdS a2 m s ys L] (hs : 0 < s) (hzc : z.cells.size = s) (hm : 0 < m) (hb : m * by_ ≤ 140737488355328) (h63 : m ≤ 9223372036854775807) (hS : S.contains k = false) (hd : Nat.blt d X.n = true)
    [st : ∀ q : Nat × List Value, Stay A (pt q.1 (.cells (ys ++ q.2).toArray E (0, 0)) :: L)]
    (h : ∀ a' cap', 0 < cap' → J X ((d, .slice a' m cap') :: e) (vec a' m cap' E s ys :: L) (sw X.P (Holds X.Φ A) S ops R (k + 1) l)) :
    J X e L (sw X.P (Holds X.Φ A) S ops R k (⟨some d, .call { callee := .builtin .append, args := #[x, y], argTypes := #[t, t] }, TT, pos, af, none⟩ :: l)) :=
  r_write (α := Nat × Nat × List Value) (q := fun p => m ≤ p.2.1 ∧ p.2.2.length = (p.2.1 - m) * s ∧ ys.length = m * s) (V := fun p => .slice (some ⟨p.1, 0, none⟩) m p.2.1) (M := fun p => pt p.1 (.cells (ys ++ p.2.2).toArray E (0, 0)) :: L) rfl (cls_write rfl hS rfl) (blt_some hd) (fun p => st (p.1, p.2.2))
    (fun act w mt hh => by
      have hop : ∀ r, (Builtin.append_ #[t, t] TT #[.slice a 0 0, .slice a2 m cap2]).run X.P w = r → (execOp act.eval (⟨some d, .call { callee := .builtin .append, args := #[x, y], argTypes := #[t, t] }, TT, pos, af, none⟩ : Oper)).run X.P w = r.andThen fun v w' => .ok (.value v) w' := fun r hr => by
        simp only [execOp, resolve, invoke, builtin, Sem.run_bind, Sem.run_pure, Result.andThen_ok, List.map_toArray, List.map_cons, List.map_nil, mt.ev hx, mt.ev hy, hr]
      have hy2 : Reads w a2 m s ys := by
        obtain ⟨im, hp, r, st'⟩ := hh
        exact g.get im hp w r.imw r.hw st'
      obtain ⟨nc, zs, h1, h2, hr⟩ := run_append_more (P := X.P) (w := w) (t := t) (ty := TT) (E := E) (s := s) (a := a) (n := 0) (cap := 0) (m := m) (cap2 := cap2) (xs := []) (ys := ys) ⟨by simp, .inl rfl⟩ hy2 hs (fun _ => ⟨rfl, rfl⟩) (Nat.le_refl _) (by omega) (by simpa using hb) (by omega)
      rw [hop _ hr]
      simp only [Nat.zero_add, List.nil_append] at h1 h2 ⊢
      exact ⟨(w.heap.size, nc, zs), ⟨h1, by rw [h2, hzc], hy2.1⟩, rfl, hh.alloc _ rfl rfl rfl rfl⟩)
    (fun p hp => j_ent (Ent.mkV (n := m) (nc := p.2.1) hp.2.2 hp.1 hp.2.1 L) (h (some ⟨p.1, 0, none⟩) p.2.1 (by omega)))
theorem r_appendQ {t : TypeId} {x y : Operand} {by_ : Nat} {a a2 : Option Addr} {n c c2 v : Nat} {q : List Nat} {z : Value} [tu : TUnd X.P t (.slice T.uint32)] [te : TElem X.P T.uint32 1 by_ z]
    (hx : ev e x = some (.slice a n c)) (hy : ev e y = some (.slice a2 1 c2)) [g : RdS a2 1 1 [kU v] L] (hzc : z.cells.size = 1) (hb : (n + 1) * by_ ≤ 140737488355328) (h63 : n + 1 ≤ 9223372036854775807)
    (h : ∀ a' c', J X ((d, .slice a' (n + 1) c') :: e) (que a' (n + 1) c' (q ++ [v]) :: L) (sw X.P (Holds X.Φ []) S ops R (k + 1) l)) (hS : S.contains k = false := by rfl) (hd : Nat.blt d X.n = true := by rfl) :
    J X e (que a n c q :: L) (sw X.P (Holds X.Φ []) S ops R k (⟨some d, .call { callee := .builtin .append, args := #[x, y], argTypes := #[t, t] }, TT, pos, af, none⟩ :: l)) := by
  by_cases hc : c = 0
  · subst hc
    rw [que_nil]
    refine j_pu fun ⟨h1, h2⟩ => ?_
    subst h1; subst h2
    refine r_appendE hx hy (by decide) hzc (by decide) (by simpa using hb) (by decide) hS hd (fun a' c' hc' => ?_)
    refine j_ent (Ent.que (q := [v]) _) ?_
    have := h a' c'
    simpa using this
  · rw [que_vec hc]
    refine r_append (n := n) (m := 1) (s := 1) (xs := q.map kU) (ys := [kU v]) hx hy (by decide) hzc (by simp [Value.oneCell']) hb h63 hS hd (fun a' c' _ => ?_)
    have e1 : q.map kU ++ [kU v] = (q ++ [v]).map kU := by simp
    rw [e1]
    exact j_ent (Ent.que (q := q ++ [v]) _) (h a' c')
end
end Go.Proofs.YtcnpkmdooekmgaaGreatDoor
namespace Go.Proofs.YtcnpkmdooekmgaaGreatDoor
open Go Sl
abbrev St.withK (S : St) (K : Kp) : St := { S with K := K }
theorem SQ.kids {S : St} {δ : Nat → Int} {l : List (Nat × Inf)} (h : SQ S δ l) : kidsK S.K ≤ 720896 := by
  have h1 := kidsN_le (l := kk l) (c := 11) (fun p hp => by
    obtain ⟨e, he, rfl⟩ := List.mem_map.1 hp
    exact h.few e he)
  have h2 := h.most
  have h3 := h.big
  have h4 : (kk l).length = l.length := by simp
  rw [h4] at h1
  rw [kidsK_rep h.rep]
  have : l.length * 11 ≤ 65536 * 11 := Nat.mul_le_mul_right _ (by omega)
  omega
attribute [local irreducible] cw sw J Exit.then Exit.inBlock Exit.noGoto bodyPost swG swL permL
set_option maxHeartbeats 1000000 in
theorem sfree_c (p : Nat) (S : St) (a : Option Addr) (n c : Nat) (q : List Nat) (P : Nat → Prop) (hS : S.wf) (hl : Loose S.K S.E fun s => s ∈ q ∨ P s) (hq : q.length ≤ 100000000) (Φ : Base) :
    Sl.Fn Tryz.prog Φ F.shadow_Store_free [ptr p, .slice a n c] [store p S, que a n c q] (fun K : Kp => Less S.K S.E K ∧ Loose K S.E P) (fun _ => .tuple #[]) (fun K => [store p (S.withK K)]) := by
  refine fo fun F => ?_
  refine jh [store p S] (j_store fun x0 hx0 => ?_)
  have hB := hx0.kids
  dsimp only [List.cons_append, List.nil_append]
  refine js (storeB p S x0) (fun L => Ent.store x0 hx0) ?_
  refine jh [que a n c q] (j_queLen fun hql => ?_)
  repeat refine s1 ?_
  refine t_loop (σ := Kp × List Nat × Option Addr × Nat × Nat) (fun z => [(1, .slice z.2.2.1 z.2.2.2.1 z.2.2.2.2), (0, ptr p)]) (fun z => que z.2.2.1 z.2.2.2.1 z.2.2.2.2 z.2.1 :: store p (S.withK z.1) :: F)
    (fun z => Less S.K S.E z.1 ∧ Loose z.1 S.E (fun s => s ∈ z.2.1 ∨ P s) ∧ z.2.1.length = z.2.2.2.1 ∧ z.2.1.length + kidsK z.1 ≤ 200000000) (fun z => z.2.1.length + kidsK z.1) (S.K, q, a, n, c) ⟨Less.refl hS, hl, hql, by dsimp only; omega⟩ ⟨rfl, rfl, trivial⟩ leD ?_
  rintro ⟨K, q, a, n, c⟩ ⟨hK, hlo, hln, hbd⟩
  dsimp only at hK hlo hln hbd ⊢
  have hwf : Kok K S.E S.frm S.cnt := hK.ok hS
  repeat refine s1 ?_
  refine r_icmp rfl rfl rfl rfl ?_
  repeat refine s1 ?_
  refine t_condS rfl (fun hpos => ?_) (fun hz => ?_)
  · rcases q with _ | ⟨s, q⟩
    · simp at hln; omega
    obtain ⟨m, rfl⟩ : ∃ m, n = m + 1 := ⟨n - 1, by omega⟩
    have hln' : q.length = m := by simpa using hln
    by_cases hc0 : c = 0
    · subst hc0
      rw [que_nil]
      exact j_pu fun ⟨h1, _⟩ => by omega
    rw [que_vec hc0]
    refine j_vec (.inl (by omega)) (fun b o pre post hab hpr hpo _ hcap => ?_)
    subst hab
    repeat refine s1 ?_
    refine r_idx rfl rfl (by omega) (by omega) rfl ?_
    refine ld (v := kU s) rfl (by rw [show ((0 : Int).toNat) * 1 = 0 from rfl, Nat.add_zero, List.append_assoc, List.getElem?_append_right (by omega), hpr, Nat.sub_self]; rfl) ?_
    repeat refine s1 ?_
    refine r_piece (s := 1) 1 (m + 1) c rfl (.inr ⟨_, rfl⟩) (.inl ⟨rfl, rfl, rfl⟩) (.inl ⟨rfl, rfl⟩) (by omega) hcap (Nat.le_refl _) rfl ?_
    rw [Option.map_some, add_at, Nat.add_sub_cancel]
    repeat refine s1 ?_
    obtain ⟨a', ha'⟩ : ∃ a', (if c = 1 then some ⟨b, o, none⟩ else some ⟨b, o + 1 * 1, none⟩ : Option Addr) = a' := ⟨_, rfl⟩
    have hqe : ∀ L, Ent (pt b (.cells (pre ++ (s :: q).map kU ++ post).toArray T.uint32 (0, 0)) :: L) (que a' m (c - 1) q :: L) := fun L => by
      by_cases hc1 : c = 1
      · subst hc1
        have hm0 : m = 0 := by omega
        subst hm0
        have : q = [] := List.eq_nil_of_length_eq_zero hln'
        subst this
        exact (Ent.drop _ _).trans (Ent.queNil _)
      · rw [if_neg hc1] at ha'
        subst ha'
        refine Ent.trans ?_ (Ent.que (q := q) _)
        have := Ent.vec (b := b) (off := o + 1 * 1) (n := m) (cap := c - 1) (E := T.uint32) (s := 1) (pre := pre ++ [kU s]) (xs := q.map kU) (post := post) (by simp [hln']) (by omega) (by simp [hpr]) (by rw [hpo]; omega) L
        simpa using this
    rw [ha']
    refine j_ent (hqe _) ?_
    clear hqe
    clear ha'
    refine jh [store p (S.withK K)] (j_store fun x hx => ?_)
    dsimp only [List.cons_append, List.nil_append]
    have hbig := hx.big
    dsimp only at hbig
    repeat refine s1 ?_
    refine r_lookup1 rfl rfl ⟨_, rfl⟩ rfl rfl ?_
    rw [mget_em kU_inj]
    have skip : ¬ (K s ≠ none ∧ S.E s = 0 ∧ innK K s = 0) → Loose K S.E (fun s => s ∈ q ∨ P s) := fun hn x h1 h2 h3 => by
      rcases hlo x h1 h2 h3 with h | h
      · rcases List.mem_cons.1 h with rfl | h
        · exact absurd ⟨h1, h2, h3⟩ hn
        · exact .inl h
      · exact .inr h
    rcases hk : K s with _ | ks
    · rw [at_none hx hk]
      repeat refine s2 ?_
      refine js (storeB p (S.withK K) x) (fun L => Ent.store x hx) ?_
      exact j_again (K, q, a', m, c - 1) ⟨hK, skip (fun h => h.1 hk), hln', by simp only [List.length_cons] at hbd; dsimp only; omega⟩ (by simp) ⟨rfl, rfl, trivial⟩ leD
    · obtain ⟨y, l1, l2, e1, e2, e3, hn⟩ := at_some (s := s) hx (by dsimp only; rw [hk]; simp)
      obtain ⟨pr, km, l⟩ := x
      dsimp only at e1 e2 e3 hx ⊢
      rw [hk] at e2
      obtain rfl := Option.some.inj e2
      subst e3
      have hh := hx.held (s, y) (by simp)
      have hin : innK K s = inn (kk (l1 ++ (s, y) :: l2)) s := innK_rep hx.rep s
      have hrg := hx.rng (s, y) (by simp)
      have hfew := hx.few (s, y) (by simp)
      dsimp only at hh hrg hfew
      have hd0 : noδ s = 0 := rfl
      rw [hd0] at hh
      have hfs : K s ≠ none := by rw [hk]; simp
      rw [e1]
      refine jh [each (l1 ++ (s, y) :: l2) infA] (j_ent (Ent.eachMid l1 (s, y) l2 infA _) (j_all ?_))
      dsimp only [List.cons_append, List.nil_append]
      obtain ⟨yp, ya, yc, yk, yh⟩ := y
      dsimp only at *
      refine jh [inf2 ⟨yp, ya, yc, yk, yh⟩] (j_leni (fun _ _ hya => ?_))
      dsimp only at hya
      repeat refine s2 ?_
      refine r_icmp rfl rfl rfl rfl ?_
      repeat refine s1 ?_
      refine t_condS rfl (fun hgt => ?_) (fun hle => ?_)
      · dsimp only at hgt
        refine js [inf1 ⟨yp, ya, yc, yk, yh⟩, inf2 ⟨yp, ya, yc, yk, yh⟩] (B := infA (s, ⟨yp, ya, yc, yk, yh⟩)) (fun L => Ent.unall [inf1 ⟨yp, ya, yc, yk, yh⟩, inf2 ⟨yp, ya, yc, yk, yh⟩] L) ?_
        refine js [infA (s, ⟨yp, ya, yc, yk, yh⟩), each (l1 ++ l2) infA] (fun L => Ent.eachUnmid l1 _ l2 infA L) ?_
        refine js (storeB p (S.withK K) ⟨pr, km, l1 ++ (s, ⟨yp, ya, yc, yk, yh⟩) :: l2⟩) (fun L => Ent.store _ hx) ?_
        repeat refine s1 ?_
        exact j_again (K, q, a', m, c - 1) ⟨hK, skip (fun h => by omega), hln', by simp only [List.length_cons] at hbd; dsimp only; omega⟩ (by simp) ⟨rfl, rfl, trivial⟩ leD
      · dsimp only at hle
        have hE0 : S.E s = 0 := by omega
        have hi0 : innK K s = 0 := by omega
        have hK1 := Less.one hwf hE0 hi0
        have hdel := kidsK_del hwf.fin hk
        obtain ⟨rk, hrk⟩ := hwf.rk
        have hself : ∀ k ∈ yk, k ≠ s ∧ K k ≠ none := fun k hk' => ⟨fun e => by have := hrk s yk hk k hk'; rw [e] at this; omega, hwf.closed s yk hk k hk'⟩
        repeat refine s1 ?_
        refine r_delete rfl rfl ⟨_, rfl⟩ rfl blt_none ?_
        rw [mdel_em kU_inj, adel_old hn]
        dsimp only [bnd]
        have hq2 := hx.del (δ' := fun s => ((yk.drop 0).count s : Int)) (fun k _ => by simp) (fun k => by
          have := List.count_le_length (l := yk) (a := k)
          simp only [List.drop_zero]; omega)
        repeat refine s1 ?_
        refine t_draw [pt p (.cells (scells (S.withK K) ⟨pr, km, l1 ++ (s, ⟨yp, ya, yc, yk, yh⟩) :: l2⟩).toArray T.shadow_Store (0, 0))] [3, 9] mixed (by decide +kernel) ?_
        repeat refine s1 ?_
        rw [show IntKind.i64.wrap (s : Int) = (s : Int) from i64_nat (by omega)]
        repeat refine s1 ?_
        refine r_subN (m := s) (n := S.frm) rfl rfl hrg.1 (by omega) rfl ?_
        have hoc : occ K S.frm (s - S.frm) = 1 := occ_some (S := S.withK K) hrg.1 hfs
        refine cl (row_drop pr S.cnt (occ K S.frm) (s - S.frm) (by omega) (by rw [hoc]; omega) Φ) ?_
        rw [hoc, ← occ_del (S := S.withK K) hrg.1]
        dsimp only
        refine js (storeB p (S.withK (upd K s none)) ⟨pr, km, l1 ++ l2⟩) (B := storeD p (S.withK (upd K s none)) (fun s => ((yk.drop 0).count s : Int))) (fun L => Ent.store (S := S.withK (upd K s none)) ⟨pr, km, l1 ++ l2⟩ hq2) ?_
        repeat refine s1 ?_
        refine t_loop (σ := Nat × Option Addr × Nat) (fun z => [(54, i64 z.1), (53, i64 yk.length), (52, .slice ya yk.length yc), (1, .slice z.2.1 (m + z.1) z.2.2), (0, ptr p)])
          (fun z => que z.2.1 (m + z.1) z.2.2 (q ++ yk.take z.1) :: storeD p (S.withK (upd K s none)) (fun s => ((yk.drop z.1).count s : Int)) :: inf2 ⟨yp, ya, yc, yk, yh⟩ :: F)
          (fun z => z.1 ≤ yk.length) (fun z => yk.length - z.1) (0, a', c - 1) (Nat.zero_le _) ⟨rfl, rfl, rfl, rfl, rfl, trivial⟩ (by dsimp only; simp only [List.take_zero, List.append_nil, Nat.add_zero]; exact Le.ent) ?_
        rintro ⟨i, a2, c2⟩ hi
        dsimp only at hi ⊢
        repeat refine s1 ?_
        refine r_icmp rfl rfl rfl rfl ?_
        repeat refine s1 ?_
        refine t_condS rfl (fun hlt => ?_) (fun hge => ?_)
        · have hil : i < yk.length := by omega
          obtain ⟨b3, o3, rfl⟩ := hya (by omega)
          have hkx : (yk.map kU)[i]? = some (kU yk[i]) := by simp [List.getElem?_eq_getElem hil]
          have hst := count_step (List.getElem?_eq_getElem hil)
          obtain ⟨hne, hkn⟩ := hself _ (List.getElem_mem hil)
          repeat refine s1 ?_
          refine ix rfl rfl hil ?_
          refine r_loadI (off := o3) (n := yk.length) (cap := yc) (E := T.uint32) (s := 1) (xs := yk.map kU) rfl (j := i) (by omega) hkx rfl rfl ?_
          refine jh [storeD p (S.withK (upd K s none)) (fun s => ((yk.drop i).count s : Int))] (j_store fun x3 hx3 => ?_)
          dsimp only [List.cons_append, List.nil_append]
          obtain ⟨z, m1, m2, g1, g2, g3, gn⟩ := at_some (s := yk[i]) hx3 (by simp only [upd]; rw [if_neg hne]; exact hkn)
          obtain ⟨pr3, km3, l3⟩ := x3
          dsimp only at g1 g3 hx3 ⊢
          subst g3
          have gh := hx3.hold (e := (yk[i], z)) (by simp)
          dsimp only at gh
          repeat refine s1 ?_
          refine r_lookup1 rfl rfl ⟨_, rfl⟩ rfl rfl ?_
          rw [mget_em kU_inj, g1]
          refine jh [each (m1 ++ (yk[i], z) :: m2) infA] (j_ent (Ent.eachMid m1 (yk[i], z) m2 infA _) (j_all ?_))
          dsimp only [List.cons_append, List.nil_append]
          repeat refine s2 ?_
          refine r_subI rfl rfl (by omega) rfl ?_
          repeat refine s1 ?_
          refine so rfl rfl ?_
          repeat refine s1 ?_
          have hq3 := hx3.bump (d := -1) (δ' := fun s => ((yk.drop (i + 1)).count s : Int)) (E' := S.E) (by have := hst yk[i]; rw [if_pos rfl] at this; dsimp only; omega)
            (fun s h => by have := hst s; rw [if_neg (Ne.symm h)] at this; exact ⟨rfl, (by first | omega | (dsimp only; omega) | (dsimp only at *; omega))⟩) (hx3.lim _) (by
              have := List.count_le_length (l := yk.drop (i + 1)) (a := yk[i])
              simp only [List.length_drop] at this
              first | omega | (dsimp only; omega))
          rw [show z.held - 1 = z.held + -1 by omega]
          refine js [pt z.p (.cells [.slice z.a z.kids.length z.c, .int .i64 (z.held + -1)].toArray T.shadow_info (0, 0)), inf2 z] (B := infA (yk[i], { z with held := z.held + -1 })) (fun L => Ent.unall [inf1 { z with held := z.held + -1 }, inf2 { z with held := z.held + -1 }] L) ?_
          refine js [infA (yk[i], { z with held := z.held + -1 }), each (m1 ++ m2) infA] (fun L => Ent.eachUnmid m1 _ m2 infA L) ?_
          have hem : em kU vI (m1 ++ (yk[i], z) :: m2) = em kU vI (m1 ++ (yk[i], { z with held := z.held + -1 }) :: m2) := by simp [em]
          rw [hem]
          refine js (storeB p (S.withK (upd K s none)) ⟨pr3, km3, m1 ++ (yk[i], { z with held := z.held + -1 }) :: m2⟩) (fun L => Ent.store _ hq3) ?_
          refine r_build1s [.tmp 74] [kU yk[i]] rfl rfl (by simp [Value.oneCell']) (by simp) rfl rfl rfl (fun b1 => ?_)
          refine jh [que a2 (m + i) c2 (q ++ yk.take i)] ?_
          refine r_appendQ (v := yk[i]) rfl rfl (by rfl) (by omega) (by omega) (fun a4 c4 => ?_)
          rw [show q ++ yk.take i ++ [yk[i]] = q ++ yk.take (i + 1) by rw [List.take_add_one, List.getElem?_eq_getElem hil]; simp]
          repeat refine s1 ?_
          exact j_again (i + 1, a4, c4) (by first | omega | (dsimp only; omega) | (dsimp only at *; omega)) (by first | omega | (dsimp only; omega) | (dsimp only at *; omega)) ⟨rfl, rfl, rfl, rfl, rfl, trivial⟩ leD
        · have hil : i = yk.length := by omega
          subst hil
          rw [List.take_of_length_le (Nat.le_refl _)]
          refine jh [storeD p (S.withK (upd K s none)) (fun s => ((yk.drop yk.length).count s : Int))] ?_
          rw [show (fun s => ((yk.drop yk.length).count s : Int)) = noδ by funext s; rw [List.drop_of_length_le (Nat.le_refl _)]; rfl]
          repeat refine s1 ?_
          refine j_again (upd K s none, q ++ yk, a2, m + yk.length, c2) ⟨hK.trans hK1, fun x h1 h2 h3 => ?_, by simp [hln'], ?_⟩ ?_ ⟨rfl, rfl, trivial⟩ leD
          · dsimp only at h1 h3
            have hx1 := innK_del hwf.fin hk x
            by_cases hm : x ∈ yk
            · exact .inl (List.mem_append.2 (.inr hm))
            · have hc0 : yk.count x = 0 := List.count_eq_zero.2 hm
              have hxs : x ≠ s := fun e => by subst e; simp [upd] at h1
              have hxk : K x ≠ none := by simpa [upd, hxs] using h1
              rcases hlo x hxk h2 (by omega) with h | h
              · rcases List.mem_cons.1 h with h | h
                · exact absurd h hxs
                · exact .inl (List.mem_append.2 (.inl h))
              · exact .inr h
          · simp only [List.length_cons, List.length_append] at hbd ⊢; omega
          · simp only [List.length_cons, List.length_append] at hbd ⊢; omega
  · have hq0 : q = [] := List.eq_nil_of_length_eq_zero (by omega)
    subst hq0
    repeat refine s1 ?_
    first
      | exact f0 K (hq := ⟨hK, fun x h1 h2 h3 => (hlo x h1 h2 h3).resolve_left (by simp)⟩)
      | exact f0' K (hq := ⟨hK, fun x h1 h2 h3 => (hlo x h1 h2 h3).resolve_left (by simp)⟩)
end Go.Proofs.YtcnpkmdooekmgaaGreatDoor
namespace Go.Proofs.YtcnpkmdooekmgaaGreatDoor
open Go Sl
theorem Less.card {K K' : Kp} {E : Nat → Nat} (hf : ∃ l, Rep l K) (h : Less K E K') : card K' ≤ card K := card_le (rep_sub hf h.sub) hf (fun s hs => by
  obtain ⟨ks, e⟩ := Option.ne_none_iff_exists'.1 hs
  rw [h.sub s ks e]; simp)
attribute [local irreducible] cw sw J Exit.then Exit.inBlock Exit.noGoto bodyPost swG swL permL
theorem smadeO_c (p : Nat) (S : St) (x : SR) (Φ : Base) : Sl.Fn Tryz.prog Φ F.shadow_Store_made [ptr p] [pt p (.cells (scells S x).toArray T.shadow_Store (0, 0))] (fun _ : Unit => True) (fun _ => .bool true) (fun _ => [pt p (.cells (scells S x).toArray T.shadow_Store (0, 0))]) := by
  refine fo fun F => ?_
  repeat refine s1 ?_
  exact f1 ()
theorem shasO_c (p : Nat) (S : St) (x : SR) (δ : Nat → Int) (s : Nat) (hx : SQ S δ x.l) (Φ : Base) : Sl.Fn Tryz.prog Φ F.shadow_Store_Has [ptr p, kU s] [pt p (.cells (scells S x).toArray T.shadow_Store (0, 0)), mp (isInt .u32) x.km (em kU vI x.l)] (fun _ : Unit => True) (fun _ => .bool (S.K s).isSome)
    (fun _ => [pt p (.cells (scells S x).toArray T.shadow_Store (0, 0)), mp (isInt .u32) x.km (em kU vI x.l)]) := by
  refine fo fun F => ?_
  repeat refine s1 ?_
  refine cl (smadeO_c p S x Φ) ?_
  repeat refine s1 ?_
  refine r_lookup1 rfl rfl ⟨_, rfl⟩ rfl rfl ?_
  rw [mget_em kU_inj]
  rcases hk : S.K s with _ | ks
  · rw [at_none hx hk]
    repeat refine s1 ?_
    exact f1 ()
  · obtain ⟨y, l1, l2, e1, _⟩ := at_some hx (s := s) (by rw [hk]; simp)
    rw [e1]
    repeat refine s1 ?_
    exact f1 ()
abbrev St.off (S : St) (s : Nat) : St := { S with E := fun t => if t = s then S.E t - 1 else S.E t }
theorem sdrop_c (p : Nat) (S : St) (r : Rf) (P : Nat → Prop) (_hr : r.wt) (hS : S.wf) (hE : 0 < S.E r.sec) (hl : Loose S.K S.E P) (Φ : Base) :
    Sl.Fn Tryz.prog Φ F.shadow_Store_Drop [ptr p, .agg (rcells r).toArray] [store p S] (fun K : Kp => Less S.K (S.off r.sec).E K ∧ Loose K (S.off r.sec).E P) (fun _ => i64 0) (fun K => [store p ((S.off r.sec).withK K)]) := by
  have hs : S.K r.sec ≠ none := hS.ext _ hE
  obtain ⟨ks, hks⟩ := Option.ne_none_iff_exists'.1 hs
  have hS' : (S.off r.sec).wf := ⟨hS.fin, hS.closed, hS.rng, fun s h => hS.ext s (by dsimp only at h; split at h <;> omega), hS.rk⟩
  refine fo fun F => ?_
  repeat refine s1 ?_
  refine r_box (cs := rcells r) rfl rfl rfl rfl (fun t3 => ?_)
  repeat refine s1 ?_
  refine cl (smade_c p S noδ Φ) ?_
  repeat refine s1 ?_
  refine jh [storeD p S noδ] (j_store fun x hx => ?_)
  dsimp only [List.cons_append, List.nil_append]
  obtain ⟨y, l1, l2, e1, e2, e3, hn⟩ := at_some hx hs
  obtain ⟨pr, km, l⟩ := x
  dsimp only at e1 e3 hx ⊢
  subst e3
  have hhd := hx.held (r.sec, y) (by simp)
  have hd0 : noδ r.sec = 0 := rfl
  dsimp only at hhd
  rw [hd0] at hhd
  have hh := hx.hold (e := (r.sec, y)) (by simp)
  dsimp only at hh
  refine jh [each (l1 ++ (r.sec, y) :: l2) infA] (j_ent (Ent.eachMid l1 (r.sec, y) l2 infA _) (j_all ?_))
  dsimp only [List.cons_append, List.nil_append]
  repeat refine s1 ?_
  refine cl (shasO_c p S ⟨pr, km, l1 ++ (r.sec, y) :: l2⟩ noδ r.sec hx Φ) ?_
  rw [hks, Option.isSome_some]
  repeat refine s1 ?_
  refine r_lookup1 rfl rfl ⟨_, rfl⟩ rfl rfl ?_
  rw [mget_em kU_inj, e1]
  repeat refine s2 ?_
  refine r_icmp rfl rfl rfl rfl ?_
  rw [decide_eq_false (show ¬ y.held = 0 by omega)]
  repeat refine s1 ?_
  refine r_lookup1 rfl rfl ⟨_, rfl⟩ rfl rfl ?_
  rw [mget_em kU_inj, e1]
  repeat refine s1 ?_
  refine r_subI rfl rfl (by omega) rfl ?_
  repeat refine s1 ?_
  refine so rfl rfl ?_
  repeat refine s1 ?_
  have hq := hx.bump (d := -1) (δ' := noδ) (E' := (S.off r.sec).E) (by simp; omega) (fun s h => by simp [h]) (by have := hx.lim r.sec; simp; omega) (by simp)
  rw [show y.held - 1 = y.held + -1 by omega]
  refine js [pt y.p (.cells [.slice y.a y.kids.length y.c, .int .i64 (y.held + -1)].toArray T.shadow_info (0, 0)), inf2 y] (B := infA (r.sec, { y with held := y.held + -1 })) (fun L => Ent.unall [inf1 { y with held := y.held + -1 }, inf2 { y with held := y.held + -1 }] L) ?_
  refine js [infA (r.sec, { y with held := y.held + -1 }), each (l1 ++ l2) infA] (fun L => Ent.eachUnmid l1 _ l2 infA L) ?_
  have hem : em kU vI (l1 ++ (r.sec, y) :: l2) = em kU vI (l1 ++ (r.sec, { y with held := y.held + -1 }) :: l2) := by simp [em]
  rw [hem]
  refine js (storeB p (S.off r.sec) ⟨pr, km, l1 ++ (r.sec, { y with held := y.held + -1 }) :: l2⟩) (fun L => Ent.store _ hq) ?_
  refine r_build1s [.tmp 43] [kU r.sec] rfl rfl (by simp [Value.oneCell']) (by simp) rfl rfl rfl (fun b1 => ?_)
  refine j_ent (Ent.que (q := [r.sec]) _) ?_
  refine cx (sfree_c p (S.off r.sec) (some ⟨b1, 0, none⟩) 1 1 [r.sec] P hS' (fun s h1 h2 h3 => ?_) (by simp) Φ) (fun K hK => ?_)
  · by_cases h : s = r.sec
    · exact .inl (by simp [h])
    · exact .inr (hl s h1 (by dsimp only at h2; rw [if_neg h] at h2; exact h2) h3)
  repeat refine s1 ?_
  exact f1 K (hq := hK)
set_option maxHeartbeats 1000000 in
theorem ssweep_c (p : Nat) (S : St) (hS : S.wf) (Φ : Base) :
    Sl.Fn Tryz.prog Φ F.shadow_Store_Sweep [ptr p] [store p S] (fun K : Kp => Swept S.K S.E K) (fun K => i64 (card S.K - card K : Nat)) (fun K => [store p (S.withK K)]) := by
  refine fo fun F => ?_
  repeat refine s1 ?_
  refine cl (smade_c p S noδ Φ) ?_
  refine jh [storeD p S noδ] (j_store fun x hx => ?_)
  dsimp only [List.cons_append, List.nil_append]
  have hlen := hx.len
  have hmost := hx.most
  have hbig := hx.big
  repeat refine s1 ?_
  refine r_lenM rfl rfl rfl ?_
  rw [show (em kU vI x.l).length = card S.K by rw [← hx.len]; simp [em]]
  repeat refine s1 ?_
  refine r_rangeM rfl rfl rfl (fun it => ?_)
  repeat refine s1 ?_
  refine j_ent (Ent.vecNil (E := T.uint32) (s := 1) _) ?_
  refine t_loop (σ := List (Nat × Inf) × (List Nat × Option Addr × Nat) × Option (Value × Value)) (fun y => [(19, ptr it), (4, .slice y.2.1.2.1 y.2.1.1.length y.2.1.2.2), (3, i64 (card S.K)), (0, ptr p)])
    (fun y => vec y.2.1.2.1 y.2.1.1.length y.2.1.2.2 T.uint32 1 (y.2.1.1.map kU) :: mit (isInt .u32) it x.km (em kU vI x.l) (em kU vI y.1) y.2.2 :: each x.l infA :: pt p (.cells (scells S x).toArray T.shadow_Store (0, 0)) :: row x.pr S.cnt (occ S.K S.frm) :: F)
    (fun y => (∀ e ∈ y.1, e ∈ x.l) ∧ y.2.1.1.length + y.1.length ≤ x.l.length ∧ Loose S.K S.E fun s => s ∈ y.2.1.1 ∨ s ∈ y.1.map Prod.fst) (fun y => y.1.length) (x.l, ([], none, 0), none)
    ⟨fun _ h => h, by simp, fun s h1 _ _ => .inr (by
      have := (rep_keys hx.rep s).2 h1
      simpa [kk, List.map_map, Function.comp_def] using this)⟩ ⟨rfl, rfl, rfl, rfl, trivial⟩ leD ?_
  rintro ⟨t, ⟨q, a, c⟩, cur⟩ ⟨hsub, hlt, hlo⟩
  dsimp only at hsub hlt hlo ⊢
  repeat refine s1 ?_
  refine r_nextM rfl rfl rfl (fun h0 => ?_) (fun l1 e l2 h1 => ?_)
  · repeat refine s1 ?_
    obtain rfl := em_nil h0
    refine j_ent Ent.mitEnd ?_
    refine js (storeB p S x) (fun L => Ent.store x hx) ?_
    refine jh [vec a q.length c T.uint32 1 (q.map kU)] (j_ent (Ent.que _) ?_)
    refine cx (sfree_c p S a q.length c q (fun _ => False) hS (fun s h1 h2 h3 => .inl ((hlo s h1 h2 h3).resolve_right (by simp))) (by omega) Φ) (fun K hK => ?_)
    have hok := hK.1.ok hS
    have hcd := hK.1.card hS.fin
    refine jh [storeD p (S.withK K) noδ] (j_store fun x2 hx2 => ?_)
    dsimp only [List.cons_append, List.nil_append]
    have hcl : (em kU vI x2.l).length = card K := by rw [← hx2.len]; simp [em]
    repeat refine s1 ?_
    refine r_lenM rfl rfl rfl ?_
    rw [hcl]
    refine r_subN (m := card S.K) (n := card K) rfl rfl hcd (by omega) rfl ?_
    repeat refine s1 ?_
    refine js (storeB p (S.withK K) x2) (fun L => Ent.store x2 hx2) ?_
    exact f1 K (hq := hK.1.swept (Loose.tight hok hK.2))
  · obtain ⟨t1, e, t2, rfl, h2, rfl⟩ := em_split h1
    rw [h2]
    rcases e with ⟨es, ep, ea, ec, ek, eh⟩
    have hmem := hsub (es, ⟨ep, ea, ec, ek, eh⟩) (by simp)
    have hhd := hx.held _ hmem
    have hd0 : noδ es = 0 := rfl
    have hin : innK S.K es = inn (kk x.l) es := innK_rep hx.rep es
    dsimp only at hhd
    rw [hd0] at hhd
    obtain ⟨m1, m2, hm⟩ := List.append_of_mem hmem
    have step : ∀ q' : List Nat, (∀ s ∈ q, s ∈ q') → (S.E es = 0 → innK S.K es = 0 → es ∈ q') → Loose S.K S.E fun s => s ∈ q' ∨ s ∈ (t1 ++ t2).map Prod.fst := fun q' h1 h2 s g1 g2 g3 => by
      rcases hlo s g1 g2 g3 with h | h
      · exact .inl (h1 s h)
      · simp only [List.map_append, List.map_cons, List.mem_append, List.mem_cons] at h ⊢
        rcases h with h | h | h
        · exact .inr (.inl h)
        · subst h; exact .inl (h2 g2 g3)
        · exact .inr (.inr h)
    repeat refine s1 ?_
    refine r_entry rfl rfl rfl ?_
    repeat refine s1 ?_
    have hlt2 : q.length + (t1 ++ t2).length + 1 ≤ x.l.length := by simp only [List.length_append, List.length_cons] at hlt ⊢; omega
    rw [hm]
    refine jh [each (m1 ++ (es, ⟨ep, ea, ec, ek, eh⟩) :: m2) infA] (j_ent (Ent.eachMid m1 _ m2 infA _) (j_all ?_))
    dsimp only [List.cons_append, List.nil_append]
    repeat refine s1 ?_
    refine r_icmp rfl rfl rfl rfl ?_
    repeat refine s1 ?_
    refine t_condSB rfl (fun he => ?_) (fun he => ?_)
    all_goals
      refine js [inf1 ⟨ep, ea, ec, ek, eh⟩, inf2 ⟨ep, ea, ec, ek, eh⟩] (B := infA (es, ⟨ep, ea, ec, ek, eh⟩)) (fun L => Ent.unall [inf1 ⟨ep, ea, ec, ek, eh⟩, inf2 ⟨ep, ea, ec, ek, eh⟩] L) ?_
      refine js [infA (es, ⟨ep, ea, ec, ek, eh⟩), each (m1 ++ m2) infA] (fun L => Ent.eachUnmid m1 _ m2 infA L) ?_
      rw [← hm]
    · repeat refine s1 ?_
      refine r_build1s [.tmp 31] [kU es] rfl rfl (by simp [Value.oneCell']) (by simp) rfl rfl rfl (fun b1 => ?_)
      refine r_append (n := q.length) (m := 1) (s := 1) (xs := q.map kU) (ys := [kU es]) rfl rfl (by decide) (by rfl) (by simp [Value.oneCell']) (by omega) (by omega) rfl rfl (fun a' c' _ => ?_)
      rw [show q.map kU ++ [kU es] = (q ++ [es]).map kU by simp, show q.length + 1 = (q ++ [es]).length by simp]
      repeat refine s1 ?_
      exact j_again (t1 ++ t2, (q ++ [es], a', c'), some (kU es, ptr ep)) ⟨fun z hz => hsub z (by rcases List.mem_append.1 hz with h | h <;> simp [h]), by simp only [List.length_append, List.length_cons, List.length_nil] at hlt2 ⊢; omega, step _ (fun s h => by simp [h]) (fun _ _ => by simp)⟩ (by simp) ⟨rfl, rfl, rfl, rfl, trivial⟩ leD
    · repeat refine s1 ?_
      have := of_decide_eq_false he
      exact j_again (t1 ++ t2, (q, a, c), some (kU es, ptr ep)) ⟨fun z hz => hsub z (by rcases List.mem_append.1 hz with h | h <;> simp [h]), by dsimp only; omega, step _ (fun s h => h) (fun h1 h2 => absurd (show eh = 0 by omega) this)⟩ (by simp) ⟨rfl, rfl, rfl, rfl, trivial⟩ leD
abbrev St0 (pd pl frm cnt : Nat) : St := ⟨pd, pl, frm, cnt, fun _ => none, fun _ => 0, fun _ => []⟩
theorem St0_wf (pd pl frm cnt : Nat) : (St0 pd pl frm cnt).wf := ⟨⟨[], Rep.nil⟩, fun s ks h => (by cases h), fun s h => absurd rfl h, fun s h => absurd h (Nat.lt_irrefl _), fun _ => 0, fun p ks h => (by cases h)⟩
theorem snew_c (pd pl frm cnt : Nat) (D : Dk) (h1 : 1 ≤ cnt) (h2 : frm + cnt ≤ D.size) (Φ : Base) :
    Sl.Fn Tryz.prog Φ F.shadow_New [ptr pd, i64 frm, i64 cnt, ptr pl] [disk pd D] (fun _ : Nat => True) (fun p => .tuple #[ptr p, i64 0]) (fun p => [store p (St0 pd pl frm cnt), disk pd D]) := by
  refine fo fun F => ?_
  repeat refine s1 ?_
  refine jh [disk pd D] (j_disk fun x hx => ?_)
  have hsz := hx.sz
  dsimp only [List.cons_append, List.nil_append]
  refine js (diskB pd D x) (fun L => Ent.disk x hx) ?_
  refine cl (dsize_c pd D Φ) ?_
  repeat refine s1 ?_
  refine r_icmp rfl rfl rfl rfl ?_
  rw [decide_eq_false (show ¬ (D.size : Int) = 0 by omega)]
  repeat refine s2 ?_
  refine r_icmp rfl rfl rfl rfl ?_
  rw [decide_eq_false (show ¬ (cnt : Int) < 1 by omega)]
  repeat refine s1 ?_
  refine cl (dsize_c pd D Φ) ?_
  repeat refine s1 ?_
  refine r_icmp rfl rfl rfl rfl ?_
  rw [decide_eq_false (show ¬ (D.size : Int) ≤ (frm : Int) by omega)]
  repeat refine s1 ?_
  refine cl (dsize_c pd D Φ) ?_
  repeat refine s1 ?_
  refine r_subN (m := D.size) (n := frm) rfl rfl (by omega) (by omega) rfl ?_
  repeat refine s1 ?_
  refine r_iop rfl rfl rfl rfl ?_
  rw [decide_eq_false (show ¬ ((D.size - frm : Nat) : Int) < (cnt : Int) by omega)]
  repeat refine s1 ?_
  refine cx (row_new cnt h1 (by omega) Φ) (fun pr _ => ?_)
  repeat refine s1 ?_
  refine r_makeMap (isInt .u32) rfl rfl (fun km => ?_)
  refine r_build (cells := scells (St0 pd pl frm cnt) ⟨pr, km, []⟩) rfl (by rfl) rfl ?_
  refine r_box (cs := scells (St0 pd pl frm cnt) ⟨pr, km, []⟩) rfl rfl rfl rfl (fun p => ?_)
  repeat refine s1 ?_
  refine j_ent (Ent.eachNil infA _) ?_
  have ho : (fun _ => 0 : Nat → Nat) = occ (St0 pd pl frm cnt).K frm := rfl
  rw [ho]
  have hq : SQ (St0 pd pl frm cnt) noδ [] := ⟨Rep.nil, fun e h => (by cases h), fun e h => (by cases h), fun e h => (by cases h), h1, by dsimp only; omega, fun s => Nat.zero_le _, fun s => ⟨by show (-1000000 : Int) ≤ 0; decide, by show (0 : Int) ≤ 1000000; decide⟩⟩
  refine js [pt p (.cells (scells (St0 pd pl frm cnt) ⟨pr, km, []⟩).toArray T.shadow_Store (0, 0)), row pr cnt (occ (St0 pd pl frm cnt).K frm), mp (isInt .u32) km [], each [] infA] (B := store p (St0 pd pl frm cnt)) (fun L => Ent.store (S := St0 pd pl frm cnt) ⟨pr, km, []⟩ hq) ?_
  exact f2 p
end Go.Proofs.YtcnpkmdooekmgaaGreatDoor
namespace Go.Proofs.YtcnpkmdooekmgaaGreatDoor
open Go Sl
instance (priority := 1200) Split.app0 (B L R : List Assn) [f : Split B L R] : Split ([] ++ B) L R := ⟨f.ent⟩
instance (priority := 1200) Split.appc (X : Assn) (A B L R : List Assn) [f : Split (X :: (A ++ B)) L R] : Split ((X :: A) ++ B) L R := ⟨f.ent⟩
instance (priority := 1200) AppL.app0 (B L C : List Assn) [f : AppL B L C] : AppL ([] ++ B) L C := ⟨f.eq⟩
instance (priority := 1200) AppL.appc (X : Assn) (A B L C : List Assn) [f : AppL (X :: (A ++ B)) L C] : AppL ((X :: A) ++ B) L C := ⟨f.eq⟩
instance (priority := 1200) Fits.app0 (B F L : List Assn) [f : Fits B F L] : Fits ([] ++ B) F L := ⟨f.ent⟩
instance (priority := 1200) Fits.appc (X : Assn) (A B F L : List Assn) [f : Fits (X :: (A ++ B)) F L] : Fits ((X :: A) ++ B) F L := ⟨f.ent⟩
/-- what a change stands on. -/
abbrev cgA (pc ps : Nat) (S : St) (D : Dk) (N e : Nat) : List Assn := [pt pc (.cells [ptr ps, i64 e].toArray T.mtree_change (0, 0)), store ps S, disk S.pd D, hlog S.pl N]
theorem inner_whole {cs : List Ch} (h : cs.length ≤ 1000) : (inner cs).whole := ⟨by simpa [inner] using h, fun h => (by cases h), fun _ => (by simp [inner])⟩
theorem inner_join (a b : List Ch) : (inner a).join (inner b) = inner (a ++ b) := by simp [Nd.join, inner]
theorem inner_wt {a b : List Ch} (h : (inner b).wt) (hs : ∀ c ∈ a, c ∈ b) : (inner a).wt := by
  refine ⟨fun k hk => ?_, fun v hv => (by cases hv), fun r hr => ?_⟩
  · obtain ⟨c, hc, rfl⟩ := List.mem_map.1 hk
    exact h.keys _ (List.mem_map.2 ⟨c, hs c hc, rfl⟩)
  · obtain ⟨c, hc, rfl⟩ := List.mem_map.1 hr
    exact h.kids _ (List.mem_map.2 ⟨c, hs c hc, rfl⟩)
theorem inner_wt2 {a b : List Ch} (h : (inner a).wt) (h' : (inner b).wt) : (inner (a ++ b)).wt := by
  refine ⟨fun k hk => ?_, fun v hv => (by cases hv), fun r hr => ?_⟩
  · obtain ⟨c, hc, rfl⟩ := List.mem_map.1 hk
    rcases List.mem_append.1 hc with hc | hc
    · exact h.keys _ (List.mem_map.2 ⟨c, hc, rfl⟩)
    · exact h'.keys _ (List.mem_map.2 ⟨c, hc, rfl⟩)
  · obtain ⟨c, hc, rfl⟩ := List.mem_map.1 hr
    rcases List.mem_append.1 hc with hc | hc
    · exact h.kids _ (List.mem_map.2 ⟨c, hc, rfl⟩)
    · exact h'.kids _ (List.mem_map.2 ⟨c, hc, rfl⟩)
/-- a part of an inner node's rows is a part's node. -/
theorem inner_piece {cs : List Ch} (hw : (inner cs).wt) {x : NR} {lo hi : Nat} (h1 : lo ≤ hi) (h2 : hi ≤ cs.length) (hk : cs.length ≤ x.kc) (hr : cs.length ≤ x.rc) (L : List Assn) :
    Ent (node (inner cs) x :: L) (node (inner ((cs.take hi).drop lo)) ⟨if x.kc = lo then x.ka else x.ka.map (·.add (lo * 1)), x.kc - lo, x.va, x.vc, if x.rc = lo then x.ra else x.ra.map (·.add (lo * 33)), x.rc - lo⟩ :: node (inner cs) x :: L) := by
  have hkl : (inner cs).keys.length = cs.length := by simp [inner]
  have hrl : (inner cs).kids.length = cs.length := by simp [inner]
  have hpl : ((cs.take hi).drop lo).length = hi - lo := by simp; omega
  have e1 : (((inner cs).keys.map w64).drop (lo * 1)).take ((hi - lo) * 1) = (inner ((cs.take hi).drop lo)).keys.map w64 := by
    simp [inner, List.map_drop, List.map_take, List.drop_take]
  have e2 : (((inner cs).kids.flatMap rcells).drop (lo * 33)).take ((hi - lo) * 33) = (inner ((cs.take hi).drop lo)).kids.flatMap rcells := by
    rw [flat_part 33 (f := rcells) (fun r hr => by simp [(hw.kids r hr).sum.1])]
    simp [inner, List.map_drop, List.map_take]
  refine (Ent.unnode L).trans ?_
  have p1 := Ent.islPiece (a := x.ka) (n := (inner cs).keys.length) (cap := x.kc) (s := 1) (E := T.uint64) (xs := (inner cs).keys.map w64) h1 (by omega) (by omega) (valsA (inner cs) x :: kidsA (inner cs) x :: node (inner cs) x :: L)
  refine p1.trans ?_
  have p2 : ∀ L, Ent (kidsA (inner cs) x :: L) (isl (if x.rc = lo then x.ra else x.ra.map (·.add (lo * 33))) (hi - lo) (x.rc - lo) T.api_Ref 33 ((((inner cs).kids.flatMap rcells).drop (lo * 33)).take ((hi - lo) * 33)) :: kidsA (inner cs) x :: L) := fun L => Ent.islPiece (a := x.ra) (n := (inner cs).kids.length) (cap := x.rc) (s := 33) (E := T.api_Ref) (xs := (inner cs).kids.flatMap rcells) h1 (by omega) (by omega) L
  refine (Ent.cons _ ((Ent.drop _ _).trans (Ent.cons _ ((p2 _).trans (Ent.cons _ (Ent.drop _ _)))))).trans ?_
  have p3 := Ent.node (n := inner ((cs.take hi).drop lo)) (x := ⟨if x.kc = lo then x.ka else x.ka.map (·.add (lo * 1)), x.kc - lo, x.va, x.vc, if x.rc = lo then x.ra else x.ra.map (·.add (lo * 33)), x.rc - lo⟩) (node (inner cs) x :: L)
  refine Ent.trans ?_ p3
  have hk1 : (inner ((cs.take hi).drop lo)).keys.length = hi - lo := by simp [inner]; omega
  have hk2 : (inner ((cs.take hi).drop lo)).kids.length = hi - lo := by simp [inner]; omega
  simp only [keysA, valsA, kidsA, hk1, hk2, ← e1, ← e2]
  exact Ent.refl _
attribute [local irreducible] cw sw J Exit.then Exit.inBlock Exit.noGoto bodyPost swG swL permL
theorem cload_c (pc ps N : Nat) (S : St) (D : Dk) (r : Rf) (m : Nd) (hr : r.wt) (hS : S.wf) (hK : S.K r.sec ≠ none) (hm : m.right) (hw : m.wt) (hsec : S.sec r.sec = m.enc) (hsum : r.sum = shaM m.enc) (ha : Agr S D) (hN : N ≤ 900000000) (Φ : Base) :
    Sl.Fn Tryz.prog Φ F.mtree_change_load [ptr pc, .agg (rcells r).toArray] (cgA pc ps S D N 0) (fun _ : NR => True) (fun y => nV (if D.down then nd0 else m) y) (fun y => cgA pc ps S D (N + 1) (if D.down then 30 else 0) ++ [node (if D.down then nd0 else m) y]) := by
  have hrg := hS.rng _ hK
  refine fo fun F => ?_
  dsimp only [List.cons_append, List.nil_append]
  repeat refine s1 ?_
  refine r_box (cs := rcells r) rfl rfl rfl rfl (fun t3 => ?_)
  refine al (cs := nbx nd0 nr0) (fun t4 => ?_)
  repeat refine s2 ?_
  rcases hd : D.down with _ | _
  · simp only [Bool.false_eq_true, if_false]
    refine t_draw2 [pt pc (.cells [ptr ps, i64 0].toArray T.mtree_change (0, 0)), pt t3 (.cells (rcells r).toArray T.api_Ref (0, 0))] [3, 4] 5 9 [9, 0, 1, 2, 3, 4, 5, 6, 7, 8, 10, 11] mixed (by decide +kernel) ?_ ?_
    · repeat refine s1 ?_
      refine s_loadW (vs := rcells r) rfl (by simp [hr.sum.1]) rfl rfl ?_
      repeat refine s1 ?_
      refine cx (sload_s ps N S D r m hr hrg.1 hrg.2 hm hw (by rw [ha.sec _ hK]; exact hsec) ha.size hd hN Φ) (fun y _ => ?_)
      rw [ldN, if_pos hsum.symm, if_pos hsum.symm]
      repeat refine s1 ?_
      refine al (cs := nbx nd0 nr0) (fun t5 => ?_)
      repeat refine s1 ?_
      refine r_storeW (vs := nbx m y) rfl rfl (by rfl) (by rfl) (by simp [Value.oneCell']) rfl ?_
      repeat refine s1 ?_
      refine so rfl rfl ?_
      repeat refine s1 ?_
      refine r_storeW (vs := nbx m y) rfl rfl (by rfl) (by rfl) (by simp [Value.oneCell']) rfl ?_
      repeat refine s1 ?_
      exact j_fin rfl (.cons (rv_agg (l := nbx m y) (U := T.node_Node) (fr := (0, 0)) rfl (by rfl)) .nil) y rfl trivial
    · repeat refine s1 ?_
      refine al (cs := nbx nd0 nr0) (fun t5 => ?_)
      repeat refine s1 ?_
      refine s_loadW (vs := rcells r) rfl (by simp [hr.sum.1]) rfl rfl ?_
      repeat refine s1 ?_
      refine cx (sload_s ps N S D r m hr hrg.1 hrg.2 hm hw (by rw [ha.sec _ hK]; exact hsec) ha.size hd hN Φ) (fun y _ => ?_)
      rw [ldN, if_pos hsum.symm, if_pos hsum.symm]
      repeat refine s1 ?_
      refine r_storeW (vs := nbx m y) rfl rfl (by rfl) (by rfl) (by simp [Value.oneCell']) rfl ?_
      repeat refine s1 ?_
      refine so rfl rfl ?_
      repeat refine s1 ?_
      refine r_storeW (vs := nbx m y) rfl rfl (by rfl) (by rfl) (by simp [Value.oneCell']) rfl ?_
      repeat refine s1 ?_
      exact j_fin rfl (.cons (rv_agg (l := nbx m y) (U := T.node_Node) (fr := (0, 0)) rfl (by rfl)) .nil) y rfl trivial
  · simp only [if_true]
    refine t_draw2 [pt pc (.cells [ptr ps, i64 0].toArray T.mtree_change (0, 0)), pt t3 (.cells (rcells r).toArray T.api_Ref (0, 0))] [3, 4] 5 9 [9, 0, 1, 2, 3, 4, 5, 6, 7, 8, 10, 11] mixed (by decide +kernel) ?_ ?_
    · repeat refine s1 ?_
      refine s_loadW (vs := rcells r) rfl (by simp [hr.sum.1]) rfl rfl ?_
      repeat refine s1 ?_
      refine cl (sload_d ps S D r hr hrg.1 hrg.2 hd Φ) ?_
      repeat refine s1 ?_
      refine al (cs := nbx nd0 nr0) (fun t5 => ?_)
      repeat refine s1 ?_
      refine r_storeW (vs := nbx nd0 nr0) rfl rfl (by rfl) (by rfl) (by simp [Value.oneCell']) rfl ?_
      repeat refine s1 ?_
      refine so rfl rfl ?_
      repeat refine s1 ?_
      refine r_storeW (vs := nbx nd0 nr0) rfl rfl (by rfl) (by rfl) (by simp [Value.oneCell']) rfl ?_
      repeat refine s1 ?_
      refine jh [hlog S.pl N] (j_ent (hlogUp (N' := N + 1) (by omega) _) ?_)
      exact j_fin rfl (.cons (rv_agg (l := nbx nd0 nr0) (U := T.node_Node) (fr := (0, 0)) rfl (by rfl)) .nil) nr0 rfl trivial
    · repeat refine s1 ?_
      refine al (cs := nbx nd0 nr0) (fun t5 => ?_)
      repeat refine s1 ?_
      refine s_loadW (vs := rcells r) rfl (by simp [hr.sum.1]) rfl rfl ?_
      repeat refine s1 ?_
      refine cl (sload_d ps S D r hr hrg.1 hrg.2 hd Φ) ?_
      repeat refine s1 ?_
      refine r_storeW (vs := nbx nd0 nr0) rfl rfl (by rfl) (by rfl) (by simp [Value.oneCell']) rfl ?_
      repeat refine s1 ?_
      refine so rfl rfl ?_
      repeat refine s1 ?_
      refine r_storeW (vs := nbx nd0 nr0) rfl rfl (by rfl) (by rfl) (by simp [Value.oneCell']) rfl ?_
      repeat refine s1 ?_
      refine jh [hlog S.pl N] (j_ent (hlogUp (N' := N + 1) (by omega) _) ?_)
      exact j_fin rfl (.cons (rv_agg (l := nbx nd0 nr0) (U := T.node_Node) (fr := (0, 0)) rfl (by rfl)) .nil) nr0 rfl trivial
set_option maxHeartbeats 1000000 in
theorem swap_c (A M B D : List Ch) (x : NR) (dk : Option Addr) (dkc : Nat) (dr : Option Addr) (drc : Nat) (hw : (inner (A ++ M ++ B)).wt) (wD : (inner D).wt) (hl : (A ++ M ++ B).length ≤ 100) (hl2 : D.length ≤ 100) (Φ : Base) :
    Sl.Fn Tryz.prog Φ F.mtree_swap [nV (inner (A ++ M ++ B)) x, i64 A.length, i64 (A.length + M.length : Nat), .slice dk D.length dkc, .slice dr D.length drc] [node (inner (A ++ M ++ B)) x, node (inner D) ⟨dk, dkc, none, 0, dr, drc⟩] (fun _ : NR => True) (fun q => nV (inner (A ++ D ++ B)) q) (fun q => [node (inner (A ++ D ++ B)) q]) := by
  obtain ⟨ka0, kc0, va0, vc0, ra0, rc0⟩ := x
  have hk : (inner (A ++ M ++ B)).keys.length = A.length + M.length + B.length := by simp [inner]; omega
  have hr : (inner (A ++ M ++ B)).kids.length = A.length + M.length + B.length := by simp [inner]; omega
  have hlen : A.length + M.length + B.length ≤ 100 := by simp at hl; omega
  have wA : (inner A).wt := inner_wt hw (fun c hc => by simp [hc])
  have wB : (inner B).wt := inner_wt hw (fun c hc => by simp [hc])
  have wAD := inner_wt2 wA wD
  refine fo fun F => ?_
  refine j_ent (Ent.unnode _) ?_
  refine j_leni (fun _ hkc _ => ?_)
  refine jh [kidsA (inner (A ++ M ++ B)) ⟨ka0, kc0, va0, vc0, ra0, rc0⟩] (j_leni (fun _ hrc _ => ?_))
  dsimp only at hkc hrc
  have pieceA : ∀ L, Ent (node (inner (A ++ M ++ B)) ⟨ka0, kc0, va0, vc0, ra0, rc0⟩ :: L) (node (inner A) ⟨if kc0 = 0 then ka0 else ka0.map (·.add (0 * 1)), kc0, va0, vc0, if rc0 = 0 then ra0 else ra0.map (·.add (0 * 33)), rc0⟩ :: node (inner (A ++ M ++ B)) ⟨ka0, kc0, va0, vc0, ra0, rc0⟩ :: L) := fun L => by
    have := inner_piece hw (x := ⟨ka0, kc0, va0, vc0, ra0, rc0⟩) (lo := 0) (hi := A.length) (Nat.zero_le _) (by simp <;> omega) (by simp <;> omega) (by simp <;> omega) L
    simpa using this
  have pieceB : ∀ L, Ent (node (inner (A ++ M ++ B)) ⟨ka0, kc0, va0, vc0, ra0, rc0⟩ :: L) (node (inner B) ⟨if kc0 = A.length + M.length then ka0 else ka0.map (·.add ((A.length + M.length) * 1)), kc0 - (A.length + M.length), va0, vc0, if rc0 = A.length + M.length then ra0 else ra0.map (·.add ((A.length + M.length) * 33)), rc0 - (A.length + M.length)⟩ :: node (inner (A ++ M ++ B)) ⟨ka0, kc0, va0, vc0, ra0, rc0⟩ :: L) := fun L => by
    have := inner_piece hw (x := ⟨ka0, kc0, va0, vc0, ra0, rc0⟩) (lo := A.length + M.length) (hi := (A ++ M ++ B).length) (by simp <;> omega) (Nat.le_refl _) (by simp <;> omega) (by simp <;> omega) L
    rw [List.take_of_length_le (Nat.le_refl _), List.drop_left' (by simp)] at this
    exact this
  repeat refine s1 ?_
  refine r_box (cs := nbx (inner (A ++ M ++ B)) ⟨ka0, kc0, va0, vc0, ra0, rc0⟩) rfl rfl rfl rfl (fun t5 => ?_)
  refine al (fun t10 => ?_)
  refine jh [node (inner (A ++ M ++ B)) ⟨ka0, kc0, va0, vc0, ra0, rc0⟩] ?_
  repeat refine s1 ?_
  refine t_draw2 [pt t5 (.cells (nbx (inner (A ++ M ++ B)) ⟨ka0, kc0, va0, vc0, ra0, rc0⟩).toArray T.node_Node (0, 0))] [0, 1] 2 3 [3, 0, 1, 2, 4, 5] mixed (by decide +kernel) ?_ ?_
  · repeat refine s1 ?_
    refine al (fun t11 => ?_)
    refine al (fun t12 => ?_)
    repeat refine s1 ?_
    refine r_storeW (vs := nbx (inner (A ++ M ++ B)) ⟨ka0, kc0, va0, vc0, ra0, rc0⟩) rfl rfl (by rfl) (by rfl) (by simp [Value.oneCell']) rfl ?_
    repeat refine s1 ?_
    refine r_storeW (vs := nbx (inner (A ++ M ++ B)) ⟨ka0, kc0, va0, vc0, ra0, rc0⟩) rfl rfl (by rfl) (by rfl) (by simp [Value.oneCell']) rfl ?_
    repeat refine s1 ?_
    refine t_draw [pt t5 (.cells (nbx (inner (A ++ M ++ B)) ⟨ka0, kc0, va0, vc0, ra0, rc0⟩).toArray T.node_Node (0, 0))] [1, 5] mixed (by decide +kernel) ?_
    repeat refine s1 ?_
    refine r_piece (s := 1) 0 A.length kc0 rfl (.inl ⟨rfl, rfl⟩) (.inr ⟨_, rfl⟩) (.inl ⟨rfl, rfl⟩) (Nat.zero_le _) (by omega) (Nat.le_refl _) rfl ?_
    repeat refine s1 ?_
    refine r_piece (s := 33) 0 A.length rc0 rfl (.inl ⟨rfl, rfl⟩) (.inr ⟨_, rfl⟩) (.inl ⟨rfl, rfl⟩) (Nat.zero_le _) (by omega) (Nat.le_refl _) rfl ?_
    repeat refine s1 ?_
    refine so rfl rfl ?_
    repeat refine s1 ?_
    refine so rfl rfl ?_
    repeat refine s1 ?_
    refine t_draw [pt t5 (.cells (nbx (inner (A ++ M ++ B)) ⟨ka0, kc0, va0, vc0, ra0, rc0⟩).toArray T.node_Node (0, 0))] [1, 5] mixed (by decide +kernel) ?_
    repeat refine s1 ?_
    refine r_piece (s := 1) (A.length + M.length) (inner (A ++ M ++ B)).keys.length kc0 rfl (.inr ⟨_, rfl⟩) (.inl ⟨rfl, rfl, rfl⟩) (.inl ⟨rfl, rfl⟩) (by omega) (by omega) (Nat.le_refl _) rfl ?_
    repeat refine s1 ?_
    refine r_piece (s := 33) (A.length + M.length) (inner (A ++ M ++ B)).kids.length rc0 rfl (.inr ⟨_, rfl⟩) (.inl ⟨rfl, rfl, rfl⟩) (.inl ⟨rfl, rfl⟩) (by omega) (by omega) (Nat.le_refl _) rfl ?_
    repeat refine s1 ?_
    refine so rfl rfl ?_
    repeat refine s1 ?_
    refine so rfl rfl ?_
    repeat refine s1 ?_
    have hXA : [Value.bool (inner (A ++ M ++ B)).leaf, .slice (if kc0 = 0 then ka0 else ka0.map (·.add (0 * 1))) (A.length - 0) (kc0 - 0), .slice va0 (inner (A ++ M ++ B)).vals.length vc0, .slice (if rc0 = 0 then ra0 else ra0.map (·.add (0 * 33))) (A.length - 0) (rc0 - 0)] = nbx (inner A) ⟨if kc0 = 0 then ka0 else ka0.map (·.add (0 * 1)), kc0, va0, vc0, if rc0 = 0 then ra0 else ra0.map (·.add (0 * 33)), rc0⟩ := by simp [nbx, inner] <;> omega
    have hXB : [Value.bool (inner (A ++ M ++ B)).leaf, .slice (if kc0 = A.length + M.length then ka0 else ka0.map (·.add ((A.length + M.length) * 1))) ((inner (A ++ M ++ B)).keys.length - (A.length + M.length)) (kc0 - (A.length + M.length)), .slice va0 (inner (A ++ M ++ B)).vals.length vc0, .slice (if rc0 = A.length + M.length then ra0 else ra0.map (·.add ((A.length + M.length) * 33))) ((inner (A ++ M ++ B)).kids.length - (A.length + M.length)) (rc0 - (A.length + M.length))] = nbx (inner B) ⟨if kc0 = A.length + M.length then ka0 else ka0.map (·.add ((A.length + M.length) * 1)), kc0 - (A.length + M.length), va0, vc0, if rc0 = A.length + M.length then ra0 else ra0.map (·.add ((A.length + M.length) * 33)), rc0 - (A.length + M.length)⟩ := by simp [nbx, inner] <;> omega
    rw [hXA, hXB]
    clear hXA hXB
    refine j_head (node (inner (A ++ M ++ B)) ⟨ka0, kc0, va0, vc0, ra0, rc0⟩) (j_ent (pieceA _) ?_)
    refine j_head (node (inner (A ++ M ++ B)) ⟨ka0, kc0, va0, vc0, ra0, rc0⟩) (j_ent (pieceB _) ?_)
    generalize hya : (⟨if kc0 = 0 then ka0 else ka0.map (·.add (0 * 1)), kc0, va0, vc0, if rc0 = 0 then ra0 else ra0.map (·.add (0 * 33)), rc0⟩ : NR) = ya at *
    generalize hyb : (⟨if kc0 = A.length + M.length then ka0 else ka0.map (·.add ((A.length + M.length) * 1)), kc0 - (A.length + M.length), va0, vc0, if rc0 = A.length + M.length then ra0 else ra0.map (·.add ((A.length + M.length) * 33)), rc0 - (A.length + M.length)⟩ : NR) = yb at *
    refine t_draw [pt t11 (.cells (nbx (inner A) ya).toArray T.node_Node (0, 0)), pt t12 (.cells (nbx (inner B) yb).toArray T.node_Node (0, 0))] [0, 5] mixed (by decide +kernel) ?_
    repeat refine s1 ?_
    refine r_build (cells := nbx (inner D) ⟨dk, dkc, none, 0, dr, drc⟩) rfl (by simp [fillL, inner, Value.cells]) rfl ?_
    refine cx (join_c (inner A) (inner D) ya ⟨dk, dkc, none, 0, dr, drc⟩ (inner_whole (by omega)) (inner_whole (by omega)) rfl wA wD Φ) (fun q1 _ => ?_)
    rw [inner_join]
    repeat refine s1 ?_
    refine cx (join_c (inner (A ++ D)) (inner B) q1 yb (inner_whole (by rw [List.length_append]; omega)) (inner_whole (by omega)) rfl wAD wB Φ) (fun q2 _ => ?_)
    rw [inner_join]
    repeat refine s1 ?_
    refine r_storeW (vs := nbx (inner (A ++ D ++ B)) q2) rfl rfl (by rfl) (by rfl) (by simp [Value.oneCell']) rfl ?_
    repeat refine s1 ?_
    exact j_fin rfl (.cons (rv_agg (l := nbx (inner (A ++ D ++ B)) q2) (U := T.node_Node) (fr := (0, 0)) rfl (by rfl)) .nil) q2 rfl trivial
  · repeat refine s1 ?_
    refine al (fun t12 => ?_)
    repeat refine s1 ?_
    refine al (fun t11 => ?_)
    repeat refine s1 ?_
    refine r_storeW (vs := nbx (inner (A ++ M ++ B)) ⟨ka0, kc0, va0, vc0, ra0, rc0⟩) rfl rfl (by rfl) (by rfl) (by simp [Value.oneCell']) rfl ?_
    repeat refine s1 ?_
    refine r_storeW (vs := nbx (inner (A ++ M ++ B)) ⟨ka0, kc0, va0, vc0, ra0, rc0⟩) rfl rfl (by rfl) (by rfl) (by simp [Value.oneCell']) rfl ?_
    repeat refine s1 ?_
    refine t_draw [pt t5 (.cells (nbx (inner (A ++ M ++ B)) ⟨ka0, kc0, va0, vc0, ra0, rc0⟩).toArray T.node_Node (0, 0))] [1, 5] mixed (by decide +kernel) ?_
    repeat refine s1 ?_
    refine r_piece (s := 1) 0 A.length kc0 rfl (.inl ⟨rfl, rfl⟩) (.inr ⟨_, rfl⟩) (.inl ⟨rfl, rfl⟩) (Nat.zero_le _) (by omega) (Nat.le_refl _) rfl ?_
    repeat refine s1 ?_
    refine r_piece (s := 33) 0 A.length rc0 rfl (.inl ⟨rfl, rfl⟩) (.inr ⟨_, rfl⟩) (.inl ⟨rfl, rfl⟩) (Nat.zero_le _) (by omega) (Nat.le_refl _) rfl ?_
    repeat refine s1 ?_
    refine so rfl rfl ?_
    repeat refine s1 ?_
    refine so rfl rfl ?_
    repeat refine s1 ?_
    refine t_draw [pt t5 (.cells (nbx (inner (A ++ M ++ B)) ⟨ka0, kc0, va0, vc0, ra0, rc0⟩).toArray T.node_Node (0, 0))] [1, 5] mixed (by decide +kernel) ?_
    repeat refine s1 ?_
    refine r_piece (s := 1) (A.length + M.length) (inner (A ++ M ++ B)).keys.length kc0 rfl (.inr ⟨_, rfl⟩) (.inl ⟨rfl, rfl, rfl⟩) (.inl ⟨rfl, rfl⟩) (by omega) (by omega) (Nat.le_refl _) rfl ?_
    repeat refine s1 ?_
    refine r_piece (s := 33) (A.length + M.length) (inner (A ++ M ++ B)).kids.length rc0 rfl (.inr ⟨_, rfl⟩) (.inl ⟨rfl, rfl, rfl⟩) (.inl ⟨rfl, rfl⟩) (by omega) (by omega) (Nat.le_refl _) rfl ?_
    repeat refine s1 ?_
    refine so rfl rfl ?_
    repeat refine s1 ?_
    refine so rfl rfl ?_
    repeat refine s1 ?_
    have hXA : [Value.bool (inner (A ++ M ++ B)).leaf, .slice (if kc0 = 0 then ka0 else ka0.map (·.add (0 * 1))) (A.length - 0) (kc0 - 0), .slice va0 (inner (A ++ M ++ B)).vals.length vc0, .slice (if rc0 = 0 then ra0 else ra0.map (·.add (0 * 33))) (A.length - 0) (rc0 - 0)] = nbx (inner A) ⟨if kc0 = 0 then ka0 else ka0.map (·.add (0 * 1)), kc0, va0, vc0, if rc0 = 0 then ra0 else ra0.map (·.add (0 * 33)), rc0⟩ := by simp [nbx, inner] <;> omega
    have hXB : [Value.bool (inner (A ++ M ++ B)).leaf, .slice (if kc0 = A.length + M.length then ka0 else ka0.map (·.add ((A.length + M.length) * 1))) ((inner (A ++ M ++ B)).keys.length - (A.length + M.length)) (kc0 - (A.length + M.length)), .slice va0 (inner (A ++ M ++ B)).vals.length vc0, .slice (if rc0 = A.length + M.length then ra0 else ra0.map (·.add ((A.length + M.length) * 33))) ((inner (A ++ M ++ B)).kids.length - (A.length + M.length)) (rc0 - (A.length + M.length))] = nbx (inner B) ⟨if kc0 = A.length + M.length then ka0 else ka0.map (·.add ((A.length + M.length) * 1)), kc0 - (A.length + M.length), va0, vc0, if rc0 = A.length + M.length then ra0 else ra0.map (·.add ((A.length + M.length) * 33)), rc0 - (A.length + M.length)⟩ := by simp [nbx, inner] <;> omega
    rw [hXA, hXB]
    clear hXA hXB
    refine j_head (node (inner (A ++ M ++ B)) ⟨ka0, kc0, va0, vc0, ra0, rc0⟩) (j_ent (pieceA _) ?_)
    refine j_head (node (inner (A ++ M ++ B)) ⟨ka0, kc0, va0, vc0, ra0, rc0⟩) (j_ent (pieceB _) ?_)
    generalize hya : (⟨if kc0 = 0 then ka0 else ka0.map (·.add (0 * 1)), kc0, va0, vc0, if rc0 = 0 then ra0 else ra0.map (·.add (0 * 33)), rc0⟩ : NR) = ya at *
    generalize hyb : (⟨if kc0 = A.length + M.length then ka0 else ka0.map (·.add ((A.length + M.length) * 1)), kc0 - (A.length + M.length), va0, vc0, if rc0 = A.length + M.length then ra0 else ra0.map (·.add ((A.length + M.length) * 33)), rc0 - (A.length + M.length)⟩ : NR) = yb at *
    refine t_draw [pt t11 (.cells (nbx (inner A) ya).toArray T.node_Node (0, 0)), pt t12 (.cells (nbx (inner B) yb).toArray T.node_Node (0, 0))] [0, 5] mixed (by decide +kernel) ?_
    repeat refine s1 ?_
    refine r_build (cells := nbx (inner D) ⟨dk, dkc, none, 0, dr, drc⟩) rfl (by simp [fillL, inner, Value.cells]) rfl ?_
    refine cx (join_c (inner A) (inner D) ya ⟨dk, dkc, none, 0, dr, drc⟩ (inner_whole (by omega)) (inner_whole (by omega)) rfl wA wD Φ) (fun q1 _ => ?_)
    rw [inner_join]
    repeat refine s1 ?_
    refine cx (join_c (inner (A ++ D)) (inner B) q1 yb (inner_whole (by rw [List.length_append]; omega)) (inner_whole (by omega)) rfl wAD wB Φ) (fun q2 _ => ?_)
    rw [inner_join]
    repeat refine s1 ?_
    refine r_storeW (vs := nbx (inner (A ++ D ++ B)) q2) rfl rfl (by rfl) (by rfl) (by simp [Value.oneCell']) rfl ?_
    repeat refine s1 ?_
    exact j_fin rfl (.cons (rv_agg (l := nbx (inner (A ++ D ++ B)) q2) (U := T.node_Node) (fr := (0, 0)) rfl (by rfl)) .nil) q2 rfl trivial
end Go.Proofs.YtcnpkmdooekmgaaGreatDoor
namespace Go.Proofs.YtcnpkmdooekmgaaGreatDoor
open Go Sl
/-- a part that is to be saved. -/
structure Pc where
  m : Nd
  y : NR
  kv : KV
  U : List Nat
abbrev mostN (n : Nd) : Nat := if n.leaf then 9 else 11
/-- a part may be saved. -/
structure PcOk (g : Gd) (lo h : Nat) (z : Pc) : Prop where
  sh : NSh g h z.m z.kv z.U
  srt : Srt z.kv
  lo : lo ≤ z.m.keys.length
  two : 2 ≤ z.m.keys.length ∨ z.m.leaf = true ∧ 1 ≤ z.m.keys.length
  most : z.m.keys.length ≤ mostN z.m
theorem PcOk.right {g : Gd} {lo h : Nat} {z : Pc} (p : PcOk g lo h z) : z.m.right := nsh_right p.sh p.srt p.two p.most
/-- what was saved. -/
structure SvOk (g : Gd) (lo h : Nat) (kv : KV) (cs : List Ch) : Prop where
  kv : cs.flatMap (·.kv) = kv
  each : ∀ c ∈ cs, fst? c.kv = some c.key ∧ Sh g lo h c.rf c.kv c.U
theorem SvOk.le {g g' : Gd} {lo h : Nat} {kv : KV} {cs : List Ch} (s : SvOk g lo h kv cs) (l : g.le g') : SvOk g' lo h kv cs := ⟨s.kv, fun c hc => ⟨(s.each c hc).1, sh_le l (s.each c hc).2⟩⟩
abbrev SvI (S : St) (D : Dk) (lo h : Nat) (P : List Pc) (x : Nat × List Ch × Nat × St × Dk × Option Addr × Nat × Option Addr × Nat) : Prop :=
  x.1 ≤ P.length ∧ x.2.1.length ≤ x.1 ∧ Chg S x.2.2.2.1 D x.2.2.2.2.1 x.1 ∧ (x.2.2.1 = 0 → x.2.1.length = x.1 ∧ SvOk x.2.2.2.1.g lo h ((P.take x.1).flatMap (·.kv)) x.2.1 ∧ (0 < x.1 → x.2.2.2.2.1.down = false) ∧ x.2.2.2.2.1.down = D.down) ∧ (x.2.2.1 ≠ 0 → Er D.down x.2.2.2.1 x.2.2.2.2.1 x.2.2.1)
theorem make_len {S : St} {D : Dk} {n : Nd} {e : Nat} {r : Rf} {S' : St} {D' : Dk} (h : MakeQ S D n (e, r, S', D')) : (rcells r).length = 33 := by
  rcases h with ⟨_, m⟩ | ⟨h, _⟩
  · have := m.wt.sum.1; dsimp only at this; simp [this]
  · dsimp only at h; subst h; rfl
theorem make_pd {S : St} {D : Dk} {n : Nd} {x : Nat × Rf × St × Dk} (h : MakeQ S D n x) : x.2.2.1.pd = S.pd ∧ x.2.2.1.pl = S.pl := by
  rcases h with ⟨_, m⟩ | ⟨_, h, _⟩
  · have := m.S'; rw [this]; exact ⟨rfl, rfl⟩
  · rw [h]; exact ⟨rfl, rfl⟩
theorem save_step {S : St} {D : Dk} {lo h : Nat} {P : List Pc} {i : Nat} {cs : List Ch} {S1 : St} {D1 : Dk} {m : Nd} {y : NR} {kvm : KV} {Um : List Nat} {k0 : Nat} {e2 : Nat} {r : Rf} {S2 : St} {D2 : Dk} {ka : Option Addr} {kc : Nat} {ra : Option Addr} {rc : Nat}
    (hP : ∀ z ∈ P, PcOk S.g lo h z) (hPi : i < P.length) (hm : P[i] = ⟨m, y, kvm, Um⟩) (hC : Chg S S1 D D1 i) (hcl : cs.length = i) (hgood : SvOk S1.g lo h ((P.take i).flatMap (·.kv)) cs) (hdn : D1.down = D.down)
    (hz : MakeQ S1 D1 m (e2, r, S2, D2)) (hk0 : m.keys.head? = some k0) : SvI S D lo h P (i + 1, cs ++ [⟨k0, r, kvm, r.sec :: Um⟩], e2, S2, D2, ka, kc, ra, rc) := by
  have hp := hP _ (List.getElem_mem hPi)
  rw [hm] at hp
  have hn := nsh_le hC.le hp.sh
  dsimp only at hn
  rcases hz with ⟨he, hmade⟩ | ⟨_, hS, hE, hc2⟩
  · dsimp only at he hmade
    subst he
    have hkn := nsh_kids_kept hn
    have hc := hmade.chg hC.ok hC.agr hkn
    refine ⟨hPi, by simp [hcl], hC.trans hc, fun _ => ⟨by simp [hcl], ⟨?_, fun c hcm => ?_⟩, fun _ => hmade.down, by rw [← hdn, hmade.up]; exact hmade.down⟩, fun h0 => absurd rfl h0⟩
    · dsimp only
      rw [List.take_add_one, List.getElem?_eq_getElem hPi, hm]
      simp [hgood.kv]
    · dsimp only at hcm ⊢
      rcases List.mem_append.1 hcm with hcm | hcm
      · exact ⟨(hgood.each c hcm).1, sh_le hc.le (hgood.each c hcm).2⟩
      · simp only [List.mem_singleton] at hcm
        subst hcm
        refine ⟨?_, hmade.sh hC.ok hC.agr hn hp.srt hp.two hp.most hp.lo hkn⟩
        dsimp only
        rw [← nsh_fst hn, hk0]
  · dsimp only at hS hE hc2
    have hne : e2 ≠ 0 := hE.ne
    subst hS
    exact ⟨hPi, by simp [hcl], hC.trans hc2, fun h0 => absurd h0 hne, fun _ => hdn ▸ hE⟩
/-- nodes that nobody turns. -/
def nodesA (P : List Pc) : Assn := im' (fun im => ∀ z ∈ P, (node z.m z.y).sat im Hp.emp) (fun hm h z hz => (node z.m z.y).mono hm (h z hz))
instance (P : List Pc) : Pers (nodesA P) := ⟨fun _ _ h => h⟩
theorem ent_nodes1 {n : Nd} {y : NR} {kv : KV} {U : List Nat} (L : List Assn) : Ent (node n y :: L) (nodesA [⟨n, y, kv, U⟩] :: L) := by
  rintro im h ⟨a1, a2, e1, e2, e3, hn, s⟩
  exact ⟨a1, a2, e1, e2, e3, fun z hz => by simp only [List.mem_singleton] at hz; subst hz; exact hn, s⟩
theorem ent_nodes2 {n m : Nd} {y z : NR} {kv kv2 : KV} {U V : List Nat} (L : List Assn) : Ent (node n y :: node m z :: L) (nodesA [⟨n, y, kv, U⟩, ⟨m, z, kv2, V⟩] :: L) := by
  rintro im h ⟨a1, a2, e1, e2, e3, hn, b1, b2, f1, f2, f3, hm, s⟩
  refine ⟨Hp.emp, h, Hp.emp_le _, Hp.le_refl _, Hp.emp_dis _, fun x hx => ?_, satL_mono (Hp.le_refl _) (Hp.le_trans f2 e2) s⟩
  simp only [List.mem_cons, List.not_mem_nil, or_false] at hx
  rcases hx with rfl | rfl
  · exact hn
  · exact hm
theorem j_nodeAt {X : Cx} {e : Env} {L : List Assn} {G : Act → World → Prop} {P : List Pc} {z : Pc} (hz : z ∈ P) (h : J X e (node z.m z.y :: nodesA P :: L) G) : J X e (nodesA P :: L) G := by
  refine j_ent ?_ h
  rintro im hp ⟨a1, a2, e1, e2, e3, hn, s⟩
  exact ⟨Hp.emp, hp, Hp.emp_le _, Hp.le_refl _, Hp.emp_dis _, hn z hz, a1, a2, e1, e2, e3, hn, s⟩
abbrev pcells (P : List Pc) : List Value := P.flatMap fun z => nbx z.m z.y
theorem pcells_at {P : List Pc} {i : Nat} (hi : i < P.length) (j : Nat) (v : Value) (hv : (nbx P[i].m P[i].y)[j]? = some v) : (pcells P)[i * 4 + j]? = some v := by
  rw [flat_in (f := fun z : Pc => nbx z.m z.y) (c := 4) (fun z _ => rfl) (List.getElem?_eq_getElem hi) (by have := (List.getElem?_eq_some_iff.1 hv).1; simpa using this)]
  exact hv
attribute [local irreducible] cw sw J Exit.then Exit.inBlock Exit.noGoto bodyPost swG swL permL
set_option maxHeartbeats 4000000 in
theorem save_c (pc ps N : Nat) (S : St) (D : Dk) (n : Nd) (x : NR) (h : Nat) (kv : KV) (U : List Nat) (hn : NSh S.g h n kv U) (hs : Srt kv) (hk : 2 ≤ n.keys.length ∨ n.leaf = true ∧ 1 ≤ n.keys.length) (hmx : n.keys.length ≤ 2 * mostN n) (hS : S.wf) (ha : Agr S D) (hN : N ≤ 800000000) (hwt : D.waits.length ≤ 800000000) (Φ : Base) (hT : Tab Φ) :
    Sl.Fn Tryz.prog Φ F.mtree_change_save [ptr pc, nV n x] (cgA pc ps S D N 0 ++ [node n x])
      (fun z : Nat × List Ch × St × Dk × Option Addr × Nat × Option Addr × Nat => Chg S z.2.2.1 D z.2.2.2.1 2 ∧ (z.1 = 0 → z.2.1.length = (if n.keys.length ≤ mostN n then 1 else 2) ∧ SvOk z.2.2.1.g (min 4 n.keys.length) h kv z.2.1 ∧ z.2.2.2.1.down = false) ∧ (z.1 ≠ 0 → Er D.down z.2.2.1 z.2.2.2.1 z.1))
      (fun z => .tuple #[.slice z.2.2.2.2.1 z.2.1.length z.2.2.2.2.2.1, .slice z.2.2.2.2.2.2.1 z.2.1.length z.2.2.2.2.2.2.2])
      (fun z => cgA pc ps z.2.2.1 z.2.2.2.1 (N + 2) z.1 ++ [node (inner z.2.1) ⟨z.2.2.2.2.1, z.2.2.2.2.2.1, none, 0, z.2.2.2.2.2.2.1, z.2.2.2.2.2.2.2⟩]) := by
  have hw := nsh_wt hn
  have hmo : mostN n ≤ 11 := by unfold mostN; split <;> omega
  have hwh : n.whole := by
    have := nsh_whole hn
    refine ⟨by omega, fun hl => ?_, fun hl => ?_⟩ <;> rw [hl] at this <;> simpa using this
  refine fo fun F => ?_
  dsimp only [List.cons_append, List.nil_append]
  repeat refine s1 ?_
  refine r_box (cs := nbx n x) rfl rfl rfl rfl (fun t3 => ?_)
  repeat refine s1 ?_
  refine t_meet (σ := Unit) (fun _ => [(6, i64 (mostN n)), (3, ptr t3), (0, ptr pc)]) (fun _ => pt t3 (.cells (nbx n x).toArray T.node_Node (0, 0)) :: node n x :: cgA pc ps S D N 0 ++ F) (fun _ => True) ?_ ?_
  · rcases hl : n.leaf with _ | _
    all_goals
      repeat refine s1 ?_
      refine j_meet () trivial ⟨?_, rfl, rfl, trivial⟩ leD
      simp [lk, mostN, hl]
  intro _ _
  dsimp only [List.cons_append, List.nil_append]
  repeat refine s1 ?_
  refine r_buildA1 (s := 4) (v := nbx n x) rfl rfl (Nat.le_of_ble_eq_true rfl) (fun b1 => ?_)
  repeat refine s1 ?_
  refine r_icmp rfl rfl rfl rfl ?_
  repeat refine s1 ?_
  refine t_meet (σ := List Pc × Nat) (fun z => [(7, .slice (some ⟨z.2, 0, none⟩) z.1.length z.1.length), (0, ptr pc)]) (fun z => pt z.2 (.cells (pcells z.1).toArray T.node_Node (0, 0)) :: nodesA z.1 :: cgA pc ps S D N 0 ++ F)
    (fun z => (∀ p ∈ z.1, PcOk S.g (min 4 n.keys.length) h p) ∧ z.1.flatMap (·.kv) = kv ∧ z.1.length = (if n.keys.length ≤ mostN n then 1 else 2)) ?_ ?_
  · refine t_condS rfl (fun hgt => ?_) (fun hle => ?_)
    · have hgt' : mostN n < n.keys.length := by omega
      repeat refine s1 ?_
      refine cx (halve_c n x hwh hw Φ) (fun y _ => ?_)
      repeat refine s1 ?_
      obtain ⟨kv1, kv2, U1, U2, e1, e2, n1, n2⟩ := nsh_part hn ((n.keys.length + 1) / 2)
      have hs' := hs
      rw [e1] at hs'
      obtain ⟨so1, so2, _⟩ := List.pairwise_append.1 hs'
      have hp1 : (n.part 0 ((n.keys.length + 1) / 2)).keys.length = (n.keys.length + 1) / 2 := by simp [Nd.part]; omega
      have hp2 : (n.part ((n.keys.length + 1) / 2) n.keys.length).keys.length = n.keys.length - (n.keys.length + 1) / 2 := by simp [Nd.part]
      have hm2 : 9 ≤ mostN n := by unfold mostN; split <;> omega
      generalize hA : n.part 0 ((n.keys.length + 1) / 2) = nA at *
      generalize hB : n.part ((n.keys.length + 1) / 2) n.keys.length = nB at *
      have hlA : nA.leaf = n.leaf := by rw [← hA]; rfl
      have hlB : nB.leaf = n.leaf := by rw [← hB]; rfl
      refine al (fun t8 => ?_)
      refine al (fun t9 => ?_)
      refine r_storeW (vs := nbx nA y.1) rfl rfl (by rfl) (by rfl) (by simp [Value.oneCell']) rfl ?_
      refine r_storeW (vs := nbx nB y.2) rfl rfl (by rfl) (by rfl) (by simp [Value.oneCell']) rfl ?_
      repeat refine s1 ?_
      refine r_buildAs (s := 4) [.tmp 30, .tmp 31] [nbx nA y.1, nbx nB y.2] rfl rfl (by simp) (Nat.le_of_ble_eq_true rfl) rfl rfl rfl (fun b2 => ?_)
      refine j_ent (Ent.unvec0 rfl _) ?_
      refine jh [node nA y.1, node nB y.2] ?_
      refine j_ent (ent_nodes2 (kv := kv1) (kv2 := kv2) (U := U1) (V := U2) _) ?_
      repeat refine s1 ?_
      refine j_meet ([⟨nA, y.1, kv1, U1⟩, ⟨nB, y.2, kv2, U2⟩], b2) ⟨fun p hp => ?_, by simp [e1], by dsimp only; rw [if_neg (by omega)]; rfl⟩ ⟨rfl, rfl, trivial⟩ (by
        have hpc : pcells [⟨nA, y.1, kv1, U1⟩, ⟨nB, y.2, kv2, U2⟩] = [nbx nA y.1, nbx nB y.2].flatten := by simp [pcells]
        dsimp only [List.cons_append, List.nil_append]
        rw [hpc]; exact Le.ent)
      simp only [List.mem_cons, List.not_mem_nil, or_false] at hp
      rcases hp with rfl | rfl
      · exact ⟨n1, so1, by dsimp only; omega, .inl (by dsimp only; omega), by dsimp only; rw [mostN, hlA]; dsimp only [mostN] at *; omega⟩
      · exact ⟨n2, so2, by dsimp only; omega, .inl (by dsimp only; omega), by dsimp only; rw [mostN, hlB]; dsimp only [mostN] at *; omega⟩
    · have hle' : n.keys.length ≤ mostN n := by omega
      repeat refine s1 ?_
      refine jh [vec (some ⟨b1, 0, none⟩) 1 1 T.node_Node 4 (nbx n x)] (j_ent (Ent.unvec0 rfl _) ?_)
      refine jh [node n x] (j_ent (ent_nodes1 (kv := kv) (U := U) _) ?_)
      refine j_meet ([⟨n, x, kv, U⟩], b1) ⟨fun p hp => ?_, by simp, by dsimp only; rw [if_pos hle']; rfl⟩ ⟨rfl, rfl, trivial⟩ (by
        have hpc : pcells [⟨n, x, kv, U⟩] = nbx n x := by simp [pcells]
        dsimp only [List.cons_append, List.nil_append]
        rw [hpc]; exact Le.ent)
      simp only [List.mem_singleton] at hp
      subst hp
      exact ⟨hn, hs, by dsimp only; omega, hk, hle'⟩
  rintro ⟨P, b⟩ ⟨hP, hPkv, hPl⟩
  dsimp only [List.cons_append, List.nil_append] at hP hPkv hPl ⊢
  have hP2 : P.length ≤ 2 := by rw [hPl]; split <;> omega
  repeat refine s1 ?_
  refine j_ent (Ent.vecNil (E := T.uint64) (s := 1) _) ?_
  refine j_ent (Ent.vecNil (E := T.api_Ref) (s := 33) _) ?_
  refine t_loop (σ := Nat × List Ch × Nat × St × Dk × Option Addr × Nat × Option Addr × Nat) (fun z => [(35, i64 z.1), (34, i64 P.length), (33, .slice (some ⟨b, 0, none⟩) P.length P.length), (10, .slice z.2.2.2.2.2.1 z.2.1.length z.2.2.2.2.2.2.1), (11, .slice z.2.2.2.2.2.2.2.1 z.2.1.length z.2.2.2.2.2.2.2.2), (0, ptr pc)])
    (fun z => vec z.2.2.2.2.2.2.2.1 z.2.1.length z.2.2.2.2.2.2.2.2 T.api_Ref 33 (z.2.1.flatMap fun c => rcells c.rf) :: vec z.2.2.2.2.2.1 z.2.1.length z.2.2.2.2.2.2.1 T.uint64 1 (z.2.1.map fun c => w64 c.key) :: pt b (.cells (pcells P).toArray T.node_Node (0, 0)) :: nodesA P :: cgA pc ps z.2.2.2.1 z.2.2.2.2.1 (N + z.1) z.2.2.1 ++ F)
    (SvI S D (min 4 n.keys.length) h P) (fun z => P.length - z.1) (0, [], 0, S, D, none, 0, none, 0) ⟨Nat.zero_le _, Nat.le_refl _, Chg.refl hS ha 0, fun _ => ⟨rfl, ⟨by simp, fun c hc => (by cases hc)⟩, fun h0 => absurd h0 (Nat.lt_irrefl _), rfl⟩, fun h0 => absurd rfl h0⟩ ⟨rfl, rfl, rfl, rfl, rfl, rfl, trivial⟩ leD ?_
  rintro ⟨i, cs, e, S1, D1, ka, kc, ra, rc⟩ ⟨hi, hcl, hC, hok, her⟩
  dsimp only [List.cons_append, List.nil_append] at hi hcl hC hok her ⊢
  repeat refine s1 ?_
  refine r_icmp rfl rfl rfl rfl ?_
  repeat refine s1 ?_
  refine t_condS rfl (fun hlt => ?_) (fun hge => ?_)
  · have hPi : i < P.length := by omega
    rcases hm : P[i] with ⟨m, y, kvm, Um⟩
    have hpk := hP _ (List.getElem_mem hPi)
    have hmr := hpk.right
    have hmw := nsh_wt hpk.sh
    have hkn := nsh_kids_kept (nsh_le hC.le hpk.sh)
    rw [hm] at hmr hmw hkn
    dsimp only at hmr hmw hkn
    have hpos := hmr.pos
    have hmost := hmr.most
    repeat refine s1 ?_
    refine ix rfl rfl hPi ?_
    refine r_loadA (vs := nbx m y) (off := 0 + i * 4) rfl (by rfl) (fun j v hv => by
      rw [List.getElem?_toArray, Nat.zero_add]
      refine pcells_at hPi j v ?_
      rw [hm]; exact hv) rfl rfl ?_
    refine al (fun t13 => ?_)
    refine r_storeW (vs := nbx m y) rfl rfl (by rfl) (by rfl) (by simp [Value.oneCell']) rfl ?_
    repeat refine s1 ?_
    by_cases he : e = 0
    · subst he
      obtain ⟨hcl0, hgood, _, hdn⟩ := hok rfl
      obtain ⟨k0, hk0⟩ : ∃ k0, m.keys.head? = some k0 := by
        cases hkk : m.keys with
        | nil => rw [hkk] at hpos; simp at hpos
        | cons a l => exact ⟨a, rfl⟩
      have hk0w : (m.keys.map w64)[0]? = some (w64 k0) := by
        rw [List.getElem?_map, ← List.head?_eq_getElem?, hk0]; rfl
      repeat refine s2 ?_
      refine r_icmp rfl rfl rfl rfl ?_
      rw [decide_eq_false (show ¬ (m.keys.length : Int) = 0 by omega)]
      repeat refine s1 ?_
      refine jh [nodesA P] (j_nodeAt (z := ⟨m, y, kvm, Um⟩) (by rw [← hm]; exact List.getElem_mem hPi) ?_)
      dsimp only
      refine j_ent (Ent.unnode _) ?_
      refine j_leni (fun _ _ hka => ?_)
      obtain ⟨kb, ko, hkb⟩ := hka hpos
      obtain ⟨mka, mkc, mva, mvc, mra, mrc⟩ := y
      dsimp only at hkb
      subst hkb
      dsimp only [List.cons_append, List.nil_append]
      refine t_draw2 [pt pc (.cells [ptr ps, i64 0].toArray T.mtree_change (0, 0)), pt t13 (.cells (nbx m ⟨some ⟨kb, ko, none⟩, mkc, mva, mvc, mra, mrc⟩).toArray T.node_Node (0, 0))] [3, 4] 5 9 [9, 0, 1, 2, 3, 4, 5, 6, 7, 8, 10, 11] mixed (by decide +kernel) ?_ ?_
      · repeat refine s1 ?_
        refine cx (smake_c ps (N + i) S1 D1 m ⟨some ⟨kb, ko, none⟩, mkc, mva, mvc, mra, mrc⟩ hmr hmw hC.ok hC.agr hkn (by omega) (by have := hC.dle.len; omega) Φ hT) (fun z hz => ?_)
        obtain ⟨e2, r, S2, D2⟩ := z
        obtain ⟨hpd, hpl⟩ := make_pd hz
        repeat refine s1 ?_
        refine al (cs := rcells Rf0) (fun t14 => ?_)
        repeat refine s1 ?_
        dsimp only at hpd hpl ⊢
        have hrl := make_len hz
        refine r_storeW (vs := rcells r) rfl rfl hrl (by rfl) (by simp [Value.oneCell']) rfl ?_
        repeat refine s1 ?_
        refine so rfl rfl ?_
        repeat refine s1 ?_
        rw [← hpd, ← hpl]
        have hfin := (fun ka kc ra rc => save_step (ka := ka) (kc := kc) (ra := ra) (rc := rc) hP hPi hm hC hcl0 hgood hdn hz hk0)
        have hck : (cs.map fun c => w64 c.key) ++ [w64 k0] = (cs ++ [(⟨k0, r, kvm, r.sec :: Um⟩ : Ch)]).map fun c => w64 c.key := by simp
        have hcr : (cs.flatMap fun c => rcells c.rf) ++ rcells r = (cs ++ [(⟨k0, r, kvm, r.sec :: Um⟩ : Ch)]).flatMap fun c => rcells c.rf := by simp
        have hcl : (cs ++ [(⟨k0, r, kvm, r.sec :: Um⟩ : Ch)]).length = cs.length + 1 := by simp
        refine t_tree [keysA m ⟨some ⟨kb, ko, none⟩, mkc, mva, mvc, mra, mrc⟩, pt t13 (.cells (nbx m ⟨some ⟨kb, ko, none⟩, mkc, mva, mvc, mra, mrc⟩).toArray T.node_Node (0, 0)), pt t14 (.cells (rcells r).toArray T.api_Ref (0, 0))] [2, 4, 8] [0, 1, 2, 3, 4, 7, 8] (.br 5 [] (.br 6 [] (.br 9 [10, 11, 12] .done .done) (.br 9 [] (.br 6 [10, 11, 12] .done .done) .done)) (.br 9 [] (.br 5 [] (.br 6 [10, 11, 12] .done .done) .done) .done)) mixed (by decide +kernel) ?_
        repeat refine s1 ?_
        refine r_idx rfl rfl (by omega) (by have := hmr.pos; omega) rfl ?_
        repeat refine s1 ?_
        refine s_loadBy (v := w64 k0) rfl (fun w hh => run_loadI (Φ := Φ) (L := [pt t13 (.cells (nbx m ⟨some ⟨kb, ko, none⟩, mkc, mva, mvc, mra, mrc⟩).toArray T.node_Node (0, 0)), pt t14 (.cells (rcells r).toArray T.api_Ref (0, 0))]) hh (j := 0) (by simp) hk0w) rfl rfl ?_
        repeat refine s1 ?_
        refine s_loadW (vs := rcells r) rfl hrl rfl rfl ?_
        repeat refine s1 ?_
        refine t_brF ?_ ?_
        · repeat refine s1 ?_
          refine r_build1s [.tmp 67] [w64 k0] rfl rfl (by simp [Value.oneCell']) (by simp) rfl rfl rfl (fun b5 => ?_)
          repeat refine s1 ?_
          refine t_brF ?_ ?_
          · repeat refine s1 ?_
            refine r_append (n := cs.length) (m := 1) (s := 1) (xs := cs.map fun c => w64 c.key) (ys := [w64 k0]) rfl rfl (by decide) (by rfl) (by simp [Value.oneCell']) (by omega) (by omega) rfl rfl (fun ka2 kc2 _ => ?_)
            repeat refine s1 ?_
            refine t_brF ?_ ?_
            · repeat refine s1 ?_
              refine r_buildA1 (v := rcells r) rfl hrl (by decide) (fun b9 => ?_)
              repeat refine s1 ?_
              refine r_append (n := cs.length) (m := 1) (s := 33) (xs := cs.flatMap fun c => rcells c.rf) (ys := rcells r) rfl rfl (by decide) (by rfl) (by simp [Value.oneCell']) (by omega) (by omega) rfl rfl (fun ra2 rc2 _ => ?_)
              repeat refine s1 ?_
              rw [hck, hcr]
              refine j_again (i + 1, cs ++ [⟨k0, r, kvm, r.sec :: Um⟩], e2, S2, D2, ka2, kc2, ra2, rc2) (hfin ..) (by dsimp only; omega) ⟨rfl, rfl, rfl, by dsimp only; rw [hcl]; rfl, by dsimp only; rw [hcl]; rfl, rfl, trivial⟩ (by dsimp only [List.cons_append, List.nil_append]; rw [hcl]; exact Le.ent)
            exact t_brN
          refine t_br ?_ ?_
          · repeat refine s1 ?_
            refine r_buildA1 (v := rcells r) rfl hrl (by decide) (fun b9 => ?_)
            repeat refine s1 ?_
            refine t_brF ?_ ?_
            · repeat refine s1 ?_
              refine r_append (n := cs.length) (m := 1) (s := 1) (xs := cs.map fun c => w64 c.key) (ys := [w64 k0]) rfl rfl (by decide) (by rfl) (by simp [Value.oneCell']) (by omega) (by omega) rfl rfl (fun ka2 kc2 _ => ?_)
              repeat refine s1 ?_
              refine r_append (n := cs.length) (m := 1) (s := 33) (xs := cs.flatMap fun c => rcells c.rf) (ys := rcells r) rfl rfl (by decide) (by rfl) (by simp [Value.oneCell']) (by omega) (by omega) rfl rfl (fun ra2 rc2 _ => ?_)
              repeat refine s1 ?_
              rw [hck, hcr]
              refine j_again (i + 1, cs ++ [⟨k0, r, kvm, r.sec :: Um⟩], e2, S2, D2, ka2, kc2, ra2, rc2) (hfin ..) (by dsimp only; omega) ⟨rfl, rfl, rfl, by dsimp only; rw [hcl]; rfl, by dsimp only; rw [hcl]; rfl, rfl, trivial⟩ (by dsimp only [List.cons_append, List.nil_append]; rw [hcl]; exact Le.ent)
            exact t_brN
          exact t_brN
        refine t_br ?_ ?_
        · repeat refine s1 ?_
          refine r_buildA1 (v := rcells r) rfl hrl (by decide) (fun b9 => ?_)
          repeat refine s1 ?_
          refine t_brF ?_ ?_
          · repeat refine s1 ?_
            refine r_build1s [.tmp 67] [w64 k0] rfl rfl (by simp [Value.oneCell']) (by simp) rfl rfl rfl (fun b5 => ?_)
            repeat refine s1 ?_
            refine t_brF ?_ ?_
            · repeat refine s1 ?_
              refine r_append (n := cs.length) (m := 1) (s := 1) (xs := cs.map fun c => w64 c.key) (ys := [w64 k0]) rfl rfl (by decide) (by rfl) (by simp [Value.oneCell']) (by omega) (by omega) rfl rfl (fun ka2 kc2 _ => ?_)
              repeat refine s1 ?_
              refine r_append (n := cs.length) (m := 1) (s := 33) (xs := cs.flatMap fun c => rcells c.rf) (ys := rcells r) rfl rfl (by decide) (by rfl) (by simp [Value.oneCell']) (by omega) (by omega) rfl rfl (fun ra2 rc2 _ => ?_)
              repeat refine s1 ?_
              rw [hck, hcr]
              refine j_again (i + 1, cs ++ [⟨k0, r, kvm, r.sec :: Um⟩], e2, S2, D2, ka2, kc2, ra2, rc2) (hfin ..) (by dsimp only; omega) ⟨rfl, rfl, rfl, by dsimp only; rw [hcl]; rfl, by dsimp only; rw [hcl]; rfl, rfl, trivial⟩ (by dsimp only [List.cons_append, List.nil_append]; rw [hcl]; exact Le.ent)
            exact t_brN
          exact t_brN
        exact t_brN
      · repeat refine s1 ?_
        refine al (cs := rcells Rf0) (fun t14 => ?_)
        repeat refine s1 ?_
        refine cx (smake_c ps (N + i) S1 D1 m ⟨some ⟨kb, ko, none⟩, mkc, mva, mvc, mra, mrc⟩ hmr hmw hC.ok hC.agr hkn (by omega) (by have := hC.dle.len; omega) Φ hT) (fun z hz => ?_)
        obtain ⟨e2, r, S2, D2⟩ := z
        obtain ⟨hpd, hpl⟩ := make_pd hz
        repeat refine s1 ?_
        dsimp only at hpd hpl ⊢
        have hrl := make_len hz
        refine r_storeW (vs := rcells r) rfl rfl hrl (by rfl) (by simp [Value.oneCell']) rfl ?_
        repeat refine s1 ?_
        refine so rfl rfl ?_
        repeat refine s1 ?_
        rw [← hpd, ← hpl]
        have hfin := (fun ka kc ra rc => save_step (ka := ka) (kc := kc) (ra := ra) (rc := rc) hP hPi hm hC hcl0 hgood hdn hz hk0)
        have hck : (cs.map fun c => w64 c.key) ++ [w64 k0] = (cs ++ [(⟨k0, r, kvm, r.sec :: Um⟩ : Ch)]).map fun c => w64 c.key := by simp
        have hcr : (cs.flatMap fun c => rcells c.rf) ++ rcells r = (cs ++ [(⟨k0, r, kvm, r.sec :: Um⟩ : Ch)]).flatMap fun c => rcells c.rf := by simp
        have hcl : (cs ++ [(⟨k0, r, kvm, r.sec :: Um⟩ : Ch)]).length = cs.length + 1 := by simp
        refine t_tree [keysA m ⟨some ⟨kb, ko, none⟩, mkc, mva, mvc, mra, mrc⟩, pt t13 (.cells (nbx m ⟨some ⟨kb, ko, none⟩, mkc, mva, mvc, mra, mrc⟩).toArray T.node_Node (0, 0)), pt t14 (.cells (rcells r).toArray T.api_Ref (0, 0))] [2, 4, 8] [0, 1, 2, 3, 4, 7, 8] (.br 5 [] (.br 6 [] (.br 9 [10, 11, 12] .done .done) (.br 9 [] (.br 6 [10, 11, 12] .done .done) .done)) (.br 9 [] (.br 5 [] (.br 6 [10, 11, 12] .done .done) .done) .done)) mixed (by decide +kernel) ?_
        repeat refine s1 ?_
        refine r_idx rfl rfl (by omega) (by have := hmr.pos; omega) rfl ?_
        repeat refine s1 ?_
        refine s_loadBy (v := w64 k0) rfl (fun w hh => run_loadI (Φ := Φ) (L := [pt t13 (.cells (nbx m ⟨some ⟨kb, ko, none⟩, mkc, mva, mvc, mra, mrc⟩).toArray T.node_Node (0, 0)), pt t14 (.cells (rcells r).toArray T.api_Ref (0, 0))]) hh (j := 0) (by simp) hk0w) rfl rfl ?_
        repeat refine s1 ?_
        refine s_loadW (vs := rcells r) rfl hrl rfl rfl ?_
        repeat refine s1 ?_
        refine t_brF ?_ ?_
        · repeat refine s1 ?_
          refine r_build1s [.tmp 67] [w64 k0] rfl rfl (by simp [Value.oneCell']) (by simp) rfl rfl rfl (fun b5 => ?_)
          repeat refine s1 ?_
          refine t_brF ?_ ?_
          · repeat refine s1 ?_
            refine r_append (n := cs.length) (m := 1) (s := 1) (xs := cs.map fun c => w64 c.key) (ys := [w64 k0]) rfl rfl (by decide) (by rfl) (by simp [Value.oneCell']) (by omega) (by omega) rfl rfl (fun ka2 kc2 _ => ?_)
            repeat refine s1 ?_
            refine t_brF ?_ ?_
            · repeat refine s1 ?_
              refine r_buildA1 (v := rcells r) rfl hrl (by decide) (fun b9 => ?_)
              repeat refine s1 ?_
              refine r_append (n := cs.length) (m := 1) (s := 33) (xs := cs.flatMap fun c => rcells c.rf) (ys := rcells r) rfl rfl (by decide) (by rfl) (by simp [Value.oneCell']) (by omega) (by omega) rfl rfl (fun ra2 rc2 _ => ?_)
              repeat refine s1 ?_
              rw [hck, hcr]
              refine j_again (i + 1, cs ++ [⟨k0, r, kvm, r.sec :: Um⟩], e2, S2, D2, ka2, kc2, ra2, rc2) (hfin ..) (by dsimp only; omega) ⟨rfl, rfl, rfl, by dsimp only; rw [hcl]; rfl, by dsimp only; rw [hcl]; rfl, rfl, trivial⟩ (by dsimp only [List.cons_append, List.nil_append]; rw [hcl]; exact Le.ent)
            exact t_brN
          refine t_br ?_ ?_
          · repeat refine s1 ?_
            refine r_buildA1 (v := rcells r) rfl hrl (by decide) (fun b9 => ?_)
            repeat refine s1 ?_
            refine t_brF ?_ ?_
            · repeat refine s1 ?_
              refine r_append (n := cs.length) (m := 1) (s := 1) (xs := cs.map fun c => w64 c.key) (ys := [w64 k0]) rfl rfl (by decide) (by rfl) (by simp [Value.oneCell']) (by omega) (by omega) rfl rfl (fun ka2 kc2 _ => ?_)
              repeat refine s1 ?_
              refine r_append (n := cs.length) (m := 1) (s := 33) (xs := cs.flatMap fun c => rcells c.rf) (ys := rcells r) rfl rfl (by decide) (by rfl) (by simp [Value.oneCell']) (by omega) (by omega) rfl rfl (fun ra2 rc2 _ => ?_)
              repeat refine s1 ?_
              rw [hck, hcr]
              refine j_again (i + 1, cs ++ [⟨k0, r, kvm, r.sec :: Um⟩], e2, S2, D2, ka2, kc2, ra2, rc2) (hfin ..) (by dsimp only; omega) ⟨rfl, rfl, rfl, by dsimp only; rw [hcl]; rfl, by dsimp only; rw [hcl]; rfl, rfl, trivial⟩ (by dsimp only [List.cons_append, List.nil_append]; rw [hcl]; exact Le.ent)
            exact t_brN
          exact t_brN
        refine t_br ?_ ?_
        · repeat refine s1 ?_
          refine r_buildA1 (v := rcells r) rfl hrl (by decide) (fun b9 => ?_)
          repeat refine s1 ?_
          refine t_brF ?_ ?_
          · repeat refine s1 ?_
            refine r_build1s [.tmp 67] [w64 k0] rfl rfl (by simp [Value.oneCell']) (by simp) rfl rfl rfl (fun b5 => ?_)
            repeat refine s1 ?_
            refine t_brF ?_ ?_
            · repeat refine s1 ?_
              refine r_append (n := cs.length) (m := 1) (s := 1) (xs := cs.map fun c => w64 c.key) (ys := [w64 k0]) rfl rfl (by decide) (by rfl) (by simp [Value.oneCell']) (by omega) (by omega) rfl rfl (fun ka2 kc2 _ => ?_)
              repeat refine s1 ?_
              refine r_append (n := cs.length) (m := 1) (s := 33) (xs := cs.flatMap fun c => rcells c.rf) (ys := rcells r) rfl rfl (by decide) (by rfl) (by simp [Value.oneCell']) (by omega) (by omega) rfl rfl (fun ra2 rc2 _ => ?_)
              repeat refine s1 ?_
              rw [hck, hcr]
              refine j_again (i + 1, cs ++ [⟨k0, r, kvm, r.sec :: Um⟩], e2, S2, D2, ka2, kc2, ra2, rc2) (hfin ..) (by dsimp only; omega) ⟨rfl, rfl, rfl, by dsimp only; rw [hcl]; rfl, by dsimp only; rw [hcl]; rfl, rfl, trivial⟩ (by dsimp only [List.cons_append, List.nil_append]; rw [hcl]; exact Le.ent)
            exact t_brN
          exact t_brN
        exact t_brN

    · repeat refine s2 ?_
      refine r_icmp rfl rfl rfl rfl ?_
      rw [show (!decide ((e : Int) = 0)) = true by simp [he]]
      repeat refine s1 ?_
      refine jh [hlog S1.pl (N + i)] (j_ent (hlogUp (N' := N + (i + 1)) (by omega) _) ?_)
      exact j_again (i + 1, cs, e, S1, D1, ka, kc, ra, rc) ⟨hPi, by dsimp only; omega, hC.mono (Nat.le_succ _), fun h0 => absurd h0 he, her⟩ (by dsimp only; omega) ⟨rfl, rfl, rfl, rfl, rfl, rfl, trivial⟩ leD
  · have hiP : i = P.length := by omega
    subst hiP
    repeat refine s1 ?_
    refine jh [vec ka cs.length kc T.uint64 1 (cs.map fun c => w64 c.key)] (fz ?_)
    refine jh [vec ra cs.length rc T.api_Ref 33 (cs.flatMap fun c => rcells c.rf)] (fz ?_)
    refine j_ent (Ent.islNil (E := T.a44_uint8) (s := 44) (cap := 0) (a := none) _) ?_
    have ek : (cs.map fun c => w64 c.key) = (inner cs).keys.map w64 := by simp [inner]
    have er : (cs.flatMap fun c => rcells c.rf) = (inner cs).kids.flatMap rcells := by simp [inner, List.flatMap_map]
    have el : (inner cs).keys.length = cs.length := by simp [inner]
    have el2 : (inner cs).kids.length = cs.length := by simp [inner]
    refine js [isl ka cs.length kc T.uint64 1 (cs.map fun c => w64 c.key), isl none 0 0 T.a44_uint8 44 [], isl ra cs.length rc T.api_Ref 33 (cs.flatMap fun c => rcells c.rf)] (B := node (inner cs) ⟨ka, kc, none, 0, ra, rc⟩) (fun L => by
      have := Ent.node (n := inner cs) (x := ⟨ka, kc, none, 0, ra, rc⟩) L
      simp only [keysA, valsA, kidsA, el, el2, ← ek, ← er] at this
      exact this) ?_
    refine jh [hlog S1.pl (N + P.length)] (j_ent (hlogUp (N' := N + 2) (by omega) _) ?_)
    exact f2 (e, cs, S1, D1, ka, kc, ra, rc) (hq := ⟨hC.mono hP2, fun h0 => by
      obtain ⟨g1, g2, g3⟩ := hok h0
      rw [List.take_of_length_le (Nat.le_refl _), hPkv] at g2
      exact ⟨g1.trans hPl, g2, g3.1 (by rw [hPl]; split <;> omega)⟩, her⟩)
end Go.Proofs.YtcnpkmdooekmgaaGreatDoor
namespace Go.Proofs.YtcnpkmdooekmgaaGreatDoor
open Go Sl
/-- a value of several cells that is the same all along a region. -/
theorem s_loadByA {X : Cx} {e : Env} {L A : List Assn} {S : List Nat} {ops : Array Oper} {k : Nat} {l : List Oper} {R : Act → World → Prop} {d : Nat} {T : TypeId} {pos : String} {af : Array Edge} {t : TypeId} {x : Operand} {b o q : Nat} (vs : List Value) [ta : TAgg X.P t true] [ts : TSize X.P t q] (hx : ev e x = some (.pointer (some ⟨b, o, none⟩)))
    (hn : vs.length = q) (hv : ∀ w, Holds X.Φ A w → ∀ i v, vs[i]? = some v → w.cell? ⟨b, o + i, none⟩ = some v) (hd : Nat.blt d X.n = true) (hs : S.contains k = true)
    (h : J X ((d, .agg vs.toArray) :: e) L (sw X.P (Holds X.Φ A) S ops R (k + 1) l)) : J X e L (sw X.P (Holds X.Φ A) S ops R k (⟨some d, .load t x, T, pos, af, none⟩ :: l)) :=
  r_stable rfl hs rfl hd (fun a w m hh => by
    have h1 := run_loadAggC (P := X.P) (t := t) (b := b) (o := o) hn (hv w hh)
    simp only [execOp, m.ev hx, Instr.loadAt, Instr.sureAddr, pure_bind, Sem.run_bind, h1, Result.andThen_ok, Sem.run_pure]) h
/-- what comes of a change below a reference: the node that stands now where its root stood. -/
structure PutQ (S : St) (D : Dk) (lo hi h c : Nat) (kv : KV) (x : Nat × Nd × St × Dk × NR) : Prop where
  chg : Chg S x.2.2.1 D x.2.2.2.1 c
  ok : x.1 = 0 → ∃ U, NSh x.2.2.1.g h x.2.1 kv U ∧ lo ≤ x.2.1.keys.length ∧ x.2.1.keys.length ≤ mostN x.2.1 + hi ∧ x.2.2.2.1.down = false
  er : x.1 ≠ 0 → Er D.down x.2.2.1 x.2.2.2.1 x.1
  nil : x.1 ≠ 0 → x.2.1 = nd0 ∧ x.2.2.2.2 = nr0
theorem srt_mid {A B : List Ch} {c : Ch} (h : Srt ((A ++ c :: B).flatMap (·.kv))) : Srt c.kv := by
  rw [List.flatMap_append, List.flatMap_cons] at h
  exact (List.pairwise_append.1 (List.pairwise_append.1 h).2.1).1
theorem svok_nsh {g : Gd} {h : Nat} {kv : KV} {cs : List Ch} (s : SvOk g 4 h kv cs) : NSh g (h + 1) (inner cs) kv (cs.flatMap (·.U)) := nsh_succ.2 ⟨cs, rfl, s.kv.symm, rfl, s.each⟩
/-- a node with some of its kids saved anew. -/
theorem swap_nsh {S S' : St} {h : Nat} {A M B D : List Ch} {kv' kvD : KV} (hcs : ∀ c ∈ A ++ M ++ B, fst? c.kv = some c.key ∧ Sh S.g 4 h c.rf c.kv c.U) (hg : S.g.le S'.g) (hD : SvOk S'.g 4 h kvD D) (hkv : kv' = A.flatMap (·.kv) ++ (kvD ++ B.flatMap (·.kv))) :
    NSh S'.g (h + 1) (inner (A ++ D ++ B)) kv' ((A ++ D ++ B).flatMap (·.U)) :=
  nsh_swap hcs (fun c hc s hs => Gd.le_at hg (by
    obtain ⟨ks, hk, _⟩ := sh_known (hcs c (by rcases List.mem_append.1 hc with h | h <;> simp [h])).2 s hs
    rw [hk]; simp)) hD.each (by rw [hkv, hD.kv])
attribute [local irreducible] cw sw J Exit.then Exit.inBlock Exit.noGoto bodyPost swG swL permL
theorem save_e (pc ps e : Nat) (he : e ≠ 0) (Φ : Base) :
    Sl.Fn Tryz.prog Φ F.mtree_change_save [ptr pc, nV nd0 nr0] [pt pc (.cells [ptr ps, i64 e].toArray T.mtree_change (0, 0))] (fun _ : Unit => True) (fun _ => .tuple #[.slice none 0 0, .slice none 0 0]) (fun _ => [pt pc (.cells [ptr ps, i64 e].toArray T.mtree_change (0, 0))]) := by
  refine fo fun F => ?_
  repeat refine s1 ?_
  refine r_box (cs := [.bool false, .slice none 0 0, .slice none 0 0, .slice none 0 0]) rfl rfl rfl rfl (fun t3 => ?_)
  repeat refine s1 ?_
  refine r_buildA1 (s := 4) (v := [.bool false, .slice none 0 0, .slice none 0 0, .slice none 0 0]) rfl rfl (by decide) (fun b1 => ?_)
  repeat refine s2 ?_
  refine j_ent (Ent.unvec0 rfl _) ?_
  refine t_loop (σ := Nat) (fun i => [(35, i64 i), (34, i64 1), (33, .slice (some ⟨b1, 0, none⟩) 1 1), (10, .slice none 0 0), (11, .slice none 0 0), (0, ptr pc)]) (fun _ => pt b1 (.cells ([.bool false, .slice none 0 0, .slice none 0 0, .slice none 0 0] : List Value).toArray T.node_Node (0, 0)) :: pt pc (.cells [ptr ps, i64 e].toArray T.mtree_change (0, 0)) :: F) (fun i => i ≤ 1) (fun i => 1 - i) 0 (by decide) ⟨rfl, rfl, rfl, rfl, rfl, rfl, trivial⟩ leD ?_
  intro i hi
  repeat refine s1 ?_
  refine r_icmp rfl rfl rfl rfl ?_
  repeat refine s1 ?_
  refine t_condS rfl (fun hlt => ?_) (fun hge => ?_)
  · obtain rfl : i = 0 := by omega
    repeat refine s1 ?_
    refine ix rfl rfl (by decide) ?_
    refine r_loadA (vs := [.bool false, .slice none 0 0, .slice none 0 0, .slice none 0 0]) (off := 0 + 0 * 4) rfl (by rfl) (fun j v hv => by rw [List.getElem?_toArray, Nat.zero_mul, Nat.zero_add]; first | exact hv | (rw [Nat.zero_add]; exact hv)) rfl rfl ?_
    refine al (fun t13 => ?_)
    refine r_storeW (vs := [.bool false, .slice none 0 0, .slice none 0 0, .slice none 0 0]) rfl rfl (by rfl) (by rfl) (by simp [Value.oneCell']) rfl ?_
    repeat refine s2 ?_
    refine r_icmp rfl rfl rfl rfl ?_
    rw [show (!decide ((e : Int) = 0)) = true by simp [he]]
    repeat refine s1 ?_
    exact j_again 1 (by decide) (by decide) ⟨rfl, rfl, rfl, rfl, rfl, rfl, trivial⟩ leD
  · repeat refine s1 ?_
    exact f2 ()
set_option maxHeartbeats 2000000 in
theorem cput_c (pc ps k : Nat) (v : List Nat) (hk : k < 18446744073709551616) (hv : bytes 44 v) (Φ : Base) (hT : Tab Φ) : ∀ (h N : Nat) (S : St) (D : Dk) (r : Rf) (lo : Nat) (kv : KV) (U : List Nat), Sh S.g lo h r kv U → Srt kv → S.wf → Agr S D → N + 3 * (h + 1) ≤ 800000000 → D.waits.length + 2 * h ≤ 800000000 →
    Sl.Fn Tryz.prog Φ F.mtree_change_put [ptr pc, .agg (rcells r).toArray, .agg (w64 k :: v.map u8).toArray] (cgA pc ps S D N 0) (PutQ S D lo 1 h (2 * h) (ins k v kv)) (fun x => nV x.2.1 x.2.2.2.2) (fun x => cgA pc ps x.2.2.1 x.2.2.2.1 (N + 3 * (h + 1)) x.1 ++ [node x.2.1 x.2.2.2.2]) := by
  intro h
  induction h with
  | zero =>
    intro N S D r lo kv U hsh hs hS ha hN hwt
    obtain ⟨hr, m, V, hn, hmr, hlo, hsec, hsum, hK, rfl⟩ := hsh
    obtain ⟨rfl, rfl, hok⟩ := hn
    have hmw := nsh_wt (g := S.g) (h := 0) (U := []) ⟨rfl, rfl, hok⟩
    have hkl : kv.length ≤ 9 := by have := (hmr.leaf rfl).2.1; simpa [leafN] using this
    refine fo fun F => ?_
    dsimp only [List.cons_append, List.nil_append]
    repeat refine s1 ?_
    refine r_box (cs := rcells r) rfl rfl rfl rfl (fun t4 => ?_)
    refine r_box (cs := w64 k :: v.map u8) rfl rfl rfl rfl (fun t5 => ?_)
    refine al (cs := nbx nd0 nr0) (fun t6 => ?_)
    repeat refine s1 ?_
    refine r_loadW (vs := rcells r) rfl (by simp [hr.sum.1]) rfl rfl ?_
    refine cx (cload_c pc ps N S D r (leafN kv) hr hS (by rw [show S.K r.sec = S.g.K r.sec from rfl, hK]; simp) hmr hmw hsec hsum ha (by omega) Φ) (fun y _ => ?_)
    dsimp only [List.cons_append, List.nil_append]
    rcases hd : D.down with _ | _
    · simp only [Bool.false_eq_true, if_false]
      refine al (fun t7 => ?_)
      refine r_storeW (vs := nbx (leafN kv) y) rfl rfl (by rfl) (by rfl) (by simp [Value.oneCell']) rfl ?_
      rw [show nbx (leafN kv) y = [.bool true, .slice y.ka (leafN kv).keys.length y.kc, .slice y.va (leafN kv).vals.length y.vc, .slice y.ra (leafN kv).kids.length y.rc] from rfl]
      repeat refine s2 ?_
      refine r_loadA (vs := v.map u8) rfl (by simpa using hv.1) (fun j v hj => by rw [List.getElem?_toArray, Nat.add_comm, List.getElem?_cons_succ]; exact hj) rfl rfl ?_
      refine cx (put_c kv y k v hs hok (by omega) hk hv Φ) (fun q _ => ?_)
      generalize hm : leafN (ins k v kv) = m
      repeat refine s1 ?_
      refine r_storeW (vs := nbx m q) rfl rfl (by rfl) (by rfl) (by simp [Value.oneCell']) rfl ?_
      repeat refine s1 ?_
      refine jh [hlog S.pl (N + 1)] (j_ent (hlogUp (N' := N + 3 * (0 + 1)) (by omega) _) ?_)
      have hin := ins_len (k := k) (v := v) kv
      have hml : m.keys.length = (ins k v kv).length := by rw [← hm]; simp [leafN]
      have hmo : mostN m = 9 := by rw [← hm]; rfl
      have hl0 : lo ≤ kv.length := by simpa [leafN] using hlo
      exact j_fin rfl (.cons (rv_agg (l := nbx m q) (U := T.node_Node) (fr := (0, 0)) rfl (by rfl)) .nil) (0, m, S, D, q) rfl ⟨Chg.refl hS ha _, fun _ => ⟨[], ⟨hm.symm, rfl, ins_ok hk hv hok⟩, by dsimp only; omega, by dsimp only; omega, hd⟩, fun h0 => absurd rfl h0, fun h0 => absurd rfl h0⟩
    · simp only [if_true]
      refine al (fun t7 => ?_)
      refine r_storeW (vs := nbx nd0 y) rfl rfl (by rfl) (by rfl) (by simp [Value.oneCell']) rfl ?_
      repeat refine s2 ?_
      refine r_build (cells := nbx nd0 nr0) rfl (by rfl) rfl ?_
      refine r_storeW (vs := nbx nd0 nr0) rfl rfl (by rfl) (by rfl) (by simp [Value.oneCell']) rfl ?_
      repeat refine s1 ?_
      refine j_ent (ent_node0 _) ?_
      refine jh [hlog S.pl (N + 1)] (j_ent (hlogUp (N' := N + 3 * (0 + 1)) (by omega) _) ?_)
      exact j_fin rfl (.cons (rv_agg (l := nbx nd0 nr0) (U := T.node_Node) (fr := (0, 0)) rfl (by rfl)) .nil) (30, nd0, S, D, nr0) rfl ⟨Chg.refl hS ha _, fun h0 => (by cases h0), fun _ => .inr ⟨rfl, hd⟩, fun _ => ⟨rfl, rfl⟩⟩
  | succ h ih =>
    intro N S D r lo kv U hsh hs hS ha hN hwt
    obtain ⟨hr, m, V, hn, hmr, hlo, hsec, hsum, hK, rfl⟩ := hsh
    have hmw := nsh_wt hn
    have hwh : m.keys.length ≤ 11 := hmr.most
    obtain ⟨cs, hmi, hkv, hV, hcs⟩ := nsh_succ.1 hn
    have hrise := hmr.rise
    have hcl : m.keys.length = cs.length := by rw [hmi]; simp [inner]
    have hrl : m.kids.length = cs.length := by rw [hmi]; simp [inner]
    have hlf : m.leaf = false := by rw [hmi]; rfl
    have hpos : 2 ≤ cs.length := by have := (hmr.inner hlf).1; omega
    obtain ⟨A, c, B, hcut, hAl, hc1, hc2⟩ := way_cut (k := k) (cs := cs) (by intro e; rw [e] at hpos; simp at hpos) (by have := hrise; rw [hmi] at this; exact this)
    have hwk : way m.keys k = A.length := by rw [hAl, hmi]; rfl
    have hcc := hcs c (by rw [hcut]; simp)
    have hsrt := hs
    rw [hkv, hcut] at hsrt
    obtain ⟨hsA, hsB⟩ := way_sides (k := k) hsrt (fun d hd => (hcs d (by rw [hcut]; exact hd)).1) hc1 hc2
    have hcsrt := srt_mid hsrt
    have hkid : m.kids[A.length]? = some c.rf := by rw [hmi, hcut]; simp [inner]
    have hAlt : A.length < m.kids.length := by rw [hrl, hcut]; simp
    have hkid2 : m.kids[A.length] = c.rf := by have := (List.getElem?_eq_some_iff.1 hkid).2; exact this
    refine fo fun F => ?_
    dsimp only [List.cons_append, List.nil_append]
    repeat refine s1 ?_
    refine r_box (cs := rcells r) rfl rfl rfl rfl (fun t4 => ?_)
    refine r_box (cs := w64 k :: v.map u8) rfl rfl rfl rfl (fun t5 => ?_)
    refine al (cs := nbx nd0 nr0) (fun t6 => ?_)
    repeat refine s1 ?_
    refine r_loadW (vs := rcells r) rfl (by simp [hr.sum.1]) rfl rfl ?_
    refine cx (cload_c pc ps N S D r m hr hS (by rw [show S.K r.sec = S.g.K r.sec from rfl, hK]; simp) hmr hmw hsec hsum ha (by omega) Φ) (fun y _ => ?_)
    dsimp only [List.cons_append, List.nil_append]
    rcases hd : D.down with _ | _
    · simp only [Bool.false_eq_true, if_false]
      refine al (fun t7 => ?_)
      refine r_storeW (vs := nbx m y) rfl rfl (by rfl) (by rfl) (by simp [Value.oneCell']) rfl ?_
      obtain ⟨bx, hbx⟩ : ∃ bx, nbx m y = bx := ⟨_, rfl⟩
      have hbx2 : bx = [.bool false, .slice y.ka m.keys.length y.kc, .slice y.va m.vals.length y.vc, .slice y.ra m.kids.length y.rc] := by rw [← hbx]; simp [nbx, hlf]
      rw [hbx, hbx2]
      repeat refine s2 ?_
      rw [show Value.agg [Value.bool false, .slice y.ka m.keys.length y.kc, .slice y.va m.vals.length y.vc, .slice y.ra m.kids.length y.rc].toArray = nV m y by rw [← hbx2, ← hbx]]
      refine cl (way_c m y k hrise (by omega) Φ) ?_
      rw [hwk]
      repeat refine s1 ?_
      refine jh [node m y] (j_ent (Ent.unnode _) ?_)
      refine jh [kidsA m y] (j_leni (fun _ _ hka => ?_))
      obtain ⟨kb, ko, hkb⟩ := hka (by omega)
      obtain ⟨mka, mkc, mva, mvc, mra, mrc⟩ := y
      dsimp only at hkb hbx2
      subst hkb
      dsimp only
      refine ix rfl rfl hAlt ?_
      refine r_loadIA (off := ko) (n := m.kids.length) (cap := mrc) (E := T.api_Ref) (s := 33) (xs := m.kids.flatMap rcells) (vs := rcells c.rf) rfl (j := A.length * 33) (by omega) (by simp [hcc.2.1.sum.1]) (by
        have := kid_at hmw hAlt
        rw [hkid2] at this; exact this) rfl rfl ?_
      repeat refine s1 ?_
      refine r_loadW (vs := w64 k :: v.map u8) rfl (by simp [hv.1]) rfl rfl ?_
      refine cx (ih (N + 1) S D c.rf 4 c.kv c.U hcc.2 hcsrt hS ha (by omega) (by omega)) (fun z hz => ?_)
      obtain ⟨e1, n1, S1, D1, y1⟩ := z
      obtain ⟨hC1, hok1, her1, hnil1⟩ := hz
      dsimp only [List.cons_append, List.nil_append] at hC1 hok1 her1 hnil1 ⊢
      repeat refine s1 ?_
      by_cases he1 : e1 = 0
      · subst he1
        obtain ⟨U1, hn1, hlo1, hhi1, hdn1⟩ := hok1 rfl
        have hmo : 9 ≤ mostN n1 ∧ mostN n1 ≤ 11 := by unfold mostN; split <;> omega
        have hl1 := hC1.dle.len
        refine cx (save_c pc ps (N + 1 + 3 * (h + 1)) S1 D1 n1 y1 h (ins k v c.kv) U1 hn1 (ins_srt hcsrt) (.inl (by omega)) (by omega) hC1.ok hC1.agr (by omega) (by omega) Φ hT) (fun z hz => ?_)
        obtain ⟨e2, cs2, S2, D2, ka2, kc2, ra2, rc2⟩ := z
        obtain ⟨hC2, hok2, her2⟩ := hz
        dsimp only [List.cons_append, List.nil_append] at hC2 hok2 her2 ⊢
        rw [show D1.down = D.down by rw [hdn1, hd]] at her2
        have hC := (hC1.trans hC2).mono (show 2 * h + 2 ≤ 2 * (h + 1) by omega)
        repeat refine s1 ?_
        by_cases he2 : e2 = 0
        · subst he2
          obtain ⟨hl2, hsv, hdn2⟩ := hok2 rfl
          rw [show min 4 n1.keys.length = 4 by omega] at hsv
          have hl2' : 1 ≤ cs2.length ∧ cs2.length ≤ 2 := by rw [hl2]; split <;> omega
          have hcl2 : cs.length = A.length + 1 + B.length := by rw [hcut]; simp; omega
          have hm' : m = inner (A ++ [c] ++ B) := by rw [hmi, hcut]; simp
          repeat refine s2 ?_
          rw [show Value.agg [Value.bool false, .slice mka m.keys.length mkc, .slice mva m.vals.length mvc, .slice (some ⟨kb, ko, none⟩) m.kids.length mrc].toArray = nV m ⟨mka, mkc, mva, mvc, some ⟨kb, ko, none⟩, mrc⟩ by rw [← hbx2, ← hbx]]
          have hsw := swap_c A [c] B cs2 ⟨mka, mkc, mva, mvc, some ⟨kb, ko, none⟩, mrc⟩ ka2 kc2 ra2 rc2 (by rw [← hm']; exact hmw) (nsh_wt (svok_nsh hsv)) (by simp; omega) (by omega) Φ
          rw [← hm'] at hsw
          refine cx hsw (fun q _ => ?_)
          have hfin := swap_nsh (A := A) (M := [c]) (B := B) (kv' := ins k v kv) (fun d hd => hcs d (by rw [hcut]; simpa using hd)) hC.le hsv (by rw [hkv, hcut]; exact ins_mid hsA hsB)
          have hkl : (inner (A ++ cs2 ++ B)).keys.length = A.length + cs2.length + B.length := by simp [inner]; omega
          have hmo2 : mostN (inner (A ++ cs2 ++ B)) = 11 := rfl
          generalize hnA : inner (A ++ cs2 ++ B) = nA at *
          refine r_storeW (vs := nbx nA q) rfl rfl (by rfl) (by rfl) (by simp [Value.oneCell']) rfl ?_
          repeat refine s1 ?_
          refine jh [hlog S2.pl (N + 1 + 3 * (h + 1) + 2)] (j_ent (hlogUp (N' := N + 3 * (h + 1 + 1)) (by omega) _) ?_)
          exact j_fin rfl (.cons (rv_agg (l := nbx nA q) (U := T.node_Node) (fr := (0, 0)) rfl (by rfl)) .nil) (0, nA, S2, D2, q) rfl ⟨hC, fun _ => ⟨_, hfin, by dsimp only; omega, by dsimp only; omega, hdn2⟩, fun h0 => absurd rfl h0, fun h0 => absurd rfl h0⟩
        · repeat refine s1 ?_
          refine r_icmp rfl rfl rfl rfl ?_
          rw [show (!decide ((e2 : Int) = 0)) = true by simp [he2]]
          repeat refine s2 ?_
          refine r_build (cells := nbx nd0 nr0) rfl (by rfl) rfl ?_
          refine r_storeW (vs := nbx nd0 nr0) rfl rfl (by rfl) (by rfl) (by simp [Value.oneCell']) rfl ?_
          repeat refine s1 ?_
          refine j_ent (ent_node0 _) ?_
          refine jh [hlog S2.pl (N + 1 + 3 * (h + 1) + 2)] (j_ent (hlogUp (N' := N + 3 * (h + 1 + 1)) (by omega) _) ?_)
          exact j_fin rfl (.cons (rv_agg (l := nbx nd0 nr0) (U := T.node_Node) (fr := (0, 0)) rfl (by rfl)) .nil) (e2, nd0, S2, D2, nr0) rfl ⟨hC, fun h0 => absurd h0 he2, her2, fun _ => ⟨rfl, rfl⟩⟩
      · obtain ⟨h1, h2⟩ := hnil1 he1
        subst h1; subst h2
        have hC := hC1.mono (show 2 * h ≤ 2 * (h + 1) by omega)
        refine cl (save_e pc ps e1 he1 Φ) ?_
        repeat refine s2 ?_
        refine r_icmp rfl rfl rfl rfl ?_
        rw [show (!decide ((e1 : Int) = 0)) = true by simp [he1]]
        repeat refine s2 ?_
        refine r_build (cells := nbx nd0 nr0) rfl (by rfl) rfl ?_
        refine r_storeW (vs := nbx nd0 nr0) rfl rfl (by rfl) (by rfl) (by simp [Value.oneCell']) rfl ?_
        repeat refine s1 ?_
        refine j_ent (ent_node0 _) ?_
        refine jh [hlog S1.pl (N + 1 + 3 * (h + 1))] (j_ent (hlogUp (N' := N + 3 * (h + 1 + 1)) (by omega) _) ?_)
        exact j_fin rfl (.cons (rv_agg (l := nbx nd0 nr0) (U := T.node_Node) (fr := (0, 0)) rfl (by rfl)) .nil) (e1, nd0, S1, D1, nr0) rfl ⟨hC, fun h0 => absurd h0 he1, her1, fun _ => ⟨rfl, rfl⟩⟩
    · simp only [if_true]
      refine al (fun t7 => ?_)
      refine r_storeW (vs := nbx nd0 y) rfl rfl (by rfl) (by rfl) (by simp [Value.oneCell']) rfl ?_
      repeat refine s2 ?_
      refine r_build (cells := nbx nd0 nr0) rfl (by rfl) rfl ?_
      refine r_storeW (vs := nbx nd0 nr0) rfl rfl (by rfl) (by rfl) (by simp [Value.oneCell']) rfl ?_
      repeat refine s1 ?_
      refine j_ent (ent_node0 _) ?_
      refine jh [hlog S.pl (N + 1)] (j_ent (hlogUp (N' := N + 3 * (h + 1 + 1)) (by omega) _) ?_)
      exact j_fin rfl (.cons (rv_agg (l := nbx nd0 nr0) (U := T.node_Node) (fr := (0, 0)) rfl (by rfl)) .nil) (30, nd0, S, D, nr0) rfl ⟨Chg.refl hS ha _, fun h0 => (by cases h0), fun _ => .inr ⟨rfl, hd⟩, fun _ => ⟨rfl, rfl⟩⟩
end Go.Proofs.YtcnpkmdooekmgaaGreatDoor
namespace Go.Proofs.YtcnpkmdooekmgaaGreatDoor
open Go Sl
/-- the whole of a block, last of all in a region that draws its order. -/
theorem r_storeWX {X : Cx} {e : Env} {L A : List Assn} {S : List Nat} {ops : Array Oper} {k : Nat} {l : List Oper} {R : Act → World → Prop} {T : TypeId} {pos : String} {af : Array Edge} {t : TypeId} {x y : Operand} {b n : Nat} {cs vs : List Value} {U : TypeId} {f : Obj → List Assn} [ts : TSize X.P t n] (hx : ev e x = some (.pointer (some ⟨b, 0, none⟩))) (hy : ev e y = some (.agg vs.toArray))
    [g : Own b L (.cells cs.toArray U (0, 0)) f] (hn : vs.length = n) (ho : cs.length = n) (hv : ∀ v ∈ vs, v.oneCell' = true) (hs : S.contains k = false) (hxm : exm S k = true)
    (h : J X e (f (.cells vs.toArray U (0, 0))) (sw X.P (Holds X.Φ A) S ops R (k + 1) l)) : J X e L (sw X.P (Holds X.Φ A) S ops R k (⟨none, .store t x y, T, pos, af, none⟩ :: l)) :=
  r_updX (g := g) (o' := .cells vs.toArray U (0, 0)) (v := undef) hs rfl blt_none hxm (fun a w m hb => by
    refine ⟨w.setRow b vs.toArray, ?_, ?_, fun c hc => ?_, rfl, rfl, rfl⟩
    · have h1 := run_storeVarA (P := X.P) (t := t) (off := 0) hb hn (by simp; omega) hv
      have h2 : (cs.toArray.toList.take 0 ++ vs ++ cs.toArray.toList.drop (0 + n)) = vs := by simp [ho]
      rw [h2] at h1
      simp only [execOp, m.ev hx, m.ev hy, Instr.storeAt, Instr.sureAddr, pure_bind, Sem.run_bind, h1, Result.andThen_ok, Sem.run_pure, upS, and_self]
    · simp [World.setRow, Array.getElem?_modify, hb]
    · simp [World.setRow, Array.getElem?_modify, Ne.symm hc]) h
theorem del_hit {kv : KV} {i k : Nat} {u : List Nat} (hs : Srt kv) (h : kv[i]? = some (k, u)) : del k kv = kv.take i ++ kv.drop (i + 1) := by
  obtain ⟨hi, e⟩ := List.getElem?_eq_some_iff.1 h
  have hkv : kv = kv.take i ++ (k, u) :: kv.drop (i + 1) := by rw [← e, ← List.drop_eq_getElem_cons hi, List.take_append_drop]
  have hs2 := hs
  rw [hkv] at hs2
  obtain ⟨a1, a2, a3⟩ := List.pairwise_append.1 hs2
  obtain ⟨b1, b2⟩ := List.pairwise_cons.1 a2
  conv => lhs; rw [hkv]
  rw [del_app, del_none (fun x hx => by have := a3 x hx (k, u) (by simp); simp only at this; omega)]
  congr 1
  have : del k ((k, u) :: kv.drop (i + 1)) = del k (kv.drop (i + 1)) := by simp [del]
  rw [this, del_none (fun x hx => by have := b1 x hx; simp only at this; omega)]
theorem get_iff {kv : KV} {k : Nat} : get? k kv = none ↔ k ∉ kv.map (·.1) := by
  induction kv with
  | nil => simp [get?]
  | cons a l ih =>
    simp only [get?, List.map_cons, List.mem_cons, not_or]
    split
    · rename_i h; simp [h]
    · rename_i h; rw [ih]; simp [h]
/-- what comes of a taking away below a reference. -/
structure DelQ (S : St) (D : Dk) (lo h k : Nat) (kv : KV) (x : Nat × Nd × St × Dk × NR) : Prop where
  chg : Chg S x.2.2.1 D x.2.2.2.1 (2 * h)
  ok : x.1 = 0 → get? k kv ≠ none ∧ x.2.2.2.1.down = false ∧ ∃ U, NSh x.2.2.1.g h x.2.1 (del k kv) U ∧ lo ≤ x.2.1.keys.length + 1 ∧ x.2.1.keys.length ≤ mostN x.2.1
  none : x.1 = 4 → get? k kv = none ∧ x.2.2.1 = S ∧ x.2.2.2.1.down = false
  er : x.1 ≠ 0 → x.1 ≠ 4 → Er D.down x.2.2.1 x.2.2.2.1 x.1
/-- what is saved in the place of some kids. -/
structure MidQ (g : Gd) (h k : Nat) (cs : List Ch) (kv : KV) (z : List Ch × List Ch × List Ch × Nd × NR) : Prop where
  cs : cs = z.1 ++ z.2.1 ++ z.2.2.1
  mid : 1 ≤ z.2.1.length ∧ z.2.1.length ≤ 2
  sh : ∃ kv' U', NSh g h z.2.2.2.1 kv' U' ∧ Srt kv' ∧ del k kv = z.1.flatMap (·.kv) ++ (kv' ++ z.2.2.1.flatMap (·.kv))
  lo : 4 ≤ z.2.2.2.1.keys.length
  hi : z.2.2.2.1.keys.length ≤ 2 * mostN z.2.2.2.1
  low : z.2.1.length = 1 → z.2.2.2.1.keys.length ≤ mostN z.2.2.2.1
theorem nsh_wh {g : Gd} {h : Nat} {n : Nd} {kv : KV} {U : List Nat} (hn : NSh g h n kv U) (hl : n.keys.length ≤ 1000) : n.whole := by
  have := nsh_whole hn
  refine ⟨hl, fun hl => ?_, fun hl => ?_⟩ <;> rw [hl] at this <;> simpa using this
attribute [local irreducible] cw sw J Exit.then Exit.inBlock Exit.noGoto bodyPost swG swL permL
set_option maxHeartbeats 4000000 in
theorem cdel_c (pc ps k : Nat) (_hk : k < 18446744073709551616) (Φ : Base) (hT : Tab Φ) : ∀ (h N : Nat) (S : St) (D : Dk) (r : Rf) (lo : Nat) (kv : KV) (U : List Nat), Sh S.g lo h r kv U → Srt kv → S.wf → Agr S D → N + 4 * (h + 1) ≤ 800000000 → D.waits.length + 2 * h ≤ 800000000 →
    Sl.Fn Tryz.prog Φ F.mtree_change_del [ptr pc, .agg (rcells r).toArray, w64 k] (cgA pc ps S D N 0) (DelQ S D lo h k kv) (fun x => nV x.2.1 x.2.2.2.2) (fun x => cgA pc ps x.2.2.1 x.2.2.2.1 (N + 4 * (h + 1)) x.1 ++ [node x.2.1 x.2.2.2.2]) := by
  intro h
  induction h with
  | zero =>
    intro N S D r lo kv U hsh hs hS ha hN hwt
    obtain ⟨hr, m, V, hn, hmr, hlo, hsec, hsum, hK, rfl⟩ := hsh
    obtain ⟨rfl, rfl, hok⟩ := hn
    have hn0 : NSh S.g 0 (leafN kv) kv [] := ⟨rfl, rfl, hok⟩
    have hmw := nsh_wt hn0
    have hkl : kv.length ≤ 9 := by have := (hmr.leaf rfl).2.1; simpa [leafN] using this
    have hkk : (leafN kv).keys.length = kv.length := by simp [leafN]
    refine fo fun F => ?_
    dsimp only [List.cons_append, List.nil_append]
    repeat refine s1 ?_
    refine r_box (cs := rcells r) rfl rfl rfl rfl (fun t4 => ?_)
    refine al (cs := nbx nd0 nr0) (fun t6 => ?_)
    repeat refine s1 ?_
    refine r_loadW (vs := rcells r) rfl (by simp [hr.sum.1]) rfl rfl ?_
    refine cx (cload_c pc ps N S D r (leafN kv) hr hS (by rw [show S.K r.sec = S.g.K r.sec from rfl, hK]; simp) hmr hmw hsec hsum ha (by omega) Φ) (fun y _ => ?_)
    rcases hd : D.down with _ | _
    · simp only [Bool.false_eq_true, if_false]
      refine al (fun t7 => ?_)
      refine r_storeW (vs := nbx (leafN kv) y) rfl rfl (by rfl) (by rfl) (by simp [Value.oneCell']) rfl ?_
      rw [show nbx (leafN kv) y = [.bool true, .slice y.ka (leafN kv).keys.length y.kc, .slice y.va (leafN kv).vals.length y.vc, .slice y.ra (leafN kv).kids.length y.rc] from rfl]
      repeat refine s2 ?_
      refine cl (find_c (leafN kv) y k hmr.rise (by omega) Φ) ?_
      obtain ⟨b1, b2, b3⟩ := below_spec hmr.rise k
      generalize hi : below (leafN kv).keys k = i at *
      by_cases hm : k ∈ (leafN kv).keys
      · rw [decide_eq_true hm]
        have hg : get? k kv ≠ none := by rw [ne_eq, get_iff]; simpa [leafN] using hm
        obtain ⟨j, hj⟩ := List.mem_iff_getElem?.1 hm
        have hjl := (List.getElem?_eq_some_iff.1 hj).1
        have hij : j = i := by
          rcases Nat.lt_trichotomy j i with h | h | h
          · have := b2 j k h hj; omega
          · exact h
          · have h3 := List.pairwise_iff_getElem.1 hmr.rise i j (by omega) hjl h
            have h4 := b3 i _ (Nat.le_refl _) (List.getElem?_eq_getElem (by omega))
            have h5 := (List.getElem?_eq_some_iff.1 hj).2
            omega
        subst hij
        have hil : j < kv.length := by omega
        obtain ⟨u, hu⟩ : ∃ u, kv[j]? = some (k, u) := by
          have h5 := (List.getElem?_eq_some_iff.1 hj).2
          have h6 : (kv[j]'hil).1 = k := by simpa [leafN] using h5
          exact ⟨(kv[j]'hil).2, by rw [List.getElem?_eq_getElem hil]; exact congrArg some (Prod.ext h6 rfl)⟩
        have hdl := del_hit hs hu
        have hcut : ((leafN kv).part 0 j).join ((leafN kv).part (j + 1) (leafN kv).keys.length) = leafN (del k kv) := by
          have t1 : (kv.map (·.1)).take kv.length = kv.map (·.1) := List.take_of_length_le (by simp)
          have t2 : (kv.map (·.2)).take kv.length = kv.map (·.2) := List.take_of_length_le (by simp)
          rw [hdl]
          simp only [Nd.part, Nd.join, leafN, List.map_append, List.map_take, List.map_drop, List.length_map, List.drop_zero, t1, t2]
          simp
        repeat refine s1 ?_
        refine cx (cut_c (leafN kv) y j (nsh_wh hn0 (by omega)) hmw (by omega) Φ) (fun q _ => ?_)
        rw [hcut]
        have hdn : (leafN (del k kv)).keys.length + 1 = kv.length := by
          rw [hdl]
          simp only [leafN, List.length_map, List.length_append, List.length_take, List.length_drop]; omega
        have hmo : mostN (leafN (del k kv)) = 9 := rfl
        have hsh2 : NSh S.g 0 (leafN (del k kv)) (del k kv) [] := ⟨rfl, rfl, del_ok hok⟩
        generalize leafN (del k kv) = m2 at *
        refine r_storeW (vs := nbx m2 q) rfl rfl (by rfl) (by rfl) (by simp [Value.oneCell']) rfl ?_
        repeat refine s1 ?_
        refine jh [hlog S.pl (N + 1)] (j_ent (hlogUp (N' := N + 4 * (0 + 1)) (by omega) _) ?_)
        exact j_fin rfl (.cons (rv_agg (l := nbx m2 q) (U := T.node_Node) (fr := (0, 0)) rfl (by rfl)) .nil) (0, m2, S, D, q) rfl ⟨Chg.refl hS ha _, fun _ => ⟨hg, hd, [], hsh2, by dsimp only; omega, by dsimp only; omega⟩, fun h0 => (by cases h0), fun h0 => absurd rfl h0⟩
      · rw [decide_eq_false hm]
        have hg : get? k kv = none := by rw [get_iff]; simpa [leafN] using hm
        repeat refine s1 ?_
        refine so rfl rfl ?_
        repeat refine s1 ?_
        refine r_build (cells := nbx nd0 nr0) rfl (by rfl) rfl ?_
        refine r_storeW (vs := nbx nd0 nr0) rfl rfl (by rfl) (by rfl) (by simp [Value.oneCell']) rfl ?_
        repeat refine s1 ?_
        refine j_ent (ent_node0 _) ?_
        refine jh [hlog S.pl (N + 1)] (j_ent (hlogUp (N' := N + 4 * (0 + 1)) (by omega) _) ?_)
        exact j_fin rfl (.cons (rv_agg (l := nbx nd0 nr0) (U := T.node_Node) (fr := (0, 0)) rfl (by rfl)) .nil) (4, nd0, S, D, nr0) rfl ⟨Chg.refl hS ha _, fun h0 => (by cases h0), fun _ => ⟨hg, rfl, hd⟩, fun _ h0 => absurd rfl h0⟩
    · simp only [if_true]
      refine al (fun t7 => ?_)
      refine r_storeW (vs := nbx nd0 y) rfl rfl (by rfl) (by rfl) (by simp [Value.oneCell']) rfl ?_
      repeat refine s2 ?_
      refine r_build (cells := nbx nd0 nr0) rfl (by rfl) rfl ?_
      refine r_storeW (vs := nbx nd0 nr0) rfl rfl (by rfl) (by rfl) (by simp [Value.oneCell']) rfl ?_
      repeat refine s1 ?_
      refine j_ent (ent_node0 _) ?_
      refine jh [hlog S.pl (N + 1)] (j_ent (hlogUp (N' := N + 4 * (0 + 1)) (by omega) _) ?_)
      exact j_fin rfl (.cons (rv_agg (l := nbx nd0 nr0) (U := T.node_Node) (fr := (0, 0)) rfl (by rfl)) .nil) (30, nd0, S, D, nr0) rfl ⟨Chg.refl hS ha _, fun h0 => (by cases h0), fun h0 => (by cases h0), fun _ _ => .inr ⟨rfl, hd⟩⟩
  | succ h ih =>
    intro N S D r lo kv U hsh hs hS ha hN hwt
    obtain ⟨hr, m, V, hn, hmr, hlo, hsec, hsum, hK, rfl⟩ := hsh
    have hmw := nsh_wt hn
    have hwh : m.keys.length ≤ 11 := hmr.most
    obtain ⟨cs, hmi, hkv, hV, hcs⟩ := nsh_succ.1 hn
    have hrise := hmr.rise
    have hcl : m.keys.length = cs.length := by rw [hmi]; simp [inner]
    have hrl : m.kids.length = cs.length := by rw [hmi]; simp [inner]
    have hlf : m.leaf = false := by rw [hmi]; rfl
    have hpos : 2 ≤ cs.length := by have := (hmr.inner hlf).1; omega
    obtain ⟨A, c, B, hcut, hAl, hc1, hc2⟩ := way_cut (k := k) (cs := cs) (by intro e; rw [e] at hpos; simp at hpos) (by have := hrise; rw [hmi] at this; exact this)
    have hwk : way m.keys k = A.length := by rw [hAl, hmi]; rfl
    have hcc := hcs c (by rw [hcut]; simp)
    have hsrt := hs
    rw [hkv, hcut] at hsrt
    obtain ⟨hsA, hsB⟩ := way_sides (k := k) hsrt (fun d hd => (hcs d (by rw [hcut]; exact hd)).1) hc1 hc2
    have hcsrt := srt_mid hsrt
    have hdel : del k kv = A.flatMap (·.kv) ++ (del k c.kv ++ B.flatMap (·.kv)) := by rw [hkv, hcut]; exact del_mid hsA hsB
    have hget : get? k kv = get? k c.kv := by rw [hkv, hcut]; exact get_mid hsA hsB
    have hkids : ∀ (i : Nat) (d : Ch) (hd : cs[i]? = some d), ∃ hi : i < m.kids.length, m.kids[i] = d.rf := fun i d hd => by
      have hil := (List.getElem?_eq_some_iff.1 hd).1
      refine ⟨by omega, ?_⟩
      have : m.kids[i]? = some d.rf := by rw [hmi]; simp [inner, hd]
      exact (List.getElem?_eq_some_iff.1 this).2
    obtain ⟨hAlt, hkid2⟩ := hkids A.length c (by rw [hcut]; simp)
    have hcl2 : cs.length = A.length + 1 + B.length := by rw [hcut]; simp; omega
    refine fo fun F => ?_
    dsimp only [List.cons_append, List.nil_append]
    repeat refine s1 ?_
    refine r_box (cs := rcells r) rfl rfl rfl rfl (fun t4 => ?_)
    refine al (cs := nbx nd0 nr0) (fun t6 => ?_)
    repeat refine s1 ?_
    refine r_loadW (vs := rcells r) rfl (by simp [hr.sum.1]) rfl rfl ?_
    refine cx (cload_c pc ps N S D r m hr hS (by rw [show S.K r.sec = S.g.K r.sec from rfl, hK]; simp) hmr hmw hsec hsum ha (by omega) Φ) (fun y _ => ?_)
    rcases hd : D.down with _ | _
    · simp only [Bool.false_eq_true, if_false]
      refine al (fun t7 => ?_)
      refine r_storeW (vs := nbx m y) rfl rfl (by rfl) (by rfl) (by simp [Value.oneCell']) rfl ?_
      obtain ⟨bx, hbx⟩ : ∃ bx, nbx m y = bx := ⟨_, rfl⟩
      have hbx2 : bx = [.bool false, .slice y.ka m.keys.length y.kc, .slice y.va m.vals.length y.vc, .slice y.ra m.kids.length y.rc] := by rw [← hbx]; simp [nbx, hlf]
      rw [hbx, hbx2]
      repeat refine s2 ?_
      rw [show Value.agg [Value.bool false, .slice y.ka m.keys.length y.kc, .slice y.va m.vals.length y.vc, .slice y.ra m.kids.length y.rc].toArray = nV m y by rw [← hbx2, ← hbx]]
      refine cl (way_c m y k hrise (by omega) Φ) ?_
      rw [hwk]
      repeat refine s1 ?_
      refine jh [node m y] (j_ent (Ent.unnode _) ?_)
      refine jh [kidsA m y] (j_leni (fun _ _ hka => ?_))
      obtain ⟨kb, ko, hkb⟩ := hka (by omega)
      obtain ⟨mka, mkc, mva, mvc, mra, mrc⟩ := y
      dsimp only at hkb hbx2
      subst hkb
      dsimp only
      repeat refine s1 ?_
      refine ix rfl rfl hAlt ?_
      refine r_loadIA (off := ko) (n := m.kids.length) (cap := mrc) (E := T.api_Ref) (s := 33) (xs := m.kids.flatMap rcells) (vs := rcells c.rf) rfl (j := A.length * 33) (by omega) (by simp [hcc.2.1.sum.1]) (by
        have := kid_at hmw hAlt
        rw [hkid2] at this; exact this) rfl rfl ?_
      repeat refine s1 ?_
      refine cx (ih (N + 1) S D c.rf 4 c.kv c.U hcc.2 hcsrt hS ha (by omega) (by omega)) (fun z hz => ?_)
      obtain ⟨e1, n1, S1, D1, y1⟩ := z
      obtain ⟨hC1, hok1, hno1, her1⟩ := hz
      dsimp only at hC1 hok1 hno1 her1 ⊢
      have hC := hC1.mono (show 2 * h ≤ 2 * (h + 1) by omega)
      refine al (fun t11 => ?_)
      refine r_storeW (vs := nbx n1 y1) rfl rfl (by rfl) (by rfl) (by simp [Value.oneCell']) rfl ?_
      repeat refine s1 ?_
      by_cases he1 : e1 = 0
      · subst he1
        obtain ⟨hg1, hd1, U1, hn1, hlo1, hhi1⟩ := hok1 rfl
        have hmo : 9 ≤ mostN n1 ∧ mostN n1 ≤ 11 := by unfold mostN; split <;> omega
        repeat refine s2 ?_
        refine r_icmp rfl rfl rfl rfl ?_
        have hN1 : N + 1 + 4 * (h + 1) + 1 + 2 = N + 4 * (h + 1 + 1) := by omega
        refine jh [hlog S1.pl (N + 1 + 4 * (h + 1))] ?_
        repeat refine s1 ?_
        refine t_meet (σ := List Ch × List Ch × List Ch × Nd × NR) (fun z => [(12, i64 z.1.length), (13, i64 (z.1.length + z.2.1.length : Nat)), (11, ptr t11), (7, ptr t7), (6, ptr t6), (0, ptr pc)])
          (fun z => pt t11 (.cells (nbx z.2.2.2.1 z.2.2.2.2).toArray T.node_Node (0, 0)) :: node z.2.2.2.1 z.2.2.2.2 :: cgA pc ps S1 D1 (N + 1 + 4 * (h + 1) + 1) 0 ++ pt t7 (.cells ([.bool false, .slice mka m.keys.length mkc, .slice mva m.vals.length mvc, .slice (some ⟨kb, ko, none⟩) m.kids.length mrc] : List Value).toArray T.node_Node (0, 0)) :: pt t6 (.cells (nbx nd0 nr0).toArray T.node_Node (0, 0)) :: node m ⟨mka, mkc, mva, mvc, some ⟨kb, ko, none⟩, mrc⟩ :: F)
          (MidQ S1.g h k cs kv) ?_ ?_
        · refine t_condS rfl (fun hlt => ?_) (fun hge => ?_)
          · repeat refine s1 ?_
            refine r_icmp rfl rfl rfl rfl ?_
            repeat refine s1 ?_
            refine t_condS rfl (fun hA => ?_) (fun hA => ?_)
            · obtain ⟨A', a, rfl⟩ : ∃ A' a, A = A' ++ [a] := by
                rcases List.eq_nil_or_concat A with h0 | ⟨A', a, h0⟩
                · rw [h0] at hA; simp at hA
                · exact ⟨A', a, by rw [h0]; simp⟩
              have hal : (A' ++ [a]).length = A'.length + 1 := by simp
              obtain ⟨hai, hak⟩ := hkids A'.length a (by rw [hcut]; simp)
              have hac := hcs a (by rw [hcut]; simp)
              obtain ⟨har, ma, Va, hna, hmar, halo, hasec, hasum, haK, haU⟩ := sh_le hC1.le hac.2
              have hawt := nsh_wt hna
              have hmm := hmar.most
              repeat refine s1 ?_
              refine r_subN (m := (A' ++ [a]).length) (n := 1) rfl rfl (by omega) (by omega) rfl ?_
              rw [hal, Nat.add_sub_cancel]
              repeat refine s1 ?_
              refine jh [kidsA m ⟨mka, mkc, mva, mvc, some ⟨kb, ko, none⟩, mrc⟩] ?_
              refine t_draw [kidsA m ⟨mka, mkc, mva, mvc, some ⟨kb, ko, none⟩, mrc⟩, pt t7 (.cells ([.bool false, .slice mka m.keys.length mkc, .slice mva m.vals.length mvc, .slice (some ⟨kb, ko, none⟩) m.kids.length mrc] : List Value).toArray T.node_Node (0, 0)), pt t11 (.cells (nbx n1 y1).toArray T.node_Node (0, 0))] [2, 5, 7, 1000009] mixed (by decide +kernel) ?_
              repeat refine s1 ?_
              refine ix rfl rfl hai ?_
              refine s_loadByA (rcells a.rf) rfl (by simp [har.sum.1]) (fun w hh i v hv => run_loadI (j := A'.length * 33 + i) hh (by omega) (by
                have := kid_at hmw hai i v (by rw [hak]; exact hv)
                exact this)) rfl rfl ?_
              refine cx (cload_c pc ps (N + 1 + 4 * (h + 1)) S1 D1 a.rf ma har hC1.ok (by rw [show S1.K a.rf.sec = S1.g.K a.rf.sec from rfl, haK]; simp) hmar hawt hasec hasum hC1.agr (by omega) Φ) (fun ya _ => ?_)
              simp only [hd1, Bool.false_eq_true, if_false]
              repeat refine s1 ?_
              refine cx (join_c ma n1 ya y1 (nsh_wh hna (by omega)) (nsh_wh hn1 (by omega)) (by rw [nsh_leaf hna, nsh_leaf hn1]) hawt (nsh_wt hn1) Φ) (fun q _ => ?_)
              have hjn := nsh_join hna hn1
              have hjl : (ma.join n1).keys.length = ma.keys.length + n1.keys.length := by simp [Nd.join]
              have hjm : mostN (ma.join n1) = mostN ma := rfl
              have hjm2 : mostN n1 = mostN ma := by simp only [mostN, nsh_leaf hna, nsh_leaf hn1]
              have hmal : ma.keys.length ≤ mostN ma := by
                cases hl : ma.leaf
                · have := (hmar.inner hl).2.1; simp [mostN, hl]; omega
                · have := (hmar.leaf hl).2.1; simp [mostN, hl]; omega
              have hsac : Srt (a.kv ++ c.kv) := by
                rw [show A' ++ [a] ++ c :: B = A' ++ (a :: (c :: B)) by simp, List.flatMap_append] at hsrt
                have := (List.pairwise_append.1 hsrt).2.1
                rw [List.flatMap_cons, List.flatMap_cons, ← List.append_assoc] at this
                exact (List.pairwise_append.1 this).1
              generalize ma.join n1 = nj at *
              refine r_storeWX (vs := nbx nj q) rfl rfl (by rfl) (by rfl) (by simp [Value.oneCell']) rfl rfl ?_
              repeat refine s1 ?_
              refine j_meet (A', [a, c], B, nj, q) ⟨by rw [hcut]; simp, by simp, ⟨a.kv ++ del k c.kv, _, hjn, hsac.sublist (List.Sublist.append (List.Sublist.refl _) List.filter_sublist), by rw [hdel]; simp⟩, by dsimp only; omega, by dsimp only; omega, fun h0 => by simp at h0⟩ ⟨rfl, rfl, rfl, rfl, rfl, rfl, trivial⟩ leD
            · have hA0 : A = [] := List.eq_nil_of_length_eq_zero (by omega)
              subst hA0
              obtain ⟨a, B', rfl⟩ : ∃ a B', B = a :: B' := by
                cases B with
                | nil => simp at hcl2; omega
                | cons a B' => exact ⟨a, B', rfl⟩
              obtain ⟨hai, hak⟩ := hkids 1 a (by rw [hcut]; simp)
              have hac := hcs a (by rw [hcut]; simp)
              obtain ⟨har, ma, Va, hna, hmar, halo, hasec, hasum, haK, haU⟩ := sh_le hC1.le hac.2
              have hawt := nsh_wt hna
              have hmm := hmar.most
              repeat refine s1 ?_
              refine jh [kidsA m ⟨mka, mkc, mva, mvc, some ⟨kb, ko, none⟩, mrc⟩] ?_
              refine t_draw [kidsA m ⟨mka, mkc, mva, mvc, some ⟨kb, ko, none⟩, mrc⟩, pt t7 (.cells ([.bool false, .slice mka m.keys.length mkc, .slice mva m.vals.length mvc, .slice (some ⟨kb, ko, none⟩) m.kids.length mrc] : List Value).toArray T.node_Node (0, 0)), pt t11 (.cells (nbx n1 y1).toArray T.node_Node (0, 0))] [0, 3, 6, 1000009] mixed (by decide +kernel) ?_
              repeat refine s1 ?_
              refine ix (i := 1) rfl rfl hai ?_
              refine s_loadByA (rcells a.rf) rfl (by simp [har.sum.1]) (fun w hh i v hv => run_loadI (j := 1 * 33 + i) hh (by omega) (by
                have := kid_at hmw hai i v (by rw [hak]; exact hv)
                exact this)) rfl rfl ?_
              refine cx (cload_c pc ps (N + 1 + 4 * (h + 1)) S1 D1 a.rf ma har hC1.ok (by rw [show S1.K a.rf.sec = S1.g.K a.rf.sec from rfl, haK]; simp) hmar hawt hasec hasum hC1.agr (by omega) Φ) (fun ya _ => ?_)
              simp only [hd1, Bool.false_eq_true, if_false]
              repeat refine s1 ?_
              refine cx (join_c n1 ma y1 ya (nsh_wh hn1 (by omega)) (nsh_wh hna (by omega)) (by rw [nsh_leaf hna, nsh_leaf hn1]) (nsh_wt hn1) hawt Φ) (fun q _ => ?_)
              have hjn := nsh_join hn1 hna
              have hjl : (n1.join ma).keys.length = n1.keys.length + ma.keys.length := by simp [Nd.join]
              have hjm : mostN (n1.join ma) = mostN n1 := rfl
              have hjm2 : mostN n1 = mostN ma := by simp only [mostN, nsh_leaf hna, nsh_leaf hn1]
              have hmal : ma.keys.length ≤ mostN ma := by
                cases hl : ma.leaf
                · have := (hmar.inner hl).2.1; simp [mostN, hl]; omega
                · have := (hmar.leaf hl).2.1; simp [mostN, hl]; omega
              have hsac : Srt (c.kv ++ a.kv) := by
                rw [List.nil_append, List.flatMap_cons, List.flatMap_cons, ← List.append_assoc] at hsrt
                exact (List.pairwise_append.1 hsrt).1
              generalize n1.join ma = nj at *
              refine r_storeWX (vs := nbx nj q) rfl rfl (by rfl) (by rfl) (by simp [Value.oneCell']) rfl rfl ?_
              repeat refine s1 ?_
              refine j_meet ([], [c, a], B', nj, q) ⟨by rw [hcut]; simp, by simp, ⟨del k c.kv ++ a.kv, _, hjn, hsac.sublist (List.Sublist.append List.filter_sublist (List.Sublist.refl _)), by rw [hdel]; simp⟩, by dsimp only; omega, by dsimp only; omega, fun h0 => by simp at h0⟩ ⟨rfl, rfl, rfl, rfl, rfl, rfl, trivial⟩ leD
          · repeat refine s1 ?_
            refine jh [hlog S1.pl (N + 1 + 4 * (h + 1))] (j_ent (hlogUp (N' := N + 1 + 4 * (h + 1) + 1) (by omega) _) ?_)
            refine j_meet (A, [c], B, n1, y1) ⟨by rw [hcut]; simp, by simp, ⟨del k c.kv, U1, hn1, del_srt hcsrt, hdel⟩, by dsimp only; omega, by dsimp only; omega, fun _ => hhi1⟩ ⟨rfl, rfl, rfl, rfl, rfl, rfl, trivial⟩ leD
        · rintro ⟨A0, M, B0, n2, y2⟩ ⟨hq1, hq2, ⟨kv2, U2, hq3, hq4, hq5⟩, hq6, hq7, hq8⟩
          dsimp only [List.cons_append, List.nil_append] at hq1 hq2 hq3 hq4 hq5 hq6 hq7 hq8 ⊢
          have hl1 := hC1.dle.len
          have hmo2 : 9 ≤ mostN n2 ∧ mostN n2 ≤ 11 := by unfold mostN; split <;> omega
          repeat refine s2 ?_
          refine cx (save_c pc ps (N + 1 + 4 * (h + 1) + 1) S1 D1 n2 y2 h kv2 U2 hq3 hq4 (.inl (by omega)) hq7 hC1.ok hC1.agr (by omega) (by omega) Φ hT) (fun z hz => ?_)
          obtain ⟨e2, cs2, S2, D2, ka2, kc2, ra2, rc2⟩ := z
          obtain ⟨hC2, hok2, her2⟩ := hz
          dsimp only [List.cons_append, List.nil_append] at hC2 hok2 her2 ⊢
          rw [show D1.down = D.down by rw [hd1, hd]] at her2
          have hCC := (hC1.trans hC2).mono (show 2 * h + 2 ≤ 2 * (h + 1) by omega)
          rw [hN1]
          have hcl3 : cs.length = A0.length + M.length + B0.length := by rw [hq1]; simp; omega
          repeat refine s1 ?_
          by_cases he2 : e2 = 0
          · subst he2
            obtain ⟨hl2, hsv, hdn2⟩ := hok2 rfl
            rw [show min 4 n2.keys.length = 4 by omega] at hsv
            have hl2' : 1 ≤ cs2.length ∧ cs2.length ≤ 2 := by rw [hl2]; split <;> omega
            have hl2'' : M.length = 1 → cs2.length = 1 := fun h1 => by rw [hl2, if_pos (hq8 h1)]
            have hm' : m = inner (A0 ++ M ++ B0) := by rw [hmi, hq1]
            repeat refine s2 ?_
            rw [show Value.agg [Value.bool false, .slice mka m.keys.length mkc, .slice mva m.vals.length mvc, .slice (some ⟨kb, ko, none⟩) m.kids.length mrc].toArray = nV m ⟨mka, mkc, mva, mvc, some ⟨kb, ko, none⟩, mrc⟩ by rw [← hbx2, ← hbx]]
            have hsw := swap_c A0 M B0 cs2 ⟨mka, mkc, mva, mvc, some ⟨kb, ko, none⟩, mrc⟩ ka2 kc2 ra2 rc2 (by rw [← hm']; exact hmw) (nsh_wt (svok_nsh hsv)) (by simp; omega) (by omega) Φ
            rw [← hm'] at hsw
            refine cx hsw (fun q _ => ?_)
            have hfin := swap_nsh (A := A0) (M := M) (B := B0) (kv' := del k kv) (fun d hd => hcs d (by rw [hq1]; exact hd)) hCC.le hsv hq5
            have hkl : (inner (A0 ++ cs2 ++ B0)).keys.length = A0.length + cs2.length + B0.length := by simp [inner]; omega
            have hmo3 : mostN (inner (A0 ++ cs2 ++ B0)) = 11 := rfl
            generalize hnA : inner (A0 ++ cs2 ++ B0) = nA at *
            refine r_storeW (vs := nbx nA q) rfl rfl (by rfl) (by rfl) (by simp [Value.oneCell']) rfl ?_
            repeat refine s1 ?_
            exact j_fin rfl (.cons (rv_agg (l := nbx nA q) (U := T.node_Node) (fr := (0, 0)) rfl (by rfl)) .nil) (0, nA, S2, D2, q) rfl ⟨hCC, fun _ => ⟨by rw [hget]; exact hg1, hdn2, _, hfin, by dsimp only; omega, by dsimp only; omega⟩, fun h0 => (by cases h0), fun h0 => absurd rfl h0⟩
          · refine r_icmp rfl rfl rfl rfl ?_
            rw [show (!decide ((e2 : Int) = 0)) = true by simp [he2]]
            repeat refine s2 ?_
            refine r_build (cells := nbx nd0 nr0) rfl (by rfl) rfl ?_
            refine r_storeW (vs := nbx nd0 nr0) rfl rfl (by rfl) (by rfl) (by simp [Value.oneCell']) rfl ?_
            repeat refine s1 ?_
            refine j_ent (ent_node0 _) ?_
            have hE := her2 he2
            have h4 : e2 ≠ 4 := by rcases hE.lt with h | h <;> omega
            exact j_fin rfl (.cons (rv_agg (l := nbx nd0 nr0) (U := T.node_Node) (fr := (0, 0)) rfl (by rfl)) .nil) (e2, nd0, S2, D2, nr0) rfl ⟨hCC, fun h0 => absurd h0 he2, fun h0 => absurd h0 h4, fun _ _ => hE⟩
      · refine r_icmp rfl rfl rfl rfl ?_
        rw [show (!decide ((e1 : Int) = 0)) = true by simp [he1]]
        repeat refine s2 ?_
        refine r_build (cells := nbx nd0 nr0) rfl (by rfl) rfl ?_
        refine r_storeW (vs := nbx nd0 nr0) rfl rfl (by rfl) (by rfl) (by simp [Value.oneCell']) rfl ?_
        repeat refine s1 ?_
        refine j_ent (ent_node0 _) ?_
        refine jh [hlog S1.pl (N + 1 + 4 * (h + 1))] (j_ent (hlogUp (N' := N + 4 * (h + 1 + 1)) (by omega) _) ?_)
        exact j_fin rfl (.cons (rv_agg (l := nbx nd0 nr0) (U := T.node_Node) (fr := (0, 0)) rfl (by rfl)) .nil) (e1, nd0, S1, D1, nr0) rfl ⟨hC, fun h0 => absurd h0 he1, fun h4 => by rw [hget]; exact hno1 h4, her1⟩
    · simp only [if_true]
      refine al (fun t7 => ?_)
      refine r_storeW (vs := nbx nd0 y) rfl rfl (by rfl) (by rfl) (by simp [Value.oneCell']) rfl ?_
      repeat refine s2 ?_
      refine r_build (cells := nbx nd0 nr0) rfl (by rfl) rfl ?_
      refine r_storeW (vs := nbx nd0 nr0) rfl rfl (by rfl) (by rfl) (by simp [Value.oneCell']) rfl ?_
      repeat refine s1 ?_
      refine j_ent (ent_node0 _) ?_
      refine jh [hlog S.pl (N + 1)] (j_ent (hlogUp (N' := N + 4 * (h + 1 + 1)) (by omega) _) ?_)
      exact j_fin rfl (.cons (rv_agg (l := nbx nd0 nr0) (U := T.node_Node) (fr := (0, 0)) rfl (by rfl)) .nil) (30, nd0, S, D, nr0) rfl ⟨Chg.refl hS ha _, fun h0 => (by cases h0), fun h0 => (by cases h0), fun _ _ => .inr ⟨rfl, hd⟩⟩
end Go.Proofs.YtcnpkmdooekmgaaGreatDoor
namespace Go.Proofs.YtcnpkmdooekmgaaGreatDoor
open Go Sl
structure GrowQ (S : St) (D : Dk) (kv : KV) (x : Nat × Option Rf × St × Dk) : Prop where
  chg : Chg S x.2.2.1 D x.2.2.2 4
  ok : x.1 = 0 → (kv = [] → x.2.1 = none) ∧ (kv ≠ [] → ∃ r h U, x.2.1 = some r ∧ Sh x.2.2.1.g 1 h r kv U)
  er : x.1 ≠ 0 → x.2.1 = none ∧ Er D.down x.2.2.1 x.2.2.2 x.1
abbrev oR (o : Option Rf) : Rf := o.getD Rf0
/-- how a tree lies in memory. -/
abbrev tcells (ps : Nat) (o : Option Rf) : List Value := ptr ps :: (rcells (oR o) ++ [.bool o.isSome])
abbrev oWt (o : Option Rf) : Prop := (oR o).wt
theorem oR_wt {o : Option Rf} (h : ∀ r, o = some r → r.wt) : (oR o).wt := by
  cases o with
  | none => exact Rf0_wt
  | some r => exact h r rfl
theorem tc_has {ps : Nat} {o : Option Rf} (h : oWt o) : (tcells ps o)[34]? = some (.bool o.isSome) := by
  rw [tcells, List.getElem?_cons_succ, List.getElem?_append_right (by simp [h.sum.1])]
  simp [h.sum.1]
theorem tc_root {ps : Nat} {o : Option Rf} (j : Nat) (v : Value) (hv : (rcells (oR o))[j]? = some v) : (tcells ps o).toArray[1 + j]? = some v := by
  have := (List.getElem?_eq_some_iff.1 hv).1
  rw [List.getElem?_toArray, Nat.add_comm, tcells, List.getElem?_cons_succ, List.getElem?_append_left this]
  exact hv
theorem tc_len {ps : Nat} {o : Option Rf} (h : oWt o) : (tcells ps o).length = 35 := by simp [h.sum.1]
theorem tc_one {ps : Nat} {o : Option Rf} : ∀ v ∈ tcells ps o, v.oneCell' = true := by
  intro v hv
  rcases List.mem_cons.1 hv with rfl | hv
  · rfl
  · rcases List.mem_append.1 hv with hv | hv
    · rcases List.mem_cons.1 hv with rfl | hv
      · rfl
      · obtain ⟨x, _, rfl⟩ := List.mem_map.1 hv; rfl
    · simp at hv; subst hv; rfl
def hdO (o : Option Rf) (s : Nat) : Nat := if o.map (·.sec) = some s then 1 else 0
attribute [local irreducible] cw sw J Exit.then Exit.inBlock Exit.noGoto bodyPost swG swL permL
theorem cgrow_e (pc ps e : Nat) (n : Nd) (x : NR) (he : e ≠ 0) (Φ : Base) :
    Sl.Fn Tryz.prog Φ F.mtree_change_grow [ptr pc, nV n x] [pt pc (.cells [ptr ps, i64 e].toArray T.mtree_change (0, 0))] (fun _ : Unit => True) (fun _ => .tuple #[.agg (rcells Rf0).toArray, .bool false]) (fun _ => [pt pc (.cells [ptr ps, i64 e].toArray T.mtree_change (0, 0))]) := by
  refine fo fun F => ?_
  repeat refine s1 ?_
  refine r_box (cs := nbx n x) rfl rfl rfl rfl (fun t3 => ?_)
  refine al (cs := rcells Rf0) (fun t4 => ?_)
  repeat refine s1 ?_
  refine t_loop (σ := Unit) (fun _ => [(3, ptr t3), (4, ptr t4), (0, ptr pc)]) (fun _ => pt t3 (.cells (nbx n x).toArray T.node_Node (0, 0)) :: pt t4 (.cells (rcells Rf0).toArray T.api_Ref (0, 0)) :: pt pc (.cells [ptr ps, i64 e].toArray T.mtree_change (0, 0)) :: F) (fun _ => True) (fun _ => 0) () trivial ⟨rfl, rfl, rfl, trivial⟩ leD ?_
  intro _ _
  repeat refine s1 ?_
  refine r_icmp rfl rfl rfl rfl ?_
  rw [decide_eq_false (show ¬ (e : Int) = 0 by omega)]
  repeat refine s1 ?_
  refine r_build (cells := rcells Rf0) rfl (by rfl) rfl ?_
  refine r_storeW (vs := rcells Rf0) rfl rfl (by rfl) (by rfl) (by simp [Value.oneCell']) rfl ?_
  repeat refine s1 ?_
  exact j_fin rfl (.cons (rv_agg (l := rcells Rf0) (U := T.api_Ref) (fr := (0, 0)) rfl (by rfl)) (.cons (rv_tmp rfl) .nil)) () rfl trivial
set_option maxHeartbeats 2000000 in
theorem cgrow_c (pc ps N : Nat) (S : St) (D : Dk) (n : Nd) (x : NR) (h : Nat) (kv : KV) (U : List Nat) (hn : NSh S.g h n kv U) (hs : Srt kv) (hmx : n.keys.length ≤ 2 * mostN n) (hS : S.wf) (ha : Agr S D) (hN : N ≤ 700000000) (hwt : D.waits.length ≤ 700000000) (Φ : Base) (hT : Tab Φ) :
    Sl.Fn Tryz.prog Φ F.mtree_change_grow [ptr pc, nV n x] (cgA pc ps S D N 0 ++ [node n x]) (GrowQ S D kv) (fun z => .tuple #[.agg (rcells (oR z.2.1)).toArray, .bool z.2.1.isSome]) (fun z => cgA pc ps z.2.2.1 z.2.2.2 (N + 4) z.1) := by
  refine fo fun F => ?_
  repeat refine s1 ?_
  refine r_box (cs := nbx n x) rfl rfl rfl rfl (fun t3 => ?_)
  refine al (cs := rcells Rf0) (fun t4 => ?_)
  repeat refine s1 ?_
  refine t_loop (σ := Bool × Nd × NR × Nat × List Nat × St × Dk) (fun _ => [(3, ptr t3), (4, ptr t4), (0, ptr pc)])
    (fun z => pt t3 (.cells (nbx z.2.1 z.2.2.1).toArray T.node_Node (0, 0)) :: pt t4 (.cells (rcells Rf0).toArray T.api_Ref (0, 0)) :: node z.2.1 z.2.2.1 :: cgA pc ps z.2.2.2.2.2.1 z.2.2.2.2.2.2 (N + (if z.1 then 2 else 0)) 0 ++ F)
    (fun z => NSh z.2.2.2.2.2.1.g z.2.2.2.1 z.2.1 kv z.2.2.2.2.1 ∧ Chg S z.2.2.2.2.2.1 D z.2.2.2.2.2.2 (if z.1 then 2 else 0) ∧ z.2.1.keys.length ≤ 2 * mostN z.2.1 ∧ (z.1 = true → z.2.1.leaf = false ∧ z.2.1.keys.length = 2) ∧ z.2.2.2.2.2.2.down = D.down)
    (fun z => if z.1 then 0 else 1) (false, n, x, h, U, S, D) ⟨hn, Chg.refl hS ha 0, hmx, fun h0 => (by cases h0), rfl⟩ ⟨rfl, rfl, rfl, trivial⟩ (by dsimp only [List.cons_append, List.nil_append]; simp only [Bool.false_eq_true, if_false, Nat.add_zero]; exact Le.ent) ?_
  rintro ⟨ph, n1, x1, h1, U1, S1, D1⟩ ⟨hn1, hC, hmx1, hph, hdn⟩
  dsimp only [List.cons_append, List.nil_append] at hn1 hC hmx1 hph hdn ⊢
  have hmo : 9 ≤ mostN n1 ∧ mostN n1 ≤ 11 := by unfold mostN; split <;> omega
  have hfst := nsh_fst hn1
  have hph2 : (if ph = true then 2 else 0) ≤ 2 := by split <;> omega
  have hl1 := hC.dle.len
  generalize hpn : (if ph = true then 2 else 0) = pn at hC hph2 hl1 ⊢
  repeat refine s2 ?_
  refine r_icmp rfl rfl rfl rfl ?_
  repeat refine s1 ?_
  refine t_condSB rfl (fun hq => ?_) (fun hq => ?_)
  · have hpos : 1 ≤ n1.keys.length := by have := of_decide_eq_true hq; omega
    have hne : kv ≠ [] := fun h0 => by
      rw [h0] at hfst
      cases hk : n1.keys with
      | nil => rw [hk] at hpos; simp at hpos
      | cons a l => rw [hk] at hfst; simp [fst?] at hfst
    have hw1 := nsh_wh hn1 (by omega)
    rcases hl : n1.leaf with _ | _
    · have hkl : n1.kids.length = n1.keys.length := (hw1.inner hl).1
      obtain ⟨h2, rfl⟩ : ∃ h2, h1 = h2 + 1 := by
        have := nsh_leaf hn1
        rw [hl] at this
        cases h1 with
        | zero => cases this
        | succ h2 => exact ⟨h2, rfl⟩
      obtain ⟨cs, e1, e2, e3, e4⟩ := nsh_succ.1 hn1
      have hcl : n1.kids.length = cs.length := by rw [e1]; simp [inner]
      repeat refine s1 ?_
      rw [hl, Bool.not_false]
      refine jh [node n1 x1] (j_ent (Ent.unnode _) ?_)
      refine jh [kidsA n1 x1] (j_leni (fun _ _ hka => ?_))
      obtain ⟨kb, ko, hkb⟩ := hka (by omega)
      repeat refine s2 ?_
      refine r_icmp rfl rfl rfl rfl ?_
      repeat refine s1 ?_
      refine t_condSB rfl (fun h1' => ?_) (fun h1' => ?_)
      · have h1 := of_decide_eq_true h1'
        obtain ⟨c, rfl⟩ : ∃ c, cs = [c] := List.length_eq_one_iff.1 (by omega)
        obtain ⟨f1', hsh⟩ := e4 c (by simp)
        have hkid : n1.kids[0]'(by omega) = c.rf := by simp [e1, inner]
        have hcr := hsh.1
        repeat refine s1 ?_
        rw [hkb]
        refine r_idx (n := n1.kids.length) rfl rfl (by omega) (by omega) rfl ?_
        refine r_loadIA (off := ko) (n := n1.kids.length) (cap := x1.rc) (E := T.api_Ref) (s := 33) (xs := n1.kids.flatMap rcells) (vs := rcells c.rf) rfl (j := 0) (by simp) (by simp [hcr.sum.1]) (by
          have := kid_at (nsh_wt hn1) (show 0 < n1.kids.length by omega)
          rw [hkid] at this
          simpa using this) rfl rfl ?_
        refine r_storeW (vs := rcells c.rf) rfl rfl (by simp [hcr.sum.1]) (by rfl) (by simp [Value.oneCell']) rfl ?_
        repeat refine s1 ?_
        refine jh [hlog S1.pl (N + pn)] (j_ent (hlogUp (N' := N + 4) (by omega) _) ?_)
        exact j_fin rfl (.cons (rv_agg (l := rcells c.rf) (U := T.api_Ref) (fr := (0, 0)) rfl (by simp [hcr.sum.1])) (.cons (rv_tmp rfl) .nil)) (0, some c.rf, S1, D1) rfl ⟨hC.mono (by omega), fun _ => ⟨fun h0 => absurd h0 hne, fun _ => ⟨c.rf, h2, c.U, rfl, by
          have := sh_lo (lo' := 1) (by omega) hsh
          rw [e2]; simpa using this⟩⟩, fun h0 => absurd rfl h0⟩
      · have h1 := of_decide_eq_false h1'
        have htwo : 2 ≤ n1.keys.length ∨ n1.leaf = true ∧ 1 ≤ n1.keys.length := .inl (by omega)
        repeat refine s1 ?_
        refine cx (save_c pc ps (N + pn) S1 D1 n1 x1 (h2 + 1) kv U1 hn1 hs htwo hmx1 hC.ok hC.agr (by omega) (by omega) Φ hT) (fun z hz => ?_)
        obtain ⟨e2, cs2, S2, D2, ka2, kc2, ra2, rc2⟩ := z
        obtain ⟨hC2, hok2, her2⟩ := hz
        dsimp only at hC2 hok2 her2 ⊢
        have hCC := (hC.trans hC2).mono (show pn + 2 ≤ 4 by omega)
        repeat refine s1 ?_
        by_cases he2 : e2 = 0
        · subst he2
          obtain ⟨hl2, hsv, hdn2⟩ := hok2 rfl
          repeat refine s2 ?_
          refine r_icmp rfl rfl rfl rfl ?_
          repeat refine s1 ?_
          refine t_condSB rfl (fun g1' => ?_) (fun g1' => ?_)
          · have g1 := of_decide_eq_true g1'
            obtain ⟨c2, rfl⟩ : ∃ c, cs2 = [c] := List.length_eq_one_iff.1 (by omega)
            obtain ⟨g2, hsh⟩ := hsv.each c2 (by simp)
            have hkvc : c2.kv = kv := by have := hsv.kv; simpa using this
            have hcr := hsh.1
            refine jh [node (inner [c2]) ⟨ka2, kc2, none, 0, ra2, rc2⟩] (j_ent (Ent.unnode _) ?_)
            refine jh [kidsA (inner [c2]) ⟨ka2, kc2, none, 0, ra2, rc2⟩] (j_leni (fun _ _ hka2 => ?_))
            obtain ⟨kb2, ko2, hkb2⟩ := hka2 (by simp [inner])
            dsimp only at hkb2
            subst hkb2
            repeat refine s1 ?_
            refine r_idx rfl rfl (by omega) (by simp) rfl ?_
            refine r_loadIA (off := ko2) (n := (inner [c2]).kids.length) (cap := rc2) (E := T.api_Ref) (s := 33) (xs := (inner [c2]).kids.flatMap rcells) (vs := rcells c2.rf) rfl (j := 0) (by simp) (by simp [hcr.sum.1]) (fun i v hv => by simpa [inner] using hv) rfl rfl ?_
            refine r_storeW (vs := rcells c2.rf) rfl rfl (by simp [hcr.sum.1]) (by rfl) (by simp [Value.oneCell']) rfl ?_
            repeat refine s1 ?_
            refine jh [hlog S2.pl (N + pn + 2)] (j_ent (hlogUp (N' := N + 4) (by omega) _) ?_)
            exact j_fin rfl (.cons (rv_agg (l := rcells c2.rf) (U := T.api_Ref) (fr := (0, 0)) rfl (by simp [hcr.sum.1])) (.cons (rv_tmp rfl) .nil)) (0, some c2.rf, S2, D2) rfl ⟨hCC, fun _ => ⟨fun h0 => absurd h0 hne, fun _ => ⟨c2.rf, (h2 + 1), c2.U, rfl, by
              have := sh_lo (lo' := 1) (by omega) hsh
              rw [hkvc] at this; exact this⟩⟩, fun h0 => absurd rfl h0⟩
          · have g1 := of_decide_eq_false g1'
            have hsplit : ¬ n1.keys.length ≤ mostN n1 := fun h0 => by rw [if_pos h0] at hl2; omega
            rw [if_neg hsplit] at hl2
            have hph1 : ph = false := by
              cases ph with
              | false => rfl
              | true => have := (hph rfl).2; omega
            subst hph1
            obtain rfl : pn = 0 := hpn.symm
            rw [show min 4 n1.keys.length = 4 by omega] at hsv
            have hil : (inner cs2).keys.length = 2 := by simp [inner, hl2]
            repeat refine s1 ?_
            have hbi : [Value.bool false, .slice ka2 cs2.length kc2, .slice none 0 0, .slice ra2 cs2.length rc2] = nbx (inner cs2) ⟨ka2, kc2, none, 0, ra2, rc2⟩ := by simp [nbx, inner]
            refine r_build (cells := [Value.bool false, .slice ka2 cs2.length kc2, .slice none 0 0, .slice ra2 cs2.length rc2]) rfl (by rfl) rfl ?_
            rw [hbi]
            refine r_storeW (vs := nbx (inner cs2) ⟨ka2, kc2, none, 0, ra2, rc2⟩) rfl rfl (by rfl) (by rfl) (by simp [Value.oneCell']) rfl ?_
            repeat refine s1 ?_
            exact j_again (true, inner cs2, ⟨ka2, kc2, none, 0, ra2, rc2⟩, (h2 + 1) + 1, _, S2, D2) ⟨svok_nsh hsv, by
              have := hC.trans hC2
              exact this, by
              dsimp only; rw [hil]; show 2 ≤ 2 * 11; decide, fun _ => ⟨rfl, hil⟩, (hC.trans hC2).dle.upb hdn2⟩ Nat.zero_lt_one ⟨rfl, rfl, rfl, trivial⟩ (by dsimp only [List.cons_append, List.nil_append]; simp only [if_true]; exact Le.ent)
        · refine r_icmp rfl rfl rfl rfl ?_
          rw [show (!decide ((e2 : Int) = 0)) = true by simp [he2]]
          repeat refine s1 ?_
          refine r_build (cells := rcells Rf0) rfl (by rfl) rfl ?_
          refine r_storeW (vs := rcells Rf0) rfl rfl (by rfl) (by rfl) (by simp [Value.oneCell']) rfl ?_
          repeat refine s1 ?_
          refine jh [hlog S2.pl (N + pn + 2)] (j_ent (hlogUp (N' := N + 4) (by omega) _) ?_)
          exact j_fin rfl (.cons (rv_agg (l := rcells Rf0) (U := T.api_Ref) (fr := (0, 0)) rfl (by rfl)) (.cons (rv_tmp rfl) .nil)) (e2, none, S2, D2) rfl ⟨hCC, fun h0 => absurd h0 he2, fun h0 => ⟨rfl, hdn ▸ her2 h0⟩⟩
    · have htwo : 2 ≤ n1.keys.length ∨ n1.leaf = true ∧ 1 ≤ n1.keys.length := .inr ⟨hl, hpos⟩
      repeat refine s1 ?_
      rw [hl, Bool.not_true]
      repeat refine s1 ?_
      refine cx (save_c pc ps (N + pn) S1 D1 n1 x1 h1 kv U1 hn1 hs htwo hmx1 hC.ok hC.agr (by omega) (by omega) Φ hT) (fun z hz => ?_)
      obtain ⟨e2, cs2, S2, D2, ka2, kc2, ra2, rc2⟩ := z
      obtain ⟨hC2, hok2, her2⟩ := hz
      dsimp only at hC2 hok2 her2 ⊢
      have hCC := (hC.trans hC2).mono (show pn + 2 ≤ 4 by omega)
      repeat refine s1 ?_
      by_cases he2 : e2 = 0
      · subst he2
        obtain ⟨hl2, hsv, hdn2⟩ := hok2 rfl
        repeat refine s2 ?_
        refine r_icmp rfl rfl rfl rfl ?_
        repeat refine s1 ?_
        refine t_condSB rfl (fun g1' => ?_) (fun g1' => ?_)
        · have g1 := of_decide_eq_true g1'
          obtain ⟨c2, rfl⟩ : ∃ c, cs2 = [c] := List.length_eq_one_iff.1 (by omega)
          obtain ⟨g2, hsh⟩ := hsv.each c2 (by simp)
          have hkvc : c2.kv = kv := by have := hsv.kv; simpa using this
          have hcr := hsh.1
          refine jh [node (inner [c2]) ⟨ka2, kc2, none, 0, ra2, rc2⟩] (j_ent (Ent.unnode _) ?_)
          refine jh [kidsA (inner [c2]) ⟨ka2, kc2, none, 0, ra2, rc2⟩] (j_leni (fun _ _ hka2 => ?_))
          obtain ⟨kb2, ko2, hkb2⟩ := hka2 (by simp [inner])
          dsimp only at hkb2
          subst hkb2
          repeat refine s1 ?_
          refine r_idx rfl rfl (by omega) (by simp) rfl ?_
          refine r_loadIA (off := ko2) (n := (inner [c2]).kids.length) (cap := rc2) (E := T.api_Ref) (s := 33) (xs := (inner [c2]).kids.flatMap rcells) (vs := rcells c2.rf) rfl (j := 0) (by simp) (by simp [hcr.sum.1]) (fun i v hv => by simpa [inner] using hv) rfl rfl ?_
          refine r_storeW (vs := rcells c2.rf) rfl rfl (by simp [hcr.sum.1]) (by rfl) (by simp [Value.oneCell']) rfl ?_
          repeat refine s1 ?_
          refine jh [hlog S2.pl (N + pn + 2)] (j_ent (hlogUp (N' := N + 4) (by omega) _) ?_)
          exact j_fin rfl (.cons (rv_agg (l := rcells c2.rf) (U := T.api_Ref) (fr := (0, 0)) rfl (by simp [hcr.sum.1])) (.cons (rv_tmp rfl) .nil)) (0, some c2.rf, S2, D2) rfl ⟨hCC, fun _ => ⟨fun h0 => absurd h0 hne, fun _ => ⟨c2.rf, h1, c2.U, rfl, by
            have := sh_lo (lo' := 1) (by omega) hsh
            rw [hkvc] at this; exact this⟩⟩, fun h0 => absurd rfl h0⟩
        · have g1 := of_decide_eq_false g1'
          have hsplit : ¬ n1.keys.length ≤ mostN n1 := fun h0 => by rw [if_pos h0] at hl2; omega
          rw [if_neg hsplit] at hl2
          have hph1 : ph = false := by
            cases ph with
            | false => rfl
            | true => have := (hph rfl).2; omega
          subst hph1
          obtain rfl : pn = 0 := hpn.symm
          rw [show min 4 n1.keys.length = 4 by omega] at hsv
          have hil : (inner cs2).keys.length = 2 := by simp [inner, hl2]
          repeat refine s1 ?_
          have hbi : [Value.bool false, .slice ka2 cs2.length kc2, .slice none 0 0, .slice ra2 cs2.length rc2] = nbx (inner cs2) ⟨ka2, kc2, none, 0, ra2, rc2⟩ := by simp [nbx, inner]
          refine r_build (cells := [Value.bool false, .slice ka2 cs2.length kc2, .slice none 0 0, .slice ra2 cs2.length rc2]) rfl (by rfl) rfl ?_
          rw [hbi]
          refine r_storeW (vs := nbx (inner cs2) ⟨ka2, kc2, none, 0, ra2, rc2⟩) rfl rfl (by rfl) (by rfl) (by simp [Value.oneCell']) rfl ?_
          repeat refine s1 ?_
          exact j_again (true, inner cs2, ⟨ka2, kc2, none, 0, ra2, rc2⟩, h1 + 1, _, S2, D2) ⟨svok_nsh hsv, by
            have := hC.trans hC2
            exact this, by
            dsimp only; rw [hil]; show 2 ≤ 2 * 11; decide, fun _ => ⟨rfl, hil⟩, (hC.trans hC2).dle.upb hdn2⟩ Nat.zero_lt_one ⟨rfl, rfl, rfl, trivial⟩ (by dsimp only [List.cons_append, List.nil_append]; simp only [if_true]; exact Le.ent)
      · refine r_icmp rfl rfl rfl rfl ?_
        rw [show (!decide ((e2 : Int) = 0)) = true by simp [he2]]
        repeat refine s1 ?_
        refine r_build (cells := rcells Rf0) rfl (by rfl) rfl ?_
        refine r_storeW (vs := rcells Rf0) rfl rfl (by rfl) (by rfl) (by simp [Value.oneCell']) rfl ?_
        repeat refine s1 ?_
        refine jh [hlog S2.pl (N + pn + 2)] (j_ent (hlogUp (N' := N + 4) (by omega) _) ?_)
        exact j_fin rfl (.cons (rv_agg (l := rcells Rf0) (U := T.api_Ref) (fr := (0, 0)) rfl (by rfl)) (.cons (rv_tmp rfl) .nil)) (e2, none, S2, D2) rfl ⟨hCC, fun h0 => absurd h0 he2, fun h0 => ⟨rfl, hdn ▸ her2 h0⟩⟩
  · have h0 := of_decide_eq_false hq
    have hkv0 : kv = [] := by
      have hk0 : n1.keys = [] := List.eq_nil_of_length_eq_zero (by omega)
      rw [hk0] at hfst
      cases kv with
      | nil => rfl
      | cons a l => simp [fst?] at hfst
    repeat refine s1 ?_
    refine r_build (cells := rcells Rf0) rfl (by rfl) rfl ?_
    refine r_storeW (vs := rcells Rf0) rfl rfl (by rfl) (by rfl) (by simp [Value.oneCell']) rfl ?_
    repeat refine s1 ?_
    refine jh [hlog S1.pl (N + pn)] (j_ent (hlogUp (N' := N + 4) (by omega) _) ?_)
    exact j_fin rfl (.cons (rv_agg (l := rcells Rf0) (U := T.api_Ref) (fr := (0, 0)) rfl (by rfl)) (.cons (rv_tmp rfl) .nil)) (0, none, S1, D1) rfl ⟨hC.mono (by omega), fun _ => ⟨fun _ => rfl, fun h0 => absurd hkv0 h0⟩, fun h0 => absurd rfl h0⟩
end Go.Proofs.YtcnpkmdooekmgaaGreatDoor
namespace Go.Proofs.YtcnpkmdooekmgaaGreatDoor
open Go Sl
abbrev tree (tp ps : Nat) (o : Option Rf) : Assn := pt tp (.cells (tcells ps o).toArray T.mtree_Tree (0, 0))
abbrev St.turn (S : St) (o o' : Option Rf) : St := { S with E := fun s => S.E s + hdO o' s - hdO o s }
theorem Less.swept' {K K1 K2 : Kp} {E : Nat → Nat} (a : Less K E K1) (b : Swept K1 E K2) : Swept K E K2 :=
  ⟨fun s ks h => a.sub s ks (b.sub s ks h), b.closed, fun s h => (b.keep s h).trans (a.keep s h), b.tight⟩
theorem Swept.less {K K' : Kp} {E : Nat → Nat} (a : Swept K E K') : Less K E K' := ⟨a.sub, a.closed, a.keep⟩
theorem turn_up (S : St) (r : Rf) : { S with E := fun s => if s = r.sec then S.E s + 1 else S.E s } = S.turn none (some r) := by
  show St.mk .. = St.mk ..
  congr 1
  funext s
  simp only [hdO, Option.map_none, Option.map_some]
  by_cases h : s = r.sec
  · subst h; simp
  · have : r.sec ≠ s := fun e => h e.symm
    simp [h, this]
theorem turn_down (S : St) (r : Rf) : S.off r.sec = S.turn (some r) none := by
  show St.mk .. = St.mk ..
  congr 1
  funext s
  simp only [hdO, Option.map_none, Option.map_some]
  by_cases h : s = r.sec
  · subst h; simp
  · have : r.sec ≠ s := fun e => h e.symm
    simp [h, this]
theorem turn_none (S : St) : S.turn none none = S := by
  show St.mk .. = S
  simp [hdO]
theorem turn_turn (S : St) (o o' : Option Rf) : (S.turn none o').turn o none = S.turn o o' := by
  show St.mk .. = St.mk ..
  congr 1
theorem turn_wf {S : St} {o o' : Option Rf} (h : S.wf) (hk : ∀ r, o' = some r → S.K r.sec ≠ none) : (S.turn o o').wf :=
  ⟨h.fin, h.closed, h.rng, fun s hs => by
    by_cases h0 : 0 < S.E s
    · exact h.ext s h0
    · have : 0 < hdO o' s := by dsimp only at hs; omega
      unfold hdO at this
      split at this
      · rename_i e
        rcases o' with _ | r
        · cases e
        · rw [← Option.some.inj e]; exact hk r rfl
      · omega, h.rk⟩
theorem tc_setroot {ps : Nat} {o o' : Option Rf} (h : oWt o) (_h' : oWt o') :
    (tcells ps o).take 1 ++ rcells (oR o') ++ (tcells ps o).drop (1 + 33) = ptr ps :: (rcells (oR o') ++ [.bool o.isSome]) := by
  have := h.sum.1
  rw [tcells, List.take_succ_cons, List.take_zero, Nat.add_comm, List.drop_succ_cons, List.drop_append_of_le_length (by simp [h.sum.1]), List.drop_of_length_le (by simp [h.sum.1])]
  rfl
theorem tc_sethas {ps : Nat} {r : Rf} {v w : Value} (h : r.wt) : LSet (ptr ps :: (rcells r ++ [v])) 34 w (ptr ps :: (rcells r ++ [w])) := ⟨by
  rw [List.set_cons_succ, List.set_append_right _ _ (by simp [h.sum.1])]
  simp [h.sum.1]⟩
attribute [local irreducible] cw sw J Exit.then Exit.inBlock Exit.noGoto bodyPost swG swL permL
theorem settle_no (tp pc ps N e : Nat) (S : St) (D : Dk) (o o' : Option Rf) (he : e ≠ 0) (hS : S.wf) (Φ : Base) :
    Sl.Fn Tryz.prog Φ F.mtree_Tree_settle [ptr tp, ptr pc, .agg (rcells (oR o')).toArray, .bool o'.isSome] (tree tp ps o :: cgA pc ps S D N e) (fun K : Kp => Swept S.K S.E K) (fun _ => i64 e) (fun K => tree tp ps o :: cgA pc ps (S.withK K) D N e) := by
  refine fo fun F => ?_
  repeat refine s1 ?_
  refine r_box (cs := rcells (oR o')) rfl rfl rfl rfl (fun t6 => ?_)
  repeat refine s1 ?_
  refine r_icmp rfl rfl rfl rfl ?_
  rw [decide_eq_false (show ¬ (e : Int) = 0 by omega)]
  repeat refine s1 ?_
  refine cx (ssweep_c ps S hS Φ) (fun K hK => ?_)
  repeat refine s1 ?_
  exact f1 K (hq := hK)
theorem settle_c (tp pc ps N : Nat) (S : St) (D : Dk) (o o' : Option Rf) (hw : oWt o) (hw' : oWt o') (hS : S.wf) (hl : ∀ s, S.E s < 1000000000) (hk : ∀ r, o' = some r → S.K r.sec ≠ none) (ho : ∀ r, o = some r → 0 < S.E r.sec) (Φ : Base) :
    Sl.Fn Tryz.prog Φ F.mtree_Tree_settle [ptr tp, ptr pc, .agg (rcells (oR o')).toArray, .bool o'.isSome] (tree tp ps o :: cgA pc ps S D N 0) (fun K : Kp => Swept S.K (S.turn o o').E K) (fun _ => i64 0) (fun K => tree tp ps o' :: cgA pc ps ((S.turn o o').withK K) D N 0) := by
  refine fo fun F => ?_
  repeat refine s1 ?_
  refine r_box (cs := rcells (oR o')) rfl rfl rfl rfl (fun t6 => ?_)
  repeat refine s2 ?_
  refine t_meet (σ := Unit) (fun _ => [(3, .bool o'.isSome), (6, ptr t6), (0, ptr tp), (1, ptr pc)]) (fun _ => pt t6 (.cells (rcells (oR o')).toArray T.api_Ref (0, 0)) :: tree tp ps o :: cgA pc ps (S.turn none o') D N 0 ++ F) (fun _ => True) ?_ (fun _ _ => ?_)
  · rcases o' with _ | r'
    · rw [Option.isSome_none]
      repeat refine s1 ?_
      rw [turn_none]
      exact j_meet () trivial ⟨rfl, rfl, rfl, rfl, trivial⟩ leD
    · rw [Option.isSome_some]
      repeat refine s1 ?_
      have hwr : r'.wt := hw'
      refine r_loadW (vs := rcells r') rfl (by simp [hwr.sum.1]) rfl rfl ?_
      refine cl (shold_c ps S r' hw' (hk r' rfl) (hl _) Φ) ?_
      rw [turn_up]
      repeat refine s1 ?_
      exact j_meet () trivial ⟨rfl, rfl, rfl, rfl, trivial⟩ leD
  have hS1 : (S.turn none o').wf := turn_wf hS hk
  dsimp only [List.cons_append, List.nil_append]
  repeat refine s1 ?_
  refine ld rfl (tc_has hw) ?_
  repeat refine s1 ?_
  refine t_meet (σ := Kp) (fun _ => [(3, .bool o'.isSome), (6, ptr t6), (0, ptr tp), (1, ptr pc)]) (fun K => pt t6 (.cells (rcells (oR o')).toArray T.api_Ref (0, 0)) :: tree tp ps o :: cgA pc ps ((S.turn o o').withK K) D N 0 ++ F) (fun K => Less S.K (S.turn o o').E K) ?_ (fun K hK => ?_)
  · rcases o with _ | r
    · rw [Option.isSome_none]
      repeat refine s1 ?_
      exact j_meet S.K (Less.refl hS1) ⟨rfl, rfl, rfl, rfl, trivial⟩ leD
    · rw [Option.isSome_some]
      repeat refine s1 ?_
      have hwr : r.wt := hw
      refine r_loadA (vs := rcells r) (off := 1) rfl (by simp [hwr.sum.1]) (tc_root (o := some r)) rfl rfl ?_
      refine cx (sdrop_c ps (S.turn none o') r (fun _ => True) hw hS1 (by have := ho r rfl; show 0 < S.E r.sec + _ - _; simp [hdO]; omega) (fun _ _ _ _ => trivial) Φ) (fun K hK => ?_)
      rw [turn_down, turn_turn] at hK ⊢
      repeat refine s1 ?_
      exact j_meet K hK.1 ⟨rfl, rfl, rfl, rfl, trivial⟩ leD
  dsimp only [List.cons_append, List.nil_append]
  repeat refine s1 ?_
  refine r_loadW (vs := rcells (oR o')) rfl (by simp [hw'.sum.1]) rfl rfl ?_
  repeat refine s1 ?_
  refine r_storeA (cs' := ptr ps :: (rcells (oR o') ++ [.bool o.isSome])) (vs := rcells (oR o')) (off := 1) rfl rfl (by simp [hw'.sum.1]) (by rw [tc_len hw]; omega) (by simp [Value.oneCell']) (tc_setroot hw hw') rfl ?_
  repeat refine s1 ?_
  refine so (hl := tc_sethas hw') rfl rfl ?_ (ho := by simp [hw'.sum.1])
  repeat refine s1 ?_
  refine cx (ssweep_c ps ((S.turn o o').withK K) (hK.ok (turn_wf hS hk)) Φ) (fun K2 hK2 => ?_)
  repeat refine s1 ?_
  exact f1 K2 (hq := hK.swept' hK2)
end Go.Proofs.YtcnpkmdooekmgaaGreatDoor
namespace Go.Proofs.YtcnpkmdooekmgaaGreatDoor
open Go Sl
abbrev tnull (tp : Nat) : Assn := pt tp (.cells (.pointer none :: (rcells Rf0 ++ [.bool false])).toArray T.mtree_Tree (0, 0))
abbrev v44 (v : List Nat) : Value := .agg (v.map u8).toArray
abbrev z44 : List Nat := List.replicate 44 0
attribute [local irreducible] cw sw J Exit.then Exit.inBlock Exit.noGoto bodyPost swG swL permL
theorem made_c (tp ps : Nat) (o : Option Rf) (Φ : Base) : Sl.Fn Tryz.prog Φ F.mtree_Tree_made [ptr tp] [tree tp ps o] (fun _ : Unit => True) (fun _ => .bool true) (fun _ => [tree tp ps o]) := by
  refine fo fun F => ?_
  repeat refine s1 ?_
  exact f1 ()
theorem root_c (tp ps : Nat) (o : Option Rf) (hw : oWt o) (Φ : Base) : Sl.Fn Tryz.prog Φ F.mtree_Tree_Root [ptr tp] [tree tp ps o] (fun _ : Unit => True) (fun _ => .tuple #[.agg (rcells (oR o)).toArray, .bool o.isSome]) (fun _ => [tree tp ps o]) := by
  refine fo fun F => ?_
  repeat refine s1 ?_
  refine al (cs := rcells Rf0) (fun t2 => ?_)
  repeat refine s1 ?_
  refine cl (made_c tp ps o Φ) ?_
  repeat refine s1 ?_
  refine t_draw [tree tp ps o] [3, 7] mixed (by decide +kernel) ?_
  repeat refine s1 ?_
  refine s_loadA (vs := rcells (oR o)) (off := 1) rfl (by simp [hw.sum.1]) tc_root rfl rfl ?_
  repeat refine s1 ?_
  refine s_load1 rfl (by rw [List.getElem?_toArray]; exact tc_has hw) rfl rfl ?_
  repeat refine s1 ?_
  refine r_storeW (vs := rcells (oR o)) rfl rfl (by simp [hw.sum.1]) (by rfl) (by simp [Value.oneCell']) rfl ?_
  repeat refine s1 ?_
  exact j_fin rfl (.cons (rv_agg (l := rcells (oR o)) (U := T.api_Ref) (fr := (0, 0)) rfl (by simp [hw.sum.1])) (.cons (rv_tmp rfl) .nil)) () rfl trivial
theorem tnew_c (ps : Nat) (Φ : Base) : Sl.Fn Tryz.prog Φ F.mtree_New [ptr ps] [] (fun _ : Nat => True) (fun tp => ptr tp) (fun tp => [tree tp ps none]) := by
  refine fo fun F => ?_
  repeat refine s1 ?_
  refine r_build (cells := tcells ps none) rfl (by rfl) rfl ?_
  refine r_box (cs := tcells ps none) rfl rfl rfl rfl (fun tp => ?_)
  repeat refine s1 ?_
  exact f1 tp
end Go.Proofs.YtcnpkmdooekmgaaGreatDoor
namespace Go.Proofs.YtcnpkmdooekmgaaGreatDoor
open Go Sl
theorem TsOk.settled {S S1 : St} {A B : List Tre} {t t' : Tre} {K : Kp} (h : TsOk S (A ++ t :: B)) (cE : S1.E = S.E) (cle : S.g.le S1.g) (cok : S1.wf) (ht : TOk S1.g t') (w : Swept S1.K (S1.turn t.rt t'.rt).E K) :
    TsOk ((S1.turn t.rt t'.rt).withK K) (A ++ t' :: B) := by
  have hE : ∀ s, (S1.turn t.rt t'.rt).E s = hold (A ++ t' :: B) s := fun s => by
    show S1.E s + hdO t'.rt s - hdO t.rt s = _
    rw [cE, h.E, hold_mid, hold_mid]
    show hdO t.rt s + _ + _ - _ = hdO t'.rt s + _
    omega
  have each1 : ∀ x ∈ A ++ t' :: B, TOk S1.g x := fun x hx => by
    rcases List.mem_append.1 hx with hx | hx
    · exact (h.each x (by simp [hx])).le cle
    · rcases List.mem_cons.1 hx with rfl | hx
      · exact ht
      · exact (h.each x (by simp [hx])).le cle
  have hr : ∀ x ∈ A ++ t' :: B, ∀ r, x.rt = some r → S1.K r.sec ≠ none := fun x hx r hr => by
    obtain ⟨_, _, hh, U, hs⟩ := (each1 x hx).sh hr
    obtain ⟨ks, hk, _⟩ := sh_known hs _ (sh_root hs)
    rw [show S1.K r.sec = S1.g.K r.sec from rfl, hk]; simp
  have hw : (S1.turn t.rt t'.rt).wf := turn_wf cok (hr t' (by simp))
  refine ⟨hE, w.ok hw, w.tight, fun x hx => (each1 x hx).less w.less (fun r hr => ?_)⟩
  rw [hE]
  exact hold_at hx hr
/-- two that hang on the same roots, within what is known. -/
theorem two_tight {K0 K1 K2 : Kp} {E : Nat → Nat} {f c : Nat} (h1 : Kok K1 E f c) (t1 : Tight K1 E) (h2 : Kok K2 E f c) (t2 : Tight K2 E) (s1' : ∀ s ks, K1 s = some ks → K0 s = some ks) (s2' : ∀ s ks, K2 s = some ks → K0 s = some ks) : K1 = K2 := by
  have key : ∀ {K1 K2 : Kp}, Kok K1 E f c → Tight K1 E → Kok K2 E f c → (∀ s ks, K1 s = some ks → K0 s = some ks) → (∀ s ks, K2 s = some ks → K0 s = some ks) → ∀ s ks, K1 s = some ks → K2 s = some ks := by
    intro K1 K2 h1 t1 h2 s1' s2' s ks hk
    have := cover h1 t1 (fun s => K2 s ≠ none) (fun s hs => h2.ext s hs) (fun s ks hs hk k hk' => by
      obtain ⟨ks', e⟩ := Option.ne_none_iff_exists'.1 hs
      have e1 := s1' s ks hk
      have e2 := s2' s ks' e
      rw [e1] at e2
      obtain rfl := Option.some.inj e2
      exact h2.closed s ks e k hk') s (by rw [hk]; simp)
    obtain ⟨ks', e⟩ := Option.ne_none_iff_exists'.1 this
    have e1 := s1' s ks hk
    have e2 := s2' s ks' e
    rw [e1] at e2
    rw [e, ← Option.some.inj e2]
  funext s
  rcases hk1 : K1 s with _ | ks
  · rcases hk2 : K2 s with _ | ks
    · rfl
    · have := key h2 t2 h1 s2' s1' s ks hk2
      rw [this] at hk1; cases hk1
  · exact (key h1 t1 h2 s1' s2' s ks hk1).symm
/-- what was refused left all as it was. -/
theorem TsOk.refused {S S1 : St} {D D1 : Dk} {n : Nat} {ts : List Tre} {K : Kp} (h : TsOk S ts) (c : Chg S S1 D D1 n) (w : Swept S1.K S1.E K) : TsOk (S1.withK K) ts ∧ K = S.K := by
  have hw := w.ok c.ok
  have hk : K = S.K := by
    have e1 := c.E
    have e2 := c.frm
    have e3 := c.cnt
    have t1 := w.tight
    rw [e1] at hw t1
    rw [e2, e3] at hw
    refine two_tight (K0 := S1.K) hw t1 h.ok h.tight w.sub (fun s ks hs => ?_)
    exact (c.le s ks hs).1
  refine ⟨⟨fun s => by show S1.E s = _; rw [c.E, h.E], w.ok c.ok, w.tight, fun x hx => ((h.each x hx).le c.le).less w.less (fun r hr => ?_)⟩, hk⟩
  rw [c.E, h.E]
  exact hold_at hx hr
theorem TsOk.agr {S1 : St} {D1 : Dk} {K : Kp} (a : Agr S1 D1) (hs : ∀ s ks, K s = some ks → S1.K s = some ks) {E : Nat → Nat} : Agr ({ S1 with E := E }.withK K) D1 :=
  ⟨fun s h => a.sec s (by
    obtain ⟨ks, e⟩ := Option.ne_none_iff_exists'.1 h
    rw [hs s ks e]; simp), a.size, a.left⟩
end Go.Proofs.YtcnpkmdooekmgaaGreatDoor
namespace Go.Proofs.YtcnpkmdooekmgaaGreatDoor
open Go Sl
/-- a change of a tree: it is done, or was refused and all is as it was. -/
structure TrQ (S : St) (D : Dk) (A B : List Tre) (t : Tre) (kv' : KV) (Y : Prop) (x : Nat × Option Rf × St × Dk) : Prop where
  pd : x.2.2.1.pd = S.pd
  pl : x.2.2.1.pl = S.pl
  frm : x.2.2.1.frm = S.frm
  cnt : x.2.2.1.cnt = S.cnt
  agr : Agr x.2.2.1 x.2.2.2
  dle : DLe S.K S.frm S.cnt D x.2.2.2 70
  ok : x.1 = 0 → TsOk x.2.2.1 (A ++ ⟨t.p, x.2.1, kv'⟩ :: B)
  er : x.1 ≠ 0 → x.2.1 = t.rt ∧ TsOk x.2.2.1 (A ++ t :: B) ∧ x.2.2.1.K = S.K ∧ (x.1 = 5 ∧ S.cnt ≤ card S.K + (2 * Nat.log2 t.kv.length + 4) ∨ x.1 = 30 ∧ x.2.2.2.down = true ∨ x.1 = 4 ∧ Y)
  fell : x.1 = 5 → x.2.2.2.down = D.down
theorem pow_small {h n : Nat} (h1 : 4 ^ h ≤ n) (h2 : n ≤ 1000000) : h ≤ 10 := by
  rcases Nat.lt_or_ge 10 h with h0 | h0
  · have := Nat.pow_le_pow_right (show 0 < 4 by omega) (show 11 ≤ h by omega)
    omega
  · exact h0
theorem pow_log {h n : Nat} (h1 : 4 ^ h ≤ n) : h ≤ Nat.log2 n := by
  have h0 : n ≠ 0 := by have := Nat.pow_pos (n := h) (show 0 < 4 by omega); omega
  rw [Nat.le_log2 h0]
  exact Nat.le_trans (Nat.pow_le_pow_left (by omega) h) h1
theorem log_small {n : Nat} (h : n ≤ 1000000) : Nat.log2 n ≤ 20 := by
  by_cases h0 : n = 0
  · subst h0; decide
  · have : Nat.log2 n < 21 := (Nat.log2_lt h0).2 (by omega)
    omega
theorem TrQ.done {S S1 : St} {D D1 : Dk} {n : Nat} {A B : List Tre} {t : Tre} {kv' : KV} {o' : Option Rf} {Y : Prop} {K : Kp} (h : TsOk S (A ++ t :: B)) (c : Chg S S1 D D1 n) (hn : n ≤ 70) (ht : TOk S1.g ⟨t.p, o', kv'⟩) (w : Swept S1.K (S1.turn t.rt o').E K) :
    TrQ S D A B t kv' Y (0, o', (S1.turn t.rt o').withK K, D1) :=
  ⟨c.pd, c.pl, c.frm, c.cnt, TsOk.agr c.agr w.sub, c.dle.mono hn, fun _ => h.settled (t' := ⟨t.p, o', kv'⟩) c.E c.le c.ok ht w, fun h0 => absurd rfl h0, fun h0 => absurd h0 (by decide : ¬ 0 = 5)⟩
theorem TrQ.not {S S1 : St} {D D1 : Dk} {n e : Nat} {A B : List Tre} {t : Tre} {kv' : KV} {Y : Prop} {K : Kp} (h : TsOk S (A ++ t :: B)) (c : Chg S S1 D D1 n) (hn : n ≤ 70) (hn2 : n ≤ 2 * Nat.log2 t.kv.length + 4) (he : Er D.down S1 D1 e ∨ e = 4 ∧ Y) (w : Swept S1.K S1.E K) :
    TrQ S D A B t kv' Y (e, t.rt, S1.withK K, D1) :=
  ⟨c.pd, c.pl, c.frm, c.cnt, TsOk.agr (E := S1.E) c.agr w.sub, c.dle.mono hn, fun h0 => absurd h0 (he.elim (fun he => he.ne) fun he => (by rw [show e = 4 from he.1]; exact (by decide : ¬ 4 = 0))), fun _ => ⟨rfl, (h.refused c w).1, (h.refused c w).2, by
    rcases he with (⟨a, b⟩ | he) | he
    · left
      have := c.card
      have := c.cnt
      exact ⟨a, by omega⟩
    · exact .inr (.inl he)
    · exact .inr (.inr he)⟩, fun h5 => by
    rcases he with (⟨_, _, b⟩ | ⟨he, _⟩) | ⟨he, _⟩
    · exact b
    · dsimp only at h5; omega
    · dsimp only at h5; omega⟩
theorem oWt_of {g : Gd} {t : Tre} (h : TOk g t) : oWt t.rt := oR_wt fun r hr => by
  obtain ⟨_, _, hh, U, hs⟩ := h.sh hr
  exact hs.1
theorem tre_low {S : St} {A B : List Tre} {t : Tre} (h : TsOk S (A ++ t :: B)) (hl : (A ++ t :: B).length ≤ 1000000) : (∀ s, S.E s < 1000000000) ∧ ∀ r, t.rt = some r → 0 < S.E r.sec :=
  ⟨fun s => by rw [h.E]; have := hold_le s (A ++ t :: B); omega, fun r hr => by rw [h.E]; exact hold_at (by simp) hr⟩
theorem grow_tok {g : Gd} {p : Nat} {kv : KV} {o : Option Rf} (hs : Srt kv) (h : (kv = [] → o = none) ∧ (kv ≠ [] → ∃ r h U, o = some r ∧ Sh g 1 h r kv U)) : TOk g ⟨p, o, kv⟩ := by
  unfold TOk
  by_cases h0 : kv = []
  · rw [h.1 h0]; exact h0
  · obtain ⟨r, hh, U, rfl, hsh⟩ := h.2 h0
    exact ⟨hs, h0, hh, U, hsh⟩
theorem Fn.frame {P : Program} {Φ : Base} {f : FuncId} {args : List Value} {Pre : List Assn} {α : Type} {q : α → Prop} {V : α → Value} {Post : α → List Assn} (h : Sl.Fn P Φ f args Pre q V Post) (R : List Assn) :
    Sl.Fn P Φ f args (Pre ++ R) q V (fun x => Post x ++ R) := fun F w hh =>
  (h (R ++ F) w (by rw [← List.append_assoc]; exact hh)).mono fun _ w' ⟨x, hx, he, hw⟩ => ⟨x, hx, he, by rw [List.append_assoc]; exact hw⟩
/-- a node that a change made, or none. -/
structure MidS (S : St) (D : Dk) (kv : KV) (c : Nat) (Y : Prop) (z : Nat × Nd × NR × St × Dk) : Prop where
  chg : Chg S z.2.2.2.1 D z.2.2.2.2 c
  ok : z.1 = 0 → ∃ h U, NSh z.2.2.2.1.g h z.2.1 kv U ∧ z.2.1.keys.length ≤ 2 * mostN z.2.1
  er : z.1 ≠ 0 → Er D.down z.2.2.2.1 z.2.2.2.2 z.1 ∨ z.1 = 4 ∧ Y
  dn : z.1 = 0 → z.2.2.2.2.down = D.down
structure GrwQ (S : St) (D : Dk) (kv : KV) (c : Nat) (Y : Prop) (x : Nat × Option Rf × St × Dk) : Prop where
  chg : Chg S x.2.2.1 D x.2.2.2 c
  ok : x.1 = 0 → (kv = [] → x.2.1 = none) ∧ (kv ≠ [] → ∃ r h U, x.2.1 = some r ∧ Sh x.2.2.1.g 1 h r kv U)
  er : x.1 ≠ 0 → x.2.1 = none ∧ (Er D.down x.2.2.1 x.2.2.2 x.1 ∨ x.1 = 4 ∧ Y)
theorem cgrowM_c (pc ps N : Nat) (S : St) (D : Dk) (kv : KV) (c : Nat) (Y : Prop) (z : Nat × Nd × NR × St × Dk) (hz : MidS S D kv c Y z) (hs : Srt kv) (hN : N ≤ 700000000) (hwt : z.2.2.2.2.waits.length ≤ 700000000) (Φ : Base) (hT : Tab Φ) :
    Sl.Fn Tryz.prog Φ F.mtree_change_grow [ptr pc, nV z.2.1 z.2.2.1] (cgA pc ps z.2.2.2.1 z.2.2.2.2 N z.1 ++ [node z.2.1 z.2.2.1]) (fun x => GrwQ S D kv (c + 4) Y x ∧ (x.1 = 0 → z.1 = 0)) (fun x => .tuple #[.agg (rcells (oR x.2.1)).toArray, .bool x.2.1.isSome]) (fun x => cgA pc ps x.2.2.1 x.2.2.2 (N + 4) x.1) := by
  obtain ⟨e, n, x, S1, D1⟩ := z
  obtain ⟨hC, hok, her, hdn⟩ := hz
  dsimp only at hC hok her hdn hwt ⊢
  by_cases he : e = 0
  · subst he
    obtain ⟨h, U, hn, hm⟩ := hok rfl
    refine Fn.conseq (cgrow_c pc ps N S1 D1 n x h kv U hn hs hm hC.ok hC.agr hN hwt Φ hT) (fun F _ _ s => s) (fun y hy => ⟨y, ?_, rfl, fun F _ _ s => s⟩)
    exact ⟨⟨hC.trans hy.chg, hy.ok, fun h0 => ⟨(hy.er h0).1, .inl (hdn rfl ▸ (hy.er h0).2)⟩⟩, fun _ => rfl⟩
  · have h1 := her he
    refine Fn.conseq (Fn.frame (cgrow_e pc ps e n x he Φ) [store ps S1, disk S1.pd D1, hlog S1.pl N]) (fun F => ?_) (fun y hy => ⟨(e, none, S1, D1), ?_, rfl, fun F => ?_⟩)
    · dsimp only [List.cons_append, List.nil_append]; exact Le.ent
    · exact ⟨⟨hC.mono (by omega), fun h0 => absurd h0 he, fun _ => ⟨rfl, h1⟩⟩, fun h0 => h0⟩
    · dsimp only [List.cons_append, List.nil_append]
      exact Ent.trans (Le.ent (A := hlog S1.pl N :: pt pc (.cells [ptr ps, i64 e].toArray T.mtree_change (0, 0)) :: store ps S1 :: disk S1.pd D1 :: F)) ((hlogUp (N' := N + 4) (by omega) _).trans Le.ent)
attribute [local irreducible] cw sw J Exit.then Exit.inBlock Exit.noGoto bodyPost swG swL permL
theorem tend_c (ps pc N : Nat) (S S1 : St) (D D1 : Dk) (n : Nat) (A B : List Tre) (t : Tre) (kv' : KV) (z : Nat × Option Rf) (h : TsOk S (A ++ t :: B)) (c : Chg S S1 D D1 n) (hn : n ≤ 70) (hn2 : n ≤ 2 * Nat.log2 t.kv.length + 4) (hl : (A ++ t :: B).length ≤ 1000000) (hs : Srt kv')
    (ok : z.1 = 0 → (kv' = [] → z.2 = none) ∧ (kv' ≠ [] → ∃ r h U, z.2 = some r ∧ Sh S1.g 1 h r kv' U)) (Y : Prop) (er : z.1 ≠ 0 → Er D.down S1 D1 z.1 ∨ z.1 = 4 ∧ Y) (hz : z.1 ≠ 0 → z.2 = none) (Φ : Base) :
    Sl.Fn Tryz.prog Φ F.mtree_Tree_settle [ptr t.p, ptr pc, .agg (rcells (oR z.2)).toArray, .bool z.2.isSome] (tree t.p ps t.rt :: cgA pc ps S1 D1 N z.1) (fun x => TrQ S D A B t kv' Y x ∧ x.1 = z.1) (fun x => i64 x.1)
      (fun x => [tree t.p ps x.2.1, pt pc (.cells [ptr ps, i64 z.1].toArray T.mtree_change (0, 0)), store ps x.2.2.1, disk S1.pd x.2.2.2, hlog S1.pl N]) := by
  obtain ⟨e, o'⟩ := z
  have hlow := tre_low h hl
  have hto := oWt_of (h.each t (by simp))
  by_cases he : e = 0
  · subst he
    have ht := grow_tok (p := t.p) hs (ok rfl)
    refine Fn.conseq (settle_c t.p pc ps N S1 D1 t.rt o' hto (oWt_of (t := ⟨t.p, o', kv'⟩) ht) c.ok (by rw [c.E]; exact hlow.1) (fun r hr => by
      subst hr
      obtain ⟨_, _, hh, U, hs⟩ := ht.sh rfl
      obtain ⟨ks, hk, _⟩ := sh_known hs _ (sh_root hs)
      rw [show S1.K r.sec = S1.g.K r.sec from rfl, hk]; simp) (by rw [c.E]; exact hlow.2) Φ) (fun F _ _ s => s) (fun K hK => ⟨(0, o', (S1.turn t.rt o').withK K, D1), ⟨TrQ.done h c hn ht hK, rfl⟩, rfl, fun F _ _ s => s⟩)
  · have := hz he
    dsimp only at this
    subst this
    refine Fn.conseq (settle_no t.p pc ps N e S1 D1 t.rt none he c.ok Φ) (fun F _ _ s => s) (fun K hK => ⟨(e, t.rt, S1.withK K, D1), ⟨TrQ.not h c hn hn2 (er he) hK, rfl⟩, rfl, fun F _ _ s => s⟩)
abbrev leaf1 (bk bv : Nat) : NR := ⟨some ⟨bk, 0, none⟩, 1, some ⟨bv, 0, none⟩, 1, none, 0⟩
theorem leaf1_ent (k : Nat) (v : List Nat) (bk bv : Nat) (L : List Assn) : Ent (isl (some ⟨bk, 0, none⟩) 1 1 T.uint64 1 [w64 k] :: isl (some ⟨bv, 0, none⟩) 1 1 T.a44_uint8 44 (v.map u8) :: isl none 0 0 T.api_Ref 33 [] :: L) (node (leafN [(k, v)]) (leaf1 bk bv) :: L) := by
  have := Ent.node (n := leafN [(k, v)]) (x := leaf1 bk bv) L
  have e : ((leafN [(k, v)]).vals.flatMap fun v => v.map u8) = v.map u8 := by simp [leafN]
  unfold valsA at this
  rw [e] at this
  exact this
theorem Srt.one (k : Nat) (v : List Nat) : Srt [(k, v)] := List.pairwise_singleton ..
theorem tput_c (ps pd pl N k : Nat) (v : List Nat) (S : St) (D : Dk) (A B : List Tre) (t : Tre) (hk : k < 18446744073709551616) (hv : bytes 44 v) (h : TsOk S (A ++ t :: B)) (ha : Agr S D) (hN : N ≤ 600000000) (hwt : D.waits.length ≤ 600000000) (hkv : t.kv.length ≤ 1000000) (hl : (A ++ t :: B).length ≤ 1000000) (hpd : S.pd = pd) (hpl : S.pl = pl) (Φ : Base) (hT : Tab Φ) :
    Sl.Fn Tryz.prog Φ F.mtree_Tree_Put [ptr t.p, w64 k, v44 v] [tree t.p ps t.rt, store ps S, disk pd D, hlog pl N] (TrQ S D A B t (ins k v t.kv) False) (fun x => i64 x.1) (fun x => [tree t.p ps x.2.1, store ps x.2.2.1, disk pd x.2.2.2, hlog pl (N + 200)]) := by
  obtain rfl := hpd
  obtain rfl := hpl
  have ht := h.each t (by simp)
  have hsrt : Srt (ins k v t.kv) := ins_srt ht.srt
  have hlg := log_small hkv
  refine fo fun F => ?_
  repeat refine s1 ?_
  refine r_box (cs := v.map u8) rfl rfl rfl rfl (fun t5 => ?_)
  repeat refine s1 ?_
  refine cl (made_c t.p ps t.rt Φ) ?_
  repeat refine s1 ?_
  refine r_build (cells := [ptr ps, i64 0]) rfl (by rfl) rfl ?_
  refine r_box (cs := [ptr ps, i64 0]) rfl rfl rfl rfl (fun pc => ?_)
  repeat refine s1 ?_
  refine r_build1s [.tmp 20] [w64 k] rfl rfl (by simp [Value.oneCell']) (by simp) rfl rfl rfl (fun bk => ?_)
  repeat refine s1 ?_
  refine r_loadW (vs := v.map u8) rfl (by simpa using hv.1) rfl rfl ?_
  refine r_buildA1 (v := v.map u8) rfl (by simpa using hv.1) (by decide) (fun bv => ?_)
  refine r_build (cells := nbx (leafN [(k, v)]) (leaf1 bk bv)) rfl (by rfl) rfl ?_
  refine al (cs := nbx nd0 nr0) (fun t8 => ?_)
  refine r_storeW (vs := nbx (leafN [(k, v)]) (leaf1 bk bv)) rfl rfl (by rfl) (by rfl) (by simp [Value.oneCell']) rfl ?_
  repeat refine s1 ?_
  refine ld rfl (tc_has (oWt_of ht)) ?_
  repeat refine s1 ?_
  refine t_meet (σ := Nat × Nd × NR × St × Dk) (fun _ => [(7, ptr pc), (8, ptr t8), (0, ptr t.p)]) (fun z => pt t8 (.cells (nbx z.2.1 z.2.2.1).toArray T.node_Node (0, 0)) :: node z.2.1 z.2.2.1 :: tree t.p ps t.rt :: cgA pc ps z.2.2.2.1 z.2.2.2.2 (N + 40) z.1 ++ F) (MidS S D (ins k v t.kv) (2 * Nat.log2 t.kv.length) False) ?_ (fun z hz => ?_)
  · rcases hr : t.rt with _ | r
    · rw [Option.isSome_none]
      have hkv0 := ht.nil hr
      repeat refine s1 ?_
      refine j_ent (Ent.islNil (E := T.api_Ref) (s := 33) (cap := 0) (a := none) _) ?_
      refine jh [vec (some ⟨bv, 0, none⟩) 1 1 T.a44_uint8 44 (v.map u8)] (fz ?_)
      refine jh [vec (some ⟨bk, 0, none⟩) 1 1 T.uint64 1 [w64 k]] (fz ?_)
      refine js [isl (some ⟨bk, 0, none⟩) 1 1 T.uint64 1 [w64 k], isl (some ⟨bv, 0, none⟩) 1 1 T.a44_uint8 44 (v.map u8), isl none 0 0 T.api_Ref 33 []] (B := node (leafN [(k, v)]) (leaf1 bk bv)) (fun L => leaf1_ent k v bk bv L) ?_
      refine jh [hlog S.pl N] (j_ent (hlogUp (N' := N + 40) (by omega) _) ?_)
      refine j_meet (0, leafN [(k, v)], leaf1 bk bv, S, D) ?_ ⟨rfl, rfl, rfl, trivial⟩ leD
      rw [hkv0]
      exact ⟨Chg.refl h.ok ha _, fun _ => ⟨0, [], ⟨rfl, rfl, fun x hx => by simp [ins] at hx; subst hx; exact ⟨hk, hv⟩⟩, by show 1 ≤ 2 * mostN (leafN [(k, v)]); simp [mostN, leafN]⟩, fun h0 => absurd rfl h0, fun _ => rfl⟩
    · rw [Option.isSome_some]
      obtain ⟨_, hne, hh, U, hsh⟩ := ht.sh hr
      have hh10 := pow_small (sh_size hsh).2 hkv
      have hhl := pow_log (sh_size hsh).2
      have hrw := hsh.1
      repeat refine s1 ?_
      refine r_loadA (vs := rcells r) (off := 1) rfl (by simp [hrw.sum.1]) (tc_root (o := some r)) rfl rfl ?_
      repeat refine s1 ?_
      refine r_loadW (vs := v.map u8) rfl (by simpa using hv.1) rfl rfl ?_
      refine r_build (cells := w64 k :: v.map u8) rfl (by simp [fillL, hv.1, Value.cells]) rfl ?_
      refine cx (cput_c pc ps k v hk hv Φ hT hh N S D r 1 t.kv U hsh ht.srt h.ok ha (by omega) (by omega)) (fun z hz => ?_)
      obtain ⟨e1, n1, S1, D1, x1⟩ := z
      dsimp only at hz ⊢
      refine r_storeW (vs := nbx n1 x1) rfl rfl (by rfl) (by rfl) (by simp [Value.oneCell']) rfl ?_
      repeat refine s1 ?_
      refine jh [hlog S1.pl (N + 3 * (hh + 1))] (j_ent (hlogUp (N' := N + 40) (by omega) _) ?_)
      refine j_meet (e1, n1, x1, S1, D1) ?_ ⟨rfl, rfl, rfl, trivial⟩ leD
      refine ⟨hz.chg.mono (by omega), fun h0 => ?_, fun h0 => .inl (hz.er h0), fun h0 => hz.chg.dle.upb (hz.ok h0).choose_spec.2.2.2⟩
      obtain ⟨U', h1, h2, h3, _⟩ := hz.ok h0
      refine ⟨hh, U', h1, ?_⟩
      dsimp only at h3 ⊢
      have : 9 ≤ mostN n1 := by unfold mostN; split <;> omega
      omega
  · obtain ⟨e1, n1, x1, S1, D1⟩ := z
    have hl1 := hz.chg.dle.len
    dsimp only [List.cons_append, List.nil_append] at hl1 ⊢
    repeat refine s1 ?_
    refine cx (cgrowM_c pc ps (N + 40) S D (ins k v t.kv) (2 * Nat.log2 t.kv.length) False (e1, n1, x1, S1, D1) hz hsrt (by omega) (by dsimp only; omega) Φ hT) (fun y hy => ?_)
    obtain ⟨e2, o2, S2, D2⟩ := y
    obtain ⟨hy, _⟩ := hy
    have hpd := hy.chg.pd
    have hpl := hy.chg.pl
    dsimp only at hpd hpl ⊢
    repeat refine s1 ?_
    refine al (cs := rcells Rf0) (fun t9 => ?_)
    have how : oWt o2 := by
      by_cases he : e2 = 0
      · exact oWt_of (t := ⟨t.p, o2, ins k v t.kv⟩) (grow_tok (p := t.p) hsrt (hy.ok he))
      · have := (hy.er he).1
        dsimp only at this
        subst this
        exact Rf0_wt
    refine r_storeW (vs := rcells (oR o2)) rfl rfl (by simp [how.sum.1]) (by rfl) (by simp [Value.oneCell']) rfl ?_
    repeat refine s1 ?_
    refine r_loadW (vs := rcells (oR o2)) rfl (by simp [how.sum.1]) rfl rfl ?_
    repeat refine s1 ?_
    refine cx (tend_c ps pc (N + 40 + 4) S S2 D D2 (2 * Nat.log2 t.kv.length + 4) A B t (ins k v t.kv) (e2, o2) h hy.chg (by omega) (Nat.le_refl _) hl hsrt hy.ok False (fun h0 => (hy.er h0).2) (fun h0 => (hy.er h0).1) Φ) (fun x hx => ?_)
    obtain ⟨hx, hxe⟩ := hx
    dsimp only at hxe ⊢
    rw [hpd, hpl]
    repeat refine s1 ?_
    refine jh [hlog S.pl (N + 40 + 4)] (j_ent (hlogUp (N' := N + 200) (by omega) _) ?_)
    exact f1 x (hq := hx)
end Go.Proofs.YtcnpkmdooekmgaaGreatDoor
namespace Go.Proofs.YtcnpkmdooekmgaaGreatDoor
open Go Sl
theorem del_hd {k : Nat} {t : Tre} (h : t.kv = []) : get? k t.kv = none := by rw [h]; rfl
/-- what Del answers. -/
abbrev delV (e : Nat) : Value := .tuple #[.bool (decide (e = 0)), i64 (if e = 4 then 0 else e)]
attribute [local irreducible] cw sw J Exit.then Exit.inBlock Exit.noGoto bodyPost swG swL permL
theorem tdel_c (ps pd pl N k : Nat) (S : St) (D : Dk) (A B : List Tre) (t : Tre) (hk : k < 18446744073709551616) (h : TsOk S (A ++ t :: B)) (ha : Agr S D) (hN : N ≤ 600000000) (hwt : D.waits.length ≤ 600000000) (hkv : t.kv.length ≤ 1000000) (hl : (A ++ t :: B).length ≤ 1000000) (hpd : S.pd = pd) (hpl : S.pl = pl) (Φ : Base) (hT : Tab Φ) :
    Sl.Fn Tryz.prog Φ F.mtree_Tree_Del [ptr t.p, w64 k] [tree t.p ps t.rt, store ps S, disk pd D, hlog pl N] (fun x => TrQ S D A B t (del k t.kv) (get? k t.kv = none) x ∧ (x.1 = 0 → get? k t.kv ≠ none)) (fun x => delV x.1) (fun x => [tree t.p ps x.2.1, store ps x.2.2.1, disk pd x.2.2.2, hlog pl (N + 200)]) := by
  obtain rfl := hpd
  obtain rfl := hpl
  have ht := h.each t (by simp)
  have hsrt : Srt (del k t.kv) := del_srt ht.srt
  have hlg := log_small hkv
  refine fo fun F => ?_
  repeat refine s1 ?_
  refine cl (made_c t.p ps t.rt Φ) ?_
  repeat refine s1 ?_
  refine ld rfl (tc_has (oWt_of ht)) ?_
  rcases hr : t.rt with _ | r
  · rw [Option.isSome_none]
    have hkv0 := ht.nil hr
    repeat refine s1 ?_
    refine jh [hlog S.pl N] (j_ent (hlogUp (N' := N + 200) (by omega) _) ?_)
    exact f2 (4, none, S, D) (hq := ⟨⟨rfl, rfl, rfl, rfl, ha, DLe.refl _ _ _ _ _, fun h0 => (by cases h0), fun _ => ⟨hr.symm, h, rfl, .inr (.inr ⟨rfl, del_hd hkv0⟩)⟩, fun _ => rfl⟩, fun h0 => (by cases h0)⟩)
  · rw [Option.isSome_some]
    obtain ⟨_, hne, hh, U, hsh⟩ := ht.sh hr
    have hh10 := pow_small (sh_size hsh).2 hkv
    have hhl := pow_log (sh_size hsh).2
    have hrw := hsh.1
    repeat refine s1 ?_
    refine r_build (cells := [ptr ps, i64 0]) rfl (by rfl) rfl ?_
    refine r_box (cs := [ptr ps, i64 0]) rfl rfl rfl rfl (fun pc => ?_)
    repeat refine s1 ?_
    refine r_loadA (vs := rcells r) (off := 1) rfl (by simp [hrw.sum.1]) (tc_root (o := some r)) rfl rfl ?_
    repeat refine s1 ?_
    refine cx (cdel_c pc ps k hk Φ hT hh N S D r 1 t.kv U hsh ht.srt h.ok ha (by omega) (by omega)) (fun z hz => ?_)
    obtain ⟨e1, n1, S1, D1, x1⟩ := z
    have hl1 := hz.chg.dle.len
    dsimp only at hl1 hz ⊢
    have hm : MidS S D (del k t.kv) (2 * Nat.log2 t.kv.length) (get? k t.kv = none) (e1, n1, x1, S1, D1) := by
      refine ⟨hz.chg.mono (by omega), fun h0 => ?_, fun h0 => ?_, fun h0 => hz.chg.dle.upb (hz.ok h0).2.1⟩
      · obtain ⟨_, _, U', h1, h2, h3⟩ := hz.ok h0
        refine ⟨hh, U', h1, ?_⟩
        dsimp only at h3 ⊢
        omega
      · by_cases h4 : e1 = 4
        · exact .inr ⟨h4, (hz.none h4).1⟩
        · exact .inl (hz.er h0 h4)
    refine cx (cgrowM_c pc ps (N + 4 * (hh + 1)) S D (del k t.kv) (2 * Nat.log2 t.kv.length) (get? k t.kv = none) (e1, n1, x1, S1, D1) hm hsrt (by omega) (by dsimp only; omega) Φ hT) (fun y hy => ?_)
    obtain ⟨e2, o2, S2, D2⟩ := y
    obtain ⟨hy, hy0⟩ := hy
    have hpd := hy.chg.pd
    have hpl := hy.chg.pl
    dsimp only at hpd hpl hy0 ⊢
    have how : oWt o2 := by
      by_cases he : e2 = 0
      · exact oWt_of (t := ⟨t.p, o2, del k t.kv⟩) (grow_tok (p := t.p) hsrt (hy.ok he))
      · have := (hy.er he).1
        dsimp only at this
        subst this
        exact Rf0_wt
    repeat refine s1 ?_
    refine al (cs := rcells Rf0) (fun t9 => ?_)
    refine r_storeW (vs := rcells (oR o2)) rfl rfl (by simp [how.sum.1]) (by rfl) (by simp [Value.oneCell']) rfl ?_
    repeat refine s1 ?_
    refine r_loadW (vs := rcells (oR o2)) rfl (by simp [how.sum.1]) rfl rfl ?_
    repeat refine s1 ?_
    rw [← hr]
    refine cx (tend_c ps pc (N + 4 * (hh + 1) + 4) S S2 D D2 (2 * Nat.log2 t.kv.length + 4) A B t (del k t.kv) (e2, o2) h hy.chg (by omega) (Nat.le_refl _) hl hsrt hy.ok (get? k t.kv = none) (fun h0 => (hy.er h0).2) (fun h0 => (hy.er h0).1) Φ) (fun x hx => ?_)
    obtain ⟨hx, hxe⟩ := hx
    obtain ⟨e3, o3, S3, D3⟩ := x
    dsimp only at hxe ⊢
    subst hxe
    rw [hpd, hpl]
    repeat refine s1 ?_
    refine jh [hlog S.pl (N + 4 * (hh + 1) + 4)] (j_ent (hlogUp (N' := N + 200) (by omega) _) ?_)
    refine r_icmp rfl rfl rfl rfl ?_
    repeat refine s1 ?_
    refine t_condSB rfl (fun g => ?_) (fun g => ?_)
    · have g := of_decide_eq_true g
      obtain rfl : e3 = 4 := by omega
      repeat refine s1 ?_
      exact f2 (4, o3, S3, D3) (hq := ⟨hx, fun h0 => (by cases h0)⟩)
    · have g := of_decide_eq_false g
      have g4 : e3 ≠ 4 := by omega
      repeat refine s1 ?_
      refine r_icmp rfl rfl rfl rfl ?_
      repeat refine s1 ?_
      exact f2 (e3, o3, S3, D3) (hV := by dsimp only [delV]; rw [if_neg g4]; simp) (hq := ⟨hx, fun h0 => (hz.ok (hy0 h0)).1⟩)
end Go.Proofs.YtcnpkmdooekmgaaGreatDoor
namespace Go.Proofs.YtcnpkmdooekmgaaGreatDoor
open Go Sl
/-- the store of other trees: on the same disk. -/
structure FrQ (S : St) (ts : List Tre) (S' : St) : Prop where
  pd : S'.pd = S.pd
  pl : S'.pl = S.pl
  frm : S'.frm = S.frm
  cnt : S'.cnt = S.cnt
  agr : ∀ D, Agr S D → Agr S' D
  ok : TsOk S' ts
theorem tok_root {g : Gd} {t : Tre} {r : Rf} (h : TOk g t) (hr : t.rt = some r) : g.K r.sec ≠ none := by
  obtain ⟨_, _, hh, U, hs⟩ := h.sh hr
  obtain ⟨ks, hk, _⟩ := sh_known hs _ (sh_root hs)
  rw [hk]; simp
theorem TsOk.clone {S : St} {ts : List Tre} {t : Tre} (h : TsOk S ts) (ht : TOk S.g t) : TsOk (S.turn none t.rt) (t :: ts) := by
  refine ⟨fun s => ?_, turn_wf h.ok (fun r hr => tok_root ht hr), fun s hs => ?_, fun x hx => ?_⟩
  · rw [hold_cons]
    show S.E s + hdO t.rt s - hdO none s = hdO t.rt s + _
    rw [h.E]
    have : hdO none s = 0 := rfl
    omega
  · rcases h.tight s hs with h0 | h0
    · left
      show 0 < S.E s + hdO t.rt s - hdO none s
      have : hdO none s = 0 := rfl
      omega
    · exact .inr h0
  · rcases List.mem_cons.1 hx with rfl | hx
    · exact ht
    · exact h.each x hx
theorem TsOk.freed {S : St} {A B : List Tre} {t : Tre} {K : Kp} (h : TsOk S (A ++ t :: B)) (l : Less S.K (S.turn t.rt none).E K) (ll : Loose K (S.turn t.rt none).E fun _ => False) : FrQ S (A ++ B) ((S.turn t.rt none).withK K) := by
  have hE : ∀ s, (S.turn t.rt none).E s = hold (A ++ B) s := fun s => by
    show S.E s + hdO none s - hdO t.rt s = _
    rw [h.E, hold_mid]
    show hdO t.rt s + _ + 0 - _ = _
    omega
  have hw : (S.turn t.rt none).wf := turn_wf h.ok (fun r hr => by cases hr)
  refine ⟨rfl, rfl, rfl, rfl, fun D a => TsOk.agr a l.sub, hE, l.ok hw, ll.tight (l.ok hw), fun x hx => ?_⟩
  have hx' : x ∈ A ++ t :: B := by rcases List.mem_append.1 hx with hx | hx <;> simp [hx]
  exact (h.each x hx').less l (fun r hr => by rw [hE]; exact hold_at hx hr)
theorem TsOk.became {S : St} {A B : List Tre} {t o : Tre} {K : Kp} (h : TsOk S (A ++ t :: B)) (ho : TOk S.g o) (l : Less S.K (S.turn t.rt o.rt).E K) (ll : Loose K (S.turn t.rt o.rt).E fun _ => False) : FrQ S (A ++ ⟨t.p, o.rt, o.kv⟩ :: B) ((S.turn t.rt o.rt).withK K) := by
  have hw : (S.turn t.rt o.rt).wf := turn_wf h.ok (fun r hr => tok_root ho hr)
  have ht : TOk S.g ⟨t.p, o.rt, o.kv⟩ := ho
  have := h.settled (t' := ⟨t.p, o.rt, o.kv⟩) (K := K) rfl (Gd.le_refl _) h.ok ht (l.swept (ll.tight (l.ok hw)))
  exact ⟨rfl, rfl, rfl, rfl, fun D a => TsOk.agr a l.sub, this⟩
section
variable {X : Cx} {e : Env} {L A : List Assn} {S : List Nat} {ops : Array Oper} {k : Nat} {l : List Oper} {R : Act → World → Prop} {d : Nat} {T : TypeId} {pos : String} {af : Array Edge}
/-- a pointer is itself. -/
theorem r_pneR {t u E : TypeId} {n : Nat} {x y : Operand} {p : Addr} [tu : TUnd X.P t (.pointer E)] [ts : TSize X.P E n] (hx : ev e x = some (.pointer (some p))) (hy : ev e y = some (.pointer (some p)))
    (h : J X ((d, .bool false) :: e) L (sw X.P (Holds X.Φ A) S ops R (k + 1) l)) (hd : Nat.blt d X.n = true := by rfl) : J X e L (sw X.P (Holds X.Φ A) S ops R k (⟨some d, .binOp .neq t x y u, T, pos, af, none⟩ :: l)) :=
  r_pure rfl (fun a mt w => by
    have h2 : (binOp .neq t (.pointer (some p)) (.pointer (some p))).run X.P w = .ok (.bool false) w := by
      refine run_neq_by (b := true) rfl (fun d => ?_)
      simp only [Op.equalIn, Sem.run_bind, tu.run, Result.andThen_ok, ts.run]
      split
      · simp [sameAddr]
      · simp
    have h3 : eqGuard .neq t x y (.pointer (some p)) (.pointer (some p)) = pure () := rfl
    simp only [execOp, mt.ev hx, mt.ev hy, Sem.run_bind, h3, Sem.run_pure, h2, Result.andThen_ok]) hd h
end
theorem z35_one : ∀ v ∈ Value.pointer none :: (rcells Rf0 ++ [.bool false]), v.oneCell' = true := fun v hv => by
  rcases List.mem_cons.1 hv with rfl | hv
  · rfl
  · exact tc_one (ps := 0) (o := none) v (by simp only [tcells, List.mem_cons]; exact .inr hv)
attribute [local irreducible] cw sw J Exit.then Exit.inBlock Exit.noGoto bodyPost swG swL permL
theorem tclone_c (ps : Nat) (S : St) (t : Tre) (hw : oWt t.rt) (hk : ∀ r, t.rt = some r → S.K r.sec ≠ none) (hE : ∀ s, S.E s < 1000000000) (Φ : Base) :
    Sl.Fn Tryz.prog Φ F.mtree_Tree_Clone [ptr t.p] [tree t.p ps t.rt, store ps S] (fun _ : Nat => True) (fun x => ptr x) (fun x => [tree x ps t.rt, tree t.p ps t.rt, store ps (S.turn none t.rt)]) := by
  refine fo fun F => ?_
  repeat refine s1 ?_
  refine cl (made_c t.p ps t.rt Φ) ?_
  repeat refine s1 ?_
  refine r_loadW (vs := tcells ps t.rt) rfl (tc_len hw) rfl rfl ?_
  refine al (cs := .pointer none :: (rcells Rf0 ++ [.bool false])) (fun t3 => ?_)
  refine r_storeW (vs := tcells ps t.rt) rfl rfl (tc_len hw) (by rfl) tc_one rfl ?_
  repeat refine s1 ?_
  refine ld rfl (tc_has hw) ?_
  rcases hr : t.rt with _ | r
  · rw [Option.isSome_none]
    repeat refine s1 ?_
    rw [turn_none]
    exact f1 t3
  · rw [Option.isSome_some]
    rw [hr] at hw
    have hrw : r.wt := hw
    repeat refine s1 ?_
    refine r_loadA (vs := rcells r) (off := 1) rfl (by simp [hrw.sum.1]) (tc_root (o := some r)) rfl rfl ?_
    refine cl (shold_c ps S r hrw (hk r hr) (hE _) Φ) ?_
    rw [turn_up]
    repeat refine s1 ?_
    exact f1 t3
theorem tfree_c (ps : Nat) (S : St) (A B : List Tre) (t : Tre) (h : TsOk S (A ++ t :: B)) (Φ : Base) :
    Sl.Fn Tryz.prog Φ F.mtree_Tree_Free [ptr t.p] [tree t.p ps t.rt, store ps S] (FrQ S (A ++ B)) (fun _ => i64 0) (fun x => [tnull t.p, store ps x]) := by
  have ht := h.each t (by simp)
  have hw := oWt_of ht
  refine fo fun F => ?_
  repeat refine s1 ?_
  refine cl (made_c t.p ps t.rt Φ) ?_
  repeat refine s1 ?_
  refine ld rfl (tc_has hw) ?_
  repeat refine s1 ?_
  refine t_meet (σ := St) (fun _ => [(0, ptr t.p), (2, i64 0)]) (fun x => tree t.p ps t.rt :: store ps x :: F) (FrQ S (A ++ B)) ?_ (fun x hx => ?_)
  · rcases hr : t.rt with _ | r
    · rw [Option.isSome_none]
      repeat refine s1 ?_
      refine j_meet S ?_ ⟨rfl, rfl, trivial⟩ leD
      have := h.freed (K := S.K)
      rw [hr, turn_none] at this
      exact this (Less.refl h.ok) (h.tight.loose h.ok)
    · rw [Option.isSome_some]
      rw [hr] at hw
      have hrw : r.wt := hw
      repeat refine s1 ?_
      refine r_loadA (vs := rcells r) (off := 1) rfl (by simp [hrw.sum.1]) (tc_root (o := some r)) rfl rfl ?_
      refine cx (sdrop_c ps S r (fun _ => False) hrw h.ok (by rw [h.E]; exact hold_at (by simp) hr) (h.tight.loose h.ok) Φ) (fun K hK => ?_)
      rw [turn_down] at hK ⊢
      repeat refine s1 ?_
      refine j_meet ((S.turn (some r) none).withK K) ?_ ⟨rfl, rfl, trivial⟩ leD
      have := h.freed (K := K)
      rw [hr] at this
      exact this hK.1 hK.2
  · repeat refine s1 ?_
    refine r_build (cells := .pointer none :: (rcells Rf0 ++ [.bool false])) rfl (by rfl) rfl ?_
    repeat refine s1 ?_
    refine r_storeW (vs := .pointer none :: (rcells Rf0 ++ [.bool false])) rfl rfl (by rfl) (tc_len hw) z35_one rfl ?_
    repeat refine s1 ?_
    exact f1 x (hq := hx)
theorem tbecome_c (ps : Nat) (S : St) (A B : List Tre) (t o : Tre) (h : TsOk S (A ++ t :: B)) (ho : TOk S.g o) (hl : (A ++ t :: B).length ≤ 1000000) (Φ : Base) :
    Sl.Fn Tryz.prog Φ F.mtree_Tree_Become [ptr t.p, ptr o.p] [tree t.p ps t.rt, tree o.p ps o.rt, store ps S] (FrQ S (A ++ ⟨t.p, o.rt, o.kv⟩ :: B)) (fun _ => i64 0) (fun x => [tree t.p ps o.rt, tree o.p ps o.rt, store ps x]) := by
  have ht := h.each t (by simp)
  have hw := oWt_of ht
  have how := oWt_of ho
  have hlow := tre_low h hl
  refine fo fun F => ?_
  repeat refine s1 ?_
  refine cl (made_c t.p ps t.rt Φ) ?_
  repeat refine s1 ?_
  refine cl (made_c o.p ps o.rt Φ) ?_
  repeat refine s1 ?_
  refine r_pneR rfl rfl ?_
  repeat refine s1 ?_
  refine ld rfl (tc_has how) ?_
  repeat refine s1 ?_
  refine t_meet (σ := Unit) (fun _ => [(0, ptr t.p), (1, ptr o.p)]) (fun _ => tree t.p ps t.rt :: tree o.p ps o.rt :: store ps (S.turn none o.rt) :: F) (fun _ => True) ?_ (fun _ _ => ?_)
  · rcases hr : o.rt with _ | r
    · rw [Option.isSome_none]
      repeat refine s1 ?_
      rw [turn_none]
      exact j_meet () trivial ⟨rfl, rfl, trivial⟩ leD
    · rw [Option.isSome_some]
      rw [hr] at how
      have hrw : r.wt := how
      repeat refine s1 ?_
      refine r_loadA (vs := rcells r) (off := 1) rfl (by simp [hrw.sum.1]) (tc_root (o := some r)) rfl rfl ?_
      refine cl (shold_c ps S r hrw (tok_root ho hr) (hlow.1 _) Φ) ?_
      rw [turn_up]
      repeat refine s1 ?_
      exact j_meet () trivial ⟨rfl, rfl, trivial⟩ leD
  have hS1 : (S.turn none o.rt).wf := turn_wf h.ok (fun r hr => tok_root ho hr)
  have hE1 : ∀ s, S.E s ≤ (S.turn none o.rt).E s := fun s => by
    show S.E s ≤ S.E s + hdO o.rt s - hdO none s
    have : hdO none s = 0 := rfl
    omega
  have hT1 : Tight S.K (S.turn none o.rt).E := fun s hs => (h.tight s hs).imp (fun h0 => Nat.lt_of_lt_of_le h0 (hE1 s)) id
  repeat refine s1 ?_
  refine ld rfl (tc_has hw) ?_
  repeat refine s1 ?_
  refine t_meet (σ := St) (fun _ => [(0, ptr t.p), (1, ptr o.p)]) (fun x => tree t.p ps t.rt :: tree o.p ps o.rt :: store ps x :: F) (FrQ S (A ++ ⟨t.p, o.rt, o.kv⟩ :: B)) ?_ (fun x hx => ?_)
  · rcases hr : t.rt with _ | r
    · rw [Option.isSome_none]
      repeat refine s1 ?_
      refine j_meet (S.turn none o.rt) ?_ ⟨rfl, rfl, trivial⟩ leD
      have := h.became (K := S.K) ho
      rw [hr] at this
      exact this (Less.refl hS1) (hT1.loose hS1)
    · rw [Option.isSome_some]
      rw [hr] at hw
      have hrw : r.wt := hw
      have hpos := hlow.2 r hr
      repeat refine s1 ?_
      refine r_loadA (vs := rcells r) (off := 1) rfl (by simp [hrw.sum.1]) (tc_root (o := some r)) rfl rfl ?_
      refine cx (sdrop_c ps (S.turn none o.rt) r (fun _ => False) hrw hS1 (Nat.lt_of_lt_of_le hpos (hE1 _)) (hT1.loose hS1) Φ) (fun K hK => ?_)
      rw [turn_down, turn_turn] at hK ⊢
      repeat refine s1 ?_
      refine j_meet ((S.turn (some r) o.rt).withK K) ?_ ⟨rfl, rfl, trivial⟩ leD
      have := h.became (K := K) ho
      rw [hr] at this
      exact this hK.1 hK.2
  · repeat refine s1 ?_
    refine r_loadA (vs := rcells (oR o.rt)) (off := 1) rfl (by simp [how.sum.1]) tc_root rfl rfl ?_
    repeat refine s1 ?_
    refine ld rfl (tc_has how) ?_
    repeat refine s1 ?_
    refine r_storeA (cs' := ptr ps :: (rcells (oR o.rt) ++ [.bool t.rt.isSome])) (vs := rcells (oR o.rt)) (off := 1) rfl rfl (by simp [how.sum.1]) (by rw [tc_len hw]; omega) (by simp [Value.oneCell']) (tc_setroot hw how) rfl ?_
    repeat refine s1 ?_
    refine so (hl := tc_sethas how) rfl rfl ?_ (ho := by simp [how.sum.1])
    repeat refine s1 ?_
    exact f1 x (hq := hx)
end Go.Proofs.YtcnpkmdooekmgaaGreatDoor
namespace Go.Proofs.YtcnpkmdooekmgaaGreatDoor
open Go Sl
abbrev dnN (D : Dk) (m : Nd) : Nd := if D.down then nd0 else m
abbrev dnE (D : Dk) : Nat := if D.down then 30 else 0
/-- a value that may not be there. -/
abbrev gotV (o : Option (List Nat)) (e : Nat) : Value := .tuple #[v44 (o.getD z44), .bool o.isSome, i64 e]
/-- at the end of a search in a leaf. -/
theorem below_hit {kv : KV} {k : Nat} (hs : Srt kv) : get? k kv = if k ∈ kv.map (·.1) then (kv.map (·.2))[below (kv.map (·.1)) k]? else none := by
  induction kv with
  | nil => rfl
  | cons a l ih =>
    obtain ⟨h1, h2⟩ := List.pairwise_cons.1 hs
    obtain ⟨j, w⟩ := a
    by_cases hj : j = k
    · subst hj
      have h0 : below (((j, w) :: l).map (·.1)) j = 0 := by
        rw [below, List.countP_eq_zero]
        intro x hx
        rcases List.mem_cons.1 hx with rfl | hx
        · simp
        · obtain ⟨y, hy, rfl⟩ := List.mem_map.1 hx
          have := h1 y hy
          simp at this ⊢; omega
      rw [h0]
      simp [get?]
    · have hj' : ¬ k = j := fun e => hj e.symm
      have hg : get? k ((j, w) :: l) = get? k l := by simp [get?, hj']
      rw [hg, ih h2]
      by_cases hm : k ∈ l.map (·.1)
      · have hlt : j < k := by
          obtain ⟨y, hy, rfl⟩ := List.mem_map.1 hm
          exact h1 y hy
        have hb : below (((j, w) :: l).map (·.1)) k = below (l.map (·.1)) k + 1 := by
          simp [below, hlt]
        rw [if_pos hm, if_pos (by simp; exact .inr (by simpa using hm)), hb]
        rfl
      · rw [if_neg hm, if_neg (by simp only [List.map_cons, List.mem_cons, not_or]; exact ⟨fun h => hj h.symm, hm⟩)]
attribute [local irreducible] cw sw J Exit.then Exit.inBlock Exit.noGoto bodyPost swG swL permL
theorem tload_c (ps N : Nat) (S : St) (D : Dk) (r : Rf) (m : Nd) (hr : r.wt) (hS : S.wf) (hK : S.K r.sec ≠ none) (hm : m.right) (hw : m.wt) (hsec : S.sec r.sec = m.enc) (hsum : r.sum = shaM m.enc) (ha : Agr S D) (hN : N ≤ 900000000) (Φ : Base) :
    Sl.Fn Tryz.prog Φ F.shadow_Store_Load [ptr ps, .agg (rcells r).toArray] [store ps S, disk S.pd D, hlog S.pl N] (fun _ : NR => True) (fun y => .tuple #[nV (dnN D m) y, i64 (dnE D)])
      (fun y => [store ps S, disk S.pd D, hlog S.pl (N + 1), node (dnN D m) y]) := by
  have hrg := hS.rng _ hK
  unfold dnN dnE
  rcases hd : D.down with _ | _
  · have := sload_s ps N S D r m hr hrg.1 hrg.2 hm hw (by rw [ha.sec _ hK]; exact hsec) ha.size hd hN Φ
    simp only [ldN, if_pos hsum.symm] at this
    simpa only [Bool.false_eq_true, if_false] using this
  · simp only [if_true]
    refine Fn.conseq (Fn.frame (sload_d ps S D r hr hrg.1 hrg.2 hd Φ) [hlog S.pl N]) (fun F _ _ s => s) (fun _ _ => ⟨nr0, trivial, rfl, fun F => ?_⟩)
    dsimp only [List.cons_append, List.nil_append]
    exact Ent.trans (Le.ent (A := hlog S.pl N :: store ps S :: disk S.pd D :: node nd0 nr0 :: F)) ((hlogUp (N' := N + 1) (by omega) _).trans Le.ent)
theorem tget_c (ps pd pl N k : Nat) (S : St) (D : Dk) (t : Tre) (_hk : k < 18446744073709551616) (ht : TOk S.g t) (hS : S.wf) (ha : Agr S D) (hN : N ≤ 600000000) (hkv : t.kv.length ≤ 1000000) (hpd : S.pd = pd) (hpl : S.pl = pl) (Φ : Base) :
    Sl.Fn Tryz.prog Φ F.mtree_Tree_Get [ptr t.p, w64 k] [tree t.p ps t.rt, store ps S, disk pd D, hlog pl N] (fun _ : Unit => True) (fun _ => if t.rt.isSome ∧ D.down = true then gotV none 30 else gotV (get? k t.kv) 0) (fun _ => [tree t.p ps t.rt, store ps S, disk pd D, hlog pl (N + 200)]) := by
  obtain rfl := hpd
  obtain rfl := hpl
  have hw := oWt_of ht
  refine fo fun F => ?_
  repeat refine s1 ?_
  refine al (cs := z44.map u8) (fun t4 => ?_)
  repeat refine s1 ?_
  refine al (cs := z44.map u8) (fun t7 => ?_)
  repeat refine s1 ?_
  refine cl (made_c t.p ps t.rt Φ) ?_
  repeat refine s1 ?_
  refine ld rfl (tc_has hw) ?_
  rcases hrt : t.rt with _ | r0
  · rw [Option.isSome_none]
    have hkv0 := ht.nil hrt
    repeat refine s1 ?_
    refine r_storeW (vs := z44.map u8) rfl rfl (by rfl) (by rfl) (by simp [Value.oneCell']) rfl ?_
    repeat refine s1 ?_
    refine jh [hlog S.pl N] (j_ent (hlogUp (N' := N + 200) (by omega) _) ?_)
    exact j_fin rfl (.cons (rv_agg (l := z44.map u8) (fr := (0, 0)) rfl (by rfl)) (.cons (rv_tmp rfl) (.cons (rv_tmp rfl) .nil))) () (by rw [if_neg (by simp), hkv0]; rfl) trivial
  · rw [Option.isSome_some]
    rw [hrt] at hw
    have hrw : r0.wt := hw
    obtain ⟨hsrt, hne, H, U, hsh⟩ := ht.sh hrt
    have hh10 := pow_small (sh_size hsh).2 hkv
    repeat refine s1 ?_
    refine r_loadA (vs := rcells r0) (off := 1) rfl (by simp [hrw.sum.1]) (tc_root (o := some r0)) rfl rfl ?_
    refine al (cs := rcells Rf0) (fun t8 => ?_)
    refine r_storeW (vs := rcells r0) rfl rfl (by simp [hrw.sum.1]) (by rfl) (by simp [Value.oneCell']) rfl ?_
    repeat refine s1 ?_
    refine t_loop (σ := Nat × Rf × Nat) (fun z => [(8, ptr z.2.2), (7, ptr t7), (4, ptr t4), (0, ptr t.p), (1, w64 k), (5, .bool false), (6, i64 0)])
      (fun z => pt z.2.2 (.cells (rcells z.2.1).toArray T.api_Ref (0, 0)) :: pt t7 (.cells (z44.map u8).toArray T.a44_uint8 (0, 0)) :: pt t4 (.cells (z44.map u8).toArray T.a44_uint8 (0, 0)) :: tree t.p ps (some r0) :: store ps S :: disk S.pd D :: hlog S.pl (N + (H - z.1)) :: F)
      (fun z => z.1 ≤ H ∧ ∃ lo kv' U, Sh S.g lo z.1 z.2.1 kv' U ∧ Srt kv' ∧ get? k kv' = get? k t.kv) (fun z => z.1) (H, r0, t8) ⟨Nat.le_refl _, 1, t.kv, U, hsh, hsrt, rfl⟩ ⟨rfl, rfl, rfl, rfl, rfl, rfl, rfl, trivial⟩ (by dsimp only; rw [Nat.sub_self, Nat.add_zero]; exact Le.ent) ?_
    rintro ⟨h, r, t8⟩ ⟨hle, lo, kv, U, hsh, hs, hg⟩
    dsimp only at hle hsh hs hg ⊢
    obtain ⟨hr, m, V, hn, hmr, hlo, hsec, hsum, hK, rfl⟩ := hsh
    have hmw := nsh_wt hn
    repeat refine s1 ?_
    refine t_meet (σ := NR × Nat) (fun z => [(9, ptr z.2), (10, i64 (dnE D)), (8, ptr t8), (7, ptr t7), (4, ptr t4), (0, ptr t.p), (1, w64 k), (5, .bool false), (6, i64 0)])
      (fun z => pt z.2 (.cells (nbx (dnN D m) z.1).toArray T.node_Node (0, 0)) :: node (dnN D m) z.1 :: pt t8 (.cells (rcells r).toArray T.api_Ref (0, 0)) :: pt t7 (.cells (z44.map u8).toArray T.a44_uint8 (0, 0)) :: pt t4 (.cells (z44.map u8).toArray T.a44_uint8 (0, 0)) :: tree t.p ps (some r0) :: store ps S :: disk S.pd D :: hlog S.pl (N + (H - h) + 1) :: F) (fun _ => True) ?_ ?_
    · have HA : ∀ y : NR, True := fun _ => trivial
      refine t_draw2 [tree t.p ps (some r0), pt t8 (.cells (rcells r).toArray T.api_Ref (0, 0))] [3, 4] 5 9 [9, 0, 1, 2, 3, 4, 5, 6, 7, 8, 10, 11] mixed (by decide +kernel) ?_ ?_
      · repeat refine s1 ?_
        refine s_loadW (vs := rcells r) rfl (by simp [hr.sum.1]) rfl rfl ?_
        repeat refine s1 ?_
        refine cx (tload_c ps (N + (H - h)) S D r m hr hS (by rw [show S.K r.sec = S.g.K r.sec from rfl, hK]; simp) hmr hmw hsec hsum ha (by omega) Φ) (fun y _ => ?_)
        generalize hmm : dnN D m = m2
        repeat refine s1 ?_
        refine al (cs := nbx nd0 nr0) (fun t9 => ?_)
        repeat refine s1 ?_
        refine r_storeW (vs := nbx m2 y) rfl rfl (by rfl) (by rfl) (by simp [Value.oneCell']) rfl ?_
        repeat refine s1 ?_
        rw [← hmm]
        exact j_meet (y, t9) trivial ⟨rfl, rfl, rfl, rfl, rfl, rfl, rfl, rfl, rfl, trivial⟩ leD
      · repeat refine s1 ?_
        refine al (cs := nbx nd0 nr0) (fun t9 => ?_)
        repeat refine s1 ?_
        refine s_loadW (vs := rcells r) rfl (by simp [hr.sum.1]) rfl rfl ?_
        repeat refine s1 ?_
        refine cx (tload_c ps (N + (H - h)) S D r m hr hS (by rw [show S.K r.sec = S.g.K r.sec from rfl, hK]; simp) hmr hmw hsec hsum ha (by omega) Φ) (fun y _ => ?_)
        generalize hmm : dnN D m = m2
        repeat refine s1 ?_
        refine r_storeW (vs := nbx m2 y) rfl rfl (by rfl) (by rfl) (by simp [Value.oneCell']) rfl ?_
        repeat refine s1 ?_
        rw [← hmm]
        exact j_meet (y, t9) trivial ⟨rfl, rfl, rfl, rfl, rfl, rfl, rfl, rfl, rfl, trivial⟩ leD
    rintro ⟨y, t9⟩ _
    rcases hd : D.down with _ | _
    · unfold dnN dnE
      simp only [hd, Bool.false_eq_true, if_false]
      repeat refine s2 ?_
      cases h with
      | zero =>
        obtain ⟨rfl, rfl, hok⟩ := hn
        have hkl : kv.length ≤ 9 := by have := (hmr.leaf rfl).2.1; simpa [leafN] using this
        rw [show (leafN kv).leaf = true from rfl, Bool.not_true]
        have hkeys : (leafN kv).keys = kv.map (·.1) := rfl
        repeat refine s1 ?_
        refine cl (find_c (leafN kv) y k hmr.rise (by simp [leafN]; omega) Φ) ?_
        have hbl := below_hit (k := k) hs
        rw [hg] at hbl
        by_cases hm : k ∈ kv.map (·.1)
        · rw [hkeys, decide_eq_true hm]
          rw [if_pos hm] at hbl
          have hlt : below (kv.map (·.1)) k < kv.length := by
            rcases Nat.lt_or_ge (below (kv.map (·.1)) k) kv.length with h0 | h0
            · exact h0
            · rw [List.getElem?_eq_none (by simpa using h0)] at hbl
              rw [← hg] at hbl
              exact absurd hm (get_iff.1 hbl)
          generalize below (kv.map (·.1)) k = i at hbl hlt ⊢
          have hil : i < (leafN kv).vals.length := by simpa [leafN] using hlt
          have hvi : (leafN kv).vals[i]? = get? k t.kv := hbl.symm
          obtain ⟨u, hu⟩ : ∃ u, (leafN kv).vals[i]? = some u := ⟨_, List.getElem?_eq_getElem hil⟩
          have hgu : get? k t.kv = some u := by rw [← hvi, hu]
          have hul : u.length = 44 := (hmw.vals u (List.mem_of_getElem? hu)).1
          have hxs : ∀ (j : Nat) (v : Value), (u.map u8)[j]? = some v → ((leafN kv).vals.flatMap fun v => v.map u8)[i * 44 + j]? = some v := fun j v hv => by
            have hj := (List.getElem?_eq_some_iff.1 hv).1
            rw [flat_in (f := fun v : List Nat => v.map u8) (c := 44) (fun z hz => by simpa using (hmw.vals z hz).1) hu (by simpa [hul] using hj)]
            exact hv
          refine jh [node (leafN kv) y] (j_ent (Ent.unnode _) ?_)
          refine jh [valsA (leafN kv) y] (j_leni (fun _ _ hka => ?_))
          obtain ⟨kb, ko, hkb⟩ := hka (by omega)
          obtain ⟨mka, mkc, mva, mvc, mra, mrc⟩ := y
          dsimp only at hkb
          subst hkb
          dsimp only
          repeat refine s1 ?_
          refine ix rfl rfl hil ?_
          refine r_loadIA (off := ko) (n := (leafN kv).vals.length) (cap := mvc) (E := T.a44_uint8) (s := 44) (xs := (leafN kv).vals.flatMap fun v => v.map u8) (vs := u.map u8) rfl (j := i * 44) (by omega) (by simp [hul]) hxs rfl rfl ?_
          repeat refine s1 ?_
          refine r_storeW (vs := u.map u8) rfl rfl (by simp [hul]) (by rfl) (by simp [Value.oneCell']) rfl ?_
          repeat refine s1 ?_
          refine jh [hlog S.pl (N + (H - 0) + 1)] (j_ent (hlogUp (N' := N + 200) (by omega) _) ?_)
          exact j_fin rfl (.cons (rv_agg (l := u.map u8) (fr := (0, 0)) rfl (by simp [hul])) (.cons (rv_tmp rfl) (.cons (rv_tmp rfl) .nil))) () (by rw [if_neg (by simp), hgu]; rfl) trivial
        · rw [hkeys, decide_eq_false hm]
          rw [if_neg hm] at hbl
          repeat refine s1 ?_
          refine r_storeW (vs := z44.map u8) rfl rfl (by rfl) (by rfl) (by simp [Value.oneCell']) rfl ?_
          repeat refine s1 ?_
          refine jh [hlog S.pl (N + (H - 0) + 1)] (j_ent (hlogUp (N' := N + 200) (by omega) _) ?_)
          exact j_fin rfl (.cons (rv_agg (l := z44.map u8) (fr := (0, 0)) rfl (by rfl)) (.cons (rv_tmp rfl) (.cons (rv_tmp rfl) .nil))) () (by rw [if_neg (by simp), hbl]; rfl) trivial
      | succ h =>
        have hlf : m.leaf = false := nsh_leaf hn
        have hwh : m.keys.length ≤ 11 := hmr.most
        obtain ⟨cs, hmi, hkv', hV, hcs⟩ := nsh_succ.1 hn
        have hrise := hmr.rise
        have hrl : m.kids.length = cs.length := by rw [hmi]; simp [inner]
        have hpos : 2 ≤ cs.length := by have := (hmr.inner hlf).1; have : m.keys.length = cs.length := (by rw [hmi]; simp [inner]); omega
        obtain ⟨A, c, B, hcut, hAl, hc1, hc2⟩ := way_cut (k := k) (cs := cs) (by intro e; rw [e] at hpos; simp at hpos) (by have := hrise; rw [hmi] at this; exact this)
        have hwk : way m.keys k = A.length := by rw [hAl, hmi]; rfl
        have hcc := hcs c (by rw [hcut]; simp)
        have hsrt' := hs
        rw [hkv', hcut] at hsrt'
        obtain ⟨hsA, hsB⟩ := way_sides (k := k) hsrt' (fun d hd => (hcs d (by rw [hcut]; exact hd)).1) hc1 hc2
        have hkid : m.kids[A.length]? = some c.rf := by rw [hmi, hcut]; simp [inner]
        have hAlt : A.length < m.kids.length := by rw [hrl, hcut]; simp
        have hkid2 : m.kids[A.length] = c.rf := by have := (List.getElem?_eq_some_iff.1 hkid).2; exact this
        rw [hlf, Bool.not_false]
        refine jh [node m y] (j_ent (Ent.unnode _) ?_)
        refine jh [kidsA m y] (j_leni (fun _ _ hka => ?_))
        obtain ⟨kb, ko, hkb⟩ := hka (by omega)
        obtain ⟨mka, mkc, mva, mvc, mra, mrc⟩ := y
        dsimp only at hkb
        subst hkb
        repeat refine s1 ?_
        refine t_draw [pt t9 (.cells (nbx m ⟨mka, mkc, mva, mvc, some ⟨kb, ko, none⟩, mrc⟩).toArray T.node_Node (0, 0))] [1, 2] mixed (by decide +kernel) ?_
        repeat refine s1 ?_
        refine cl (way_c m ⟨mka, mkc, mva, mvc, some ⟨kb, ko, none⟩, mrc⟩ k hrise (by omega) Φ) ?_
        rw [hwk]
        dsimp only
        refine ix rfl rfl hAlt ?_
        refine r_loadIA (off := ko) (n := m.kids.length) (cap := mrc) (E := T.api_Ref) (s := 33) (xs := m.kids.flatMap rcells) (vs := rcells c.rf) rfl (j := A.length * 33) (by omega) (by simp [hcc.2.1.sum.1]) (by
          have := kid_at hmw hAlt
          rw [hkid2] at this; exact this) rfl rfl ?_
        refine r_storeW (vs := rcells c.rf) rfl rfl (by simp [hcc.2.1.sum.1]) (by simp [hr.sum.1]) (by simp [Value.oneCell']) rfl ?_
        repeat refine s1 ?_
        refine r_loadW (vs := rcells c.rf) rfl (by simp [hcc.2.1.sum.1]) rfl rfl ?_
        repeat refine s1 ?_
        refine al (cs := rcells Rf0) (fun t8' => ?_)
        refine r_storeW (vs := rcells c.rf) rfl rfl (by simp [hcc.2.1.sum.1]) (by rfl) (by simp [Value.oneCell']) rfl ?_
        repeat refine s1 ?_
        exact j_again (h, c.rf, t8') ⟨by omega, 4, c.kv, c.U, hcc.2, srt_mid hsrt', by
          rw [← hg, hkv', hcut]
          exact (get_mid hsA hsB).symm⟩ (Nat.lt_succ_self h) ⟨rfl, rfl, rfl, rfl, rfl, rfl, rfl, trivial⟩ (by
          dsimp only
          rw [show N + (H - (h + 1)) + 1 = N + (H - h) by omega]
          exact Le.ent)
    · unfold dnN dnE
      simp only [hd, if_true]
      repeat refine s2 ?_
      refine r_storeW (vs := z44.map u8) rfl rfl (by rfl) (by rfl) (by simp [Value.oneCell']) rfl ?_
      repeat refine s1 ?_
      refine jh [hlog S.pl (N + (H - h) + 1)] (j_ent (hlogUp (N' := N + 200) (by omega) _) ?_)
      exact j_fin rfl (.cons (rv_agg (l := z44.map u8) (fr := (0, 0)) rfl (by rfl)) (.cons (rv_tmp rfl) (.cons (rv_tmp rfl) .nil))) () (by rw [if_pos (by simp)]; rfl) trivial
end Go.Proofs.YtcnpkmdooekmgaaGreatDoor
namespace Go.Proofs.YtcnpkmdooekmgaaGreatDoor
open Go Sl
abbrev yl (l : Nat) : Value := .func (.yield l) #[] #[]
theorem Ent.mid (A : List Assn) (z : Assn) (B : List Assn) : Ent (A ++ z :: B) (z :: (A ++ B)) := by
  induction A with
  | nil => exact Ent.refl _
  | cons a A ih => exact (Ent.cons a ih).trans (Ent.swap _ _ _)
theorem Ent.unmid (A : List Assn) (z : Assn) (B : List Assn) : Ent (z :: (A ++ B)) (A ++ z :: B) := by
  induction A with
  | nil => exact Ent.refl _
  | cons a A ih => exact (Ent.swap _ _ _).trans (Ent.cons a ih)
/-- what a call of yield does. -/
def Yd (P : Program) (Φ : Base) (l : Nat) (args : List Value) (Pre : Assn) (b : Bool) (Post : Assn) : Prop :=
  ∀ F w, Holds Φ (Pre :: F) w → upS P (fun v w' => v = .bool b ∧ Holds Φ (Post :: F) w') ((Instr.yield l args.toArray).run P w)
/-- an iterator's way: what comes of a state, and whether it came to the end. -/
def rounds {σ ξ : Type} (nxt : σ → ξ → σ) (go : σ → ξ → Bool) : σ → List ξ → σ × Bool
  | s, [] => (s, true)
  | s, x :: xs => if go s x then rounds nxt go (nxt s x) xs else (nxt s x, false)
abbrev fin2 {σ : Type} (B Bx : σ → Assn) (r : σ × Bool) : Assn := if r.2 then B r.1 else Bx r.1
/-- an iterator: it hands over xs, in order, till one answers 'no more'. -/
def SeqOk (P : Program) (Φ : Base) (gf : Nat) (lb : List Value) {ξ : Type} (enc : ξ → List Value) (xs : List ξ) (Pre : List Assn) {α : Type} (q : α → Prop) (Post : α → List Assn) : Prop :=
  ∀ (l : Nat) (σ : Type) (B Bx : σ → Assn) (nxt : σ → ξ → σ) (go : σ → ξ → Bool) (Iv : σ → List ξ → Prop), (∀ s x rem, Iv s (x :: rem) → Yd P Φ l (enc x) (B s) (go s x) (if go s x then B (nxt s x) else Bx (nxt s x))) → (∀ s x rem, Iv s (x :: rem) → go s x = true → Iv (nxt s x) rem) → ∀ s0, Iv s0 xs →
    Sl.Fn P Φ gf (yl l :: lb) (B s0 :: Pre) q (fun _ => .tuple #[]) (fun z => fin2 B Bx (rounds nxt go s0 xs) :: Post z)
def jcode : Exit → Code
  | .exit id => .exit id
  | _ => .ret
/-- how a round ends. -/
def RndQ (Φ : Base) (jx : Exit) (b : Bool) (G Gx : List Assn) : Exit → Act → World → Prop
  | .normal, _, w => b = true ∧ Holds Φ G w
  | .ret, _, w => jx = .ret ∧ b = false ∧ Holds Φ Gx w
  | .exit id, _, w => jx = .exit id ∧ b = false ∧ Holds Φ Gx w
  | _, _, _ => False
section
variable {X : Cx} {e : Env} {L : List Assn} {Q : Exit → Act → World → Prop}
theorem j_rnd {jx : Exit} {G Gx : List Assn} (hE : Ent L G) : J X e L (RndQ X.Φ jx true G Gx .normal) := fun _ _ _ hh => ⟨rfl, hh.ent hE⟩
theorem j_rnd_ret {G Gx : List Assn} (hE : Ent L Gx) : J X e L (RndQ X.Φ .ret false G Gx .ret) := fun _ _ _ hh => ⟨rfl, rfl, hh.ent hE⟩
theorem j_rnd_exit {id : Nat} {G Gx : List Assn} (hE : Ent L Gx) : J X e L (RndQ X.Φ (.exit id) false G Gx (.exit id)) := fun _ _ _ hh => ⟨rfl, rfl, hh.ent hE⟩
/-- the environment of a round. -/
def penv : List Nat → List Value → Env → Env
  | p :: ps, v :: vs, e => penv ps vs ((p, v) :: e)
  | _, _, e => e
theorem penv_mt {n : Nat} : ∀ (ps : List Nat) (vs : List Value) (e : Env) (tmps : Array Value), (∀ p ∈ ps, Nat.blt p n = true) → Mt [] n e { tmps := tmps, defers := [] } →
    Mt [] n (penv ps vs e) { tmps := (ps.zip vs).foldl (fun t (p : Nat × Value) => t.setIfInBounds p.1 p.2) tmps, defers := [] }
  | [], _, e, tmps, _, m => by simpa [penv] using m
  | _ :: _, [], e, tmps, _, m => by simpa [penv] using m
  | p :: ps, v :: vs, e, tmps, hp, m => by
    have h1 := Mt.put (v := v) m (hp p (by simp))
    have := penv_mt ps vs ((p, v) :: e) (tmps.setIfInBounds p v) (fun p' h => hp p' (by simp [h])) h1
    simpa [penv] using this
theorem t_range {σ ξ ζ : Type} {g : Operand} {gf : Nat} {lb : List Value} {ps : List Nat} {asg body : Code} {enc : ξ → List Value} {xs : List ξ} {Pre R : List Assn} {α : Type} {q : α → Prop} {Post : α → List Assn} [tf : TFn X.P gf]
    (hg : ev e g = some (.func (.func gf) #[] lb.toArray)) (hseq : SeqOk X.P X.Φ gf lb enc xs Pre q Post)
    (B Bx : σ → Assn) (nxt : σ → ξ → σ) (go : σ → ξ → Bool) (Iv : σ → List ξ → Prop) (hIv : ∀ s x rem, Iv s (x :: rem) → go s x = true → Iv (nxt s x) rem) (jx : Exit) (hjx : jx = .ret ∨ ∃ id, jx = .exit id) (s0 : σ) (hI0 : Iv s0 xs) (E : σ → ξ → ζ → Env) (M : σ → ξ → ζ → List Assn)
    (hL : Ent L (B s0 :: (Pre ++ R)))
    (hps : ∀ x, (enc x).length = ps.length) (hpn : ∀ p ∈ ps, Nat.blt p X.n = true) (hra : noR asg = true) (hrb : noR body = true)
    (hasg : ∀ s x rem, Iv s (x :: rem) → ∀ F, J ⟨X.P, X.Φ, X.n, []⟩ (penv ps (enc x) e) (B s :: F) (cw X.P asg (Meet ⟨X.P, X.Φ, X.n, []⟩ (E s x) (fun z => M s x z ++ F) (fun _ => True) (fun _ _ _ => False))))
    (hbody : ∀ s x rem, Iv s (x :: rem) → ∀ z F, J ⟨X.P, X.Φ, X.n, []⟩ (E s x z) (M s x z ++ F) (cw X.P body (RndQ X.Φ jx (go s x) (B (nxt s x) :: F) (Bx (nxt s x) :: F))))
    (hend : ∀ D z, q z → (rounds nxt go s0 xs).2 = true → J ⟨X.P, X.Φ, X.n, { target := .collected D, args := #[] } :: X.ds⟩ e (pt D (.deferred (some [])) :: B (rounds nxt go s0 xs).1 :: (Post z ++ R)) (Q .normal))
    (hstop : ∀ D z, q z → (rounds nxt go s0 xs).2 = false → J ⟨X.P, X.Φ, X.n, { target := .collected D, args := #[] } :: X.ds⟩ e (pt D (.deferred (some [])) :: Bx (rounds nxt go s0 xs).1 :: (Post z ++ R)) (Q jx)) :
    J X e L (cw X.P (Code.rangeFunc g ps.toArray asg body) Q) := fun a w m hh ro hr => by
  obtain rfl := hr.resolve_right (by simp [noR])
  refine wpIn_rangeFunc ?_
  intro fn hfn
  obtain ⟨rec, hrec⟩ : ∃ rec : LoopState → Option Code → Loop, rec = fun st pe => { state := st, pending := pe, fn, tmps := a.tmps, params := ps.toArray, assign := asg, body, defers := w.heap.size } := ⟨_, rfl⟩
  obtain ⟨W1, hW1⟩ : ∃ W1, (w.alloc (.deferred (some []))).alloc (.loop (rec .ready none)) = W1 := ⟨_, rfl⟩
  have hh1 : Holds X.Φ (pt (w.heap.size + 1) (.loop (rec .ready none)) :: pt w.heap.size (.deferred (some [])) :: L) W1 := by
    have h1 := hh.alloc (w' := w.alloc (.deferred (some []))) (.deferred (some [])) rfl rfl rfl rfl
    have h2 := h1.alloc (w' := W1) (.loop (rec .ready none)) (by rw [← hW1]; rfl) (by rw [← hW1]; rfl) (by rw [← hW1]; rfl) (by rw [← hW1]; rfl)
    rwa [World.size_alloc] at h2
  have hev : a.eval g = .func (.func gf) #[] lb.toArray := m.ev hg
  refine ⟨w.heap.size + 1, [{ target := .collected w.heap.size, args := #[] }], W1, { target := .fn (.func gf) lb.toArray, args := #[.func (.yield (w.heap.size + 1)) #[] #[]] }, W1, gf,
    #[.func (.yield (w.heap.size + 1)) #[] #[]] ++ lb.toArray, W1, ?_, ?_, fun f' _ => trivial, ?_, fun h => (by cases h), ?_⟩
  · rw [← hW1, hrec]; exact run_enterLoop_outer _ _ _ _ _
  · simp only [resolve, hev]
    simp [go_sem]
  · simp [invoke, go_sem, tf.run]
  · generalize hl : w.heap.size + 1 = l at hh1 ⊢
    generalize hD : w.heap.size = D at hh1 ⊢
    have hargs : #[.func (.yield l) #[] #[]] ++ lb.toArray = (yl l :: lb).toArray := by simp
    rw [hargs]
    have hY : ∀ s x rem, Iv s (x :: rem) → Yd X.P X.Φ l (enc x) (all [pt l (.loop (rec .ready none)), B s]) (go s x) (if go s x then all [pt l (.loop (rec .ready none)), B (nxt s x)] else all [pt l (.loop (rec .done (some (jcode jx)))), Bx (nxt s x)]) := by
      intro s x rem hx F w1 hw1
      have hw1 : Holds X.Φ (pt l (.loop (rec .ready none)) :: B s :: F) w1 := hw1.ent (Ent.all _ _)
      have hlw : w1.heap[l]? = some (.loop (rec .ready none)) := hw1.rd
      have hy := run_yield (P := X.P) (args := (enc x).toArray) hlw (by rw [hrec]; simpa using hps x)
      rw [hy]
      have hw1' : Holds X.Φ (B s :: pt l (.loop (rec .ready none)) :: F) w1 := hw1.ent (Ent.swap _ _ _)
      have hmt : Mt [] X.n (penv ps (enc x) e) { tmps := (((rec .ready none).params.zip (enc x).toArray).foldl (fun tmps (t, a) => tmps.setIfInBounds t a) (rec .ready none).tmps), defers := [] } := by
        have := penv_mt ps (enc x) e a.tmps hpn ⟨m.size, rfl, m.val⟩
        rw [hrec]
        simpa [Array.zip, List.zip, ← Array.foldl_toList] using this
      have hrt : RoundIn Fence.wide 0 X.P l fn (((rec .ready none).params.zip (enc x).toArray).foldl (fun tmps (t, a) => tmps.setIfInBounds t a) (rec .ready none).tmps) asg body w1
          (fun e' w' => ∃ v, e' = .returned v ∧ v = .bool (go s x) ∧ Holds X.Φ ((if go s x then all [pt l (.loop (rec .ready none)), B (nxt s x)] else all [pt l (.loop (rec .done (some (jcode jx)))), Bx (nxt s x)]) :: F) w') := by
        refine roundIn_of_wpIn trivial (wpIn_mono (hasg s x rem hx (pt l (.loop (rec .ready none)) :: F) _ w1 hmt hw1' (some l) (.inr hra)) ?_)
        intro x' a1 w2 hx'
        cases x' with
        | normal =>
          obtain ⟨z, _, hm1, hw2⟩ := hx'
          have hw2' := hw2.ent (Ent.mid _ _ _)
          have hl2 : w2.heap[l]? = some (.loop (rec .ready none)) := hw2'.rd
          refine ⟨_, run_beginRound hl2 (by rw [hrec]), ?_⟩
          have hlt : l < w2.heap.size := (Array.getElem?_eq_some_iff.1 hl2).1
          have hbz : ({ rec .ready none with state := .busy } : Loop) = rec .busy none := by rw [hrec]
          rw [hbz]
          have hw3 : Holds X.Φ (pt l (.loop (rec .busy none)) :: (M s x z ++ F)) (w2.putObj l (.loop (rec .busy none))) := hw2'.upd (World.putObj_heap_same hlt) (fun c hc => World.putObj_heap_other hc) rfl rfl rfl
          refine wpIn_mono (hbody s x rem hx z (pt l (.loop (rec .busy none)) :: F) a1 _ hm1 (hw3.ent (Ent.unmid _ _ _)) (some l) (.inr hrb)) ?_
          intro x2 a2 w4 h4
          have fin : ∀ (jump : Option Code) (G : Assn), Holds X.Φ (G :: pt l (.loop (rec .busy none)) :: F) w4 → ∃ w5, (Instr.endRound l jump).run X.P w4 = .ok (.bool jump.isNone) w5 ∧ Holds X.Φ (all [pt l (.loop (rec (if jump.isNone then .ready else .done) jump)), G] :: F) w5 := fun jump G hG => by
            have h5 := hG.ent (Ent.swap _ _ _)
            have hl5 : w4.heap[l]? = some (.loop (rec .busy none)) := h5.rd
            have hlt5 : l < w4.heap.size := (Array.getElem?_eq_some_iff.1 hl5).1
            refine ⟨_, run_endRound jump hl5, ?_⟩
            have he : ({ rec .busy none with state := if jump.isNone then .ready else .done, pending := jump } : Loop) = rec (if jump.isNone then .ready else .done) jump := by rw [hrec]
            rw [he]
            exact (h5.upd (o' := .loop (rec (if jump.isNone then .ready else .done) jump)) (World.putObj_heap_same hlt5) (fun c hc => World.putObj_heap_other hc) rfl rfl rfl).ent (Ent.unall [pt l (.loop (rec (if jump.isNone then .ready else .done) jump)), G] F)
          cases x2 with
          | normal =>
            obtain ⟨hb, h4⟩ := h4
            obtain ⟨w5, h6, h7⟩ := fin none _ h4
            exact ⟨_, _, h6, _, rfl, by rw [hb]; rfl, by rw [hb]; exact h7⟩
          | ret =>
            obtain ⟨hj, hb, h4⟩ := h4
            obtain ⟨w5, h6, h7⟩ := fin (some .ret) _ h4
            exact ⟨_, _, h6, _, rfl, by rw [hb]; rfl, by rw [hb, hj]; exact h7⟩
          | exit id =>
            obtain ⟨hj, hb, h4⟩ := h4
            obtain ⟨w5, h6, h7⟩ := fin (some (.exit id)) _ h4
            exact ⟨_, _, h6, _, rfl, by rw [hb]; rfl, by rw [hb, hj]; exact h7⟩
          | goto => exact h4.elim
          | panic => exact h4.elim
          | outgrown => exact h4.elim
        | exit => exact hx'.elim
        | ret => exact hx'.elim
        | goto => exact hx'.elim
        | panic => exact hx'.elim
        | outgrown => exact hx'.elim
      have hfx : (rec .ready none).fn = fn ∧ (rec .ready none).assign = asg ∧ (rec .ready none).body = body := by rw [hrec]; exact ⟨rfl, rfl, rfl⟩
      rw [hfx.1, hfx.2.1, hfx.2.2]
      exact hrt
    have hW : Holds X.Φ ((all [pt l (.loop (rec .ready none)), B s0] :: Pre) ++ (pt D (.deferred (some [])) :: R)) W1 := by
      refine hh1.ent ((Ent.cons _ (Ent.cons _ hL)).trans ((Ent.cons _ (Ent.swap _ _ _)).trans ((Ent.cons _ (Ent.cons _ (Ent.unmid _ _ _))).trans ?_)))
      exact Ent.unall [pt l (.loop (rec .ready none)), B s0] _
    refine (fen_calls none (hseq l σ (fun s => all [pt l (.loop (rec .ready none)), B s]) (fun s => all [pt l (.loop (rec .done (some (jcode jx)))), Bx s]) nxt go Iv hY hIv s0 hI0 (pt D (.deferred (some [])) :: R) W1 hW)).mono ?_
    rintro _ w3 ⟨z, hq, rfl, hw3⟩
    have hmt2 : Mt ({ target := .collected D, args := #[] } :: X.ds) X.n e { a with defers := [{ target := .collected D, args := #[] }] ++ a.defers } := ⟨m.size, by simp [m.defers], m.val⟩
    have hout : ∀ (st : LoopState) (pe : Option Code) (G : Assn), st ≠ .busy → Holds X.Φ ((all [pt l (.loop (rec st pe)), G] :: Post z) ++ (pt D (.deferred (some [])) :: R)) w3 → ∃ w4, (Instr.endLoop l).run X.P w3 = .ok pe w4 ∧ Holds X.Φ (pt D (.deferred (some [])) :: G :: (Post z ++ R)) w4 := fun st pe G hst hG => by
      have h5 : Holds X.Φ (pt l (.loop (rec st pe)) :: G :: (Post z ++ pt D (.deferred (some [])) :: R)) w3 := hG.ent (Ent.all [pt l (.loop (rec st pe)), G] _)
      have hl5 : w3.heap[l]? = some (.loop (rec st pe)) := h5.rd
      have hlt5 : l < w3.heap.size := (Array.getElem?_eq_some_iff.1 hl5).1
      have h6 := run_endLoop (P := X.P) hl5 (by rw [hrec]; exact hst)
      refine ⟨_, by rw [hrec] at h6; exact h6, ?_⟩
      have h7 : Holds X.Φ (pt l (.loop { rec st pe with state := .exhausted }) :: G :: (Post z ++ pt D (.deferred (some [])) :: R)) (w3.putObj l (.loop { rec st pe with state := .exhausted })) := h5.upd (World.putObj_heap_same hlt5) (fun c hc => World.putObj_heap_other hc) rfl rfl rfl
      rw [hrec] at h7
      exact h7.ent ((Ent.drop _ _).trans ((Ent.cons _ (Ent.mid _ _ _)).trans (Ent.swap _ _ _)))
    cases hr2 : (rounds nxt go s0 xs).2 with
    | true =>
      rw [fin2, hr2, if_pos rfl] at hw3
      obtain ⟨w4, h4, h5⟩ := hout .ready none _ (by simp) hw3
      exact ⟨none, w4, h4, hend D z hq hr2 _ w4 hmt2 h5⟩
    | false =>
      rw [fin2, hr2, if_neg (by simp)] at hw3
      obtain ⟨w4, h4, h5⟩ := hout .done (some (jcode jx)) _ (by simp) hw3
      refine ⟨some (jcode jx), w4, h4, ?_⟩
      have := hstop D z hq hr2 _ w4 hmt2 h5
      rcases hjx with rfl | ⟨id, rfl⟩
      · exact wpIn_ret this
      · exact wpIn_exit this
/-- a call of yield. -/
theorem r_yield {A : List Assn} {S : List Nat} {ops : Array Oper} {k : Nat} {lo : List Oper} {K : Act → World → Prop} {d : Nat} {T : TypeId} {pos : String} {af : Array Edge} {l : Nat} {x : Operand} {os : List Operand} {ts : Array TypeId} {vs : List Value} {Pre Post : Assn} {b : Bool} {F : List Assn}
    (hx : ev e x = some (yl l)) (hy : Yd X.P X.Φ l vs Pre b Post) [sp : Split [Pre] L F] [st : Stay A (Post :: F)]
    (h : J X ((d, .bool b) :: e) (Post :: F) (sw X.P (Holds X.Φ A) S ops K (k + 1) lo)) (hvs : evL e os = some vs := by rfl) (hs : S.contains k = false := by rfl) (hd : Nat.blt d X.n = true := by rfl) :
    J X e L (sw X.P (Holds X.Φ A) S ops K k (⟨some d, .call { callee := .value x, args := os.toArray, argTypes := ts }, T, pos, af, none⟩ :: lo)) :=
  r_write (α := Unit) (q := fun _ => True) (V := fun _ => .bool b) (M := fun _ => Post :: F) rfl (by simp only [cls, hs]; cases x <;> rfl) (blt_some hd) (fun _ => st) (fun a w m hh => by
    have h1 : os.toArray.map a.eval = vs.toArray := by rw [← m.evL hvs]; simp
    have h2 := hy F w (hh.ent sp.ent)
    have h3 : (execOp a.eval (⟨some d, .call { callee := .value x, args := os.toArray, argTypes := ts }, T, pos, af, none⟩ : Oper)).run X.P w = (Instr.yield l vs.toArray).run X.P w := by
      simp only [execOp, resolve, m.ev hx, h1]
      simp [Deferred.ofValue, invoke, go_sem]
    rw [h3]
    exact upS_mono (fun v w' ⟨h4, h5⟩ => ⟨(), trivial, h4, h5⟩) h2) (fun _ _ => h)
/-- a loop in which ranges over functions lay their marks. -/
def AgainD (X : Cx) {σ : Type} (ds : σ → List Deferred) (E : σ → Env) (M : σ → List Assn) (I : σ → Prop) (μ : σ → Nat) (s : σ) (a : Act) (w : World) : Prop :=
  ∃ s', (I s' ∧ Mt (ds s') X.n (E s') a ∧ Holds X.Φ (M s') w) ∧ μ s' < μ s
theorem t_loopD {σ : Type} {c : Code} (ds : σ → List Deferred) (E : σ → Env) (M : σ → List Assn) (I : σ → Prop) (μ : σ → Nat) (s : σ) (hs : I s) (hds : X.ds = ds s)
    (he : Sub (E s) e) (hm : Ent L (M s))
    (round : ∀ s, I s → J ⟨X.P, X.Φ, X.n, ds s⟩ (E s) (M s) (cw X.P c (Exit.then (AgainD X ds E M I μ s) Q))) : J X e L (cw X.P (Code.loop c) Q) := fun a w m hh ro hr =>
  wp_loop_by (fun s a w => I s ∧ Mt (ds s) X.n (E s) a ∧ Holds X.Φ (M s) w) μ ro (fun s a w ⟨h1, h2, h3⟩ => round s h1 a w h2 h3 ro hr) s a w
    ⟨hs, ⟨m.size, m.defers.trans hds, fun t v ht => m.val t v (he.lk t v ht)⟩, hh.ent hm⟩
theorem j_againD {σ : Type} {X0 : Cx} {ds : σ → List Deferred} {E : σ → Env} {M : σ → List Assn} {I : σ → Prop} {μ : σ → Nat} {s : σ} (s' : σ) (hs : I s') (hlt : μ s' < μ s) (hds : X.ds = ds s')
    (he : Sub (E s') e) (hm : Ent L (M s')) (hn : X.n = X0.n := by rfl) (hΦ : X.Φ = X0.Φ := by rfl) : J X e L (AgainD X0 ds E M I μ s) := fun _ _ m hh =>
  ⟨s', ⟨hs, ⟨m.size.trans hn, m.defers.trans hds, fun t v ht => m.val t v (he.lk t v ht)⟩, by rw [← hΦ]; exact hh.ent hm⟩, hlt⟩
/- a function that holds ranges over functions -/
def marks (Ds : List Nat) : List Deferred := Ds.map fun D => { target := .collected D, args := #[] }
def mkA (Ds : List Nat) : Assn := all (Ds.map fun D => pt D (.deferred (some [])))
theorem mkA_nil (L : List Assn) : Ent L (mkA [] :: L) := Ent.unall [] L
theorem mkA_cons (D : Nat) (Ds : List Nat) (L : List Assn) : Ent (pt D (.deferred (some [])) :: mkA Ds :: L) (mkA (D :: Ds) :: L) := (Ent.cons _ (Ent.all _ L)).trans (Ent.unall (pt D (.deferred (some [])) :: Ds.map fun D => pt D (.deferred (some []))) L)
theorem foM {P : Program} {Φ : Base} {f : FuncId} {fn : Func} {c : Code} {n : Nat} {args : List Value} {Pre : List Assn} {α : Type} {q : α → Prop} {V : α → Value} {Post : α → List Assn} {E : Env} {C : List Assn → List Assn}
    [tb : TBody P f fn n] [ae : AEnv args E] [ap : ∀ F, AppL Pre F (C F)] (h : ∀ F, J ⟨P, Φ, n, []⟩ E (C F) (cw P c (bodyPostM Fence.wide 0 P fn (PostR Φ q V Post F))))
    (hb : fn.body = some c := by rfl) (hl : Nat.ble args.length n = true := by rfl) : Sl.Fn P Φ f args Pre q V Post := fun F w hh =>
  callsIn_wide.1 (callsIn_of_wp_marks (n := 0) tb.hf hb trivial (h F _ w ⟨by have := Nat.le_of_ble_eq_true hl; rw [← tb.hn] at this ⊢; simp; omega, rfl, fun t v ht => by
    rw [← ae.eq] at ht
    obtain ⟨_, h2⟩ := argEnv_spec args 0 t v ht
    have hlt := (List.getElem?_eq_some_iff.1 h2).1
    simp only [Nat.sub_zero] at h2 hlt
    rw [Array.getElem?_append_left (by simpa using hlt)]
    simpa using h2⟩ (by rw [← (ap F).eq]; exact hh) none (.inl rfl)))
theorem leaveM {X : Cx} {fn : Func} {tmps : Array Value} {R : Ending → World → Prop} {L : List Assn} (h : ∀ w, Holds X.Φ L w → ∃ v, (results fn tmps).run X.P w = .ok v w ∧ R (.returned v) w) : ∀ (Ds : List Nat) (w : World), Holds X.Φ (mkA Ds :: L) w → LeavesInM Fence.wide 0 X.P fn tmps R (marks Ds) .returning w
  | [], w, hh => h w (hh.ent (Ent.drop _ _))
  | D :: Ds, w, hh => by
    have h1 : Holds X.Φ (pt D (.deferred (some [])) :: ((Ds.map fun D => pt D (.deferred (some []))) ++ L)) w := hh.ent (Ent.all (pt D (.deferred (some [])) :: Ds.map fun D => pt D (.deferred (some []))) L)
    have h2 : w.heap[D]? = some (.deferred (some [])) := h1.rd
    refine ⟨by simp, .inl ⟨D, _, rfl, run_takeDeferred h2, leaveM h Ds _ ?_⟩⟩
    have h3 : Holds X.Φ (pt D (.deferred none) :: ((Ds.map fun D => pt D (.deferred (some []))) ++ L)) (w.putObj D (.deferred none)) := h1.upd (World.putObj_heap_same (Array.getElem?_eq_some_iff.1 h2).1) (fun c hc => World.putObj_heap_other hc) rfl rfl rfl
    exact h3.ent ((Ent.drop _ _).trans (Ent.unall _ L))
theorem j_finM {X : Cx} {e : Env} {L F : List Assn} {fn : Func} {rs : List ResultVar} {vs : List Value} {α : Type} {q : α → Prop} {V : α → Value} {Post : α → List Assn} (Ds : List Nat) (hds : X.ds = marks Ds) (hr : fn.results = rs.toArray) (h : RvsOK X e L rs vs)
    (x : α) (hV : V x = pack vs) (hq : q x) [ft : Fits (Post x) F L] :
    J X e (mkA Ds :: L) (bodyPostM Fence.wide 0 X.P fn (PostR X.Φ q V Post F) .ret) := fun a w m hh => by
  show LeavesInM Fence.wide 0 X.P fn a.tmps _ a.defers .returning w
  rw [m.defers.trans hds]
  exact leaveM (fun w hw => ⟨pack vs, results_ok hr h m hw, x, hq, by rw [hV], hw.ent ft.ent⟩) Ds w hh
end
end Go.Proofs.YtcnpkmdooekmgaaGreatDoor
namespace Go.Proofs.YtcnpkmdooekmgaaGreatDoor
open Go Sl
abbrev encP (x : Nat × List Nat) : List Value := [.agg (w64 x.1 :: x.2.map u8).toArray]
abbrev filt (k : Nat) (kv : KV) : KV := kv.filter fun x => decide (k ≤ x.1)
theorem rounds_app {σ ξ : Type} (nxt : σ → ξ → σ) (go : σ → ξ → Bool) : ∀ (xs ys : List ξ) (s : σ), rounds nxt go s (xs ++ ys) = if (rounds nxt go s xs).2 then rounds nxt go (rounds nxt go s xs).1 ys else rounds nxt go s xs
  | [], ys, s => by simp [rounds]
  | x :: xs, ys, s => by
    simp only [List.cons_append, rounds]
    split
    · exact rounds_app nxt go xs ys _
    · simp
theorem rounds_inv {σ ξ : Type} {nxt : σ → ξ → σ} {go : σ → ξ → Bool} {Iv : σ → List ξ → Prop} (hst : ∀ s x rem, Iv s (x :: rem) → go s x = true → Iv (nxt s x) rem) {ys : List ξ} : ∀ {xs : List ξ} {s : σ}, Iv s (xs ++ ys) → (rounds nxt go s xs).2 = true → Iv (rounds nxt go s xs).1 ys
  | [], s, h, _ => h
  | x :: xs, s, h, hr => by
    simp only [rounds] at hr ⊢
    split at hr
    · rename_i hg
      rw [if_pos hg]
      exact rounds_inv hst (hst s x _ h hg) hr
    · cases hr
theorem filt_none {k : Nat} {kv : KV} (h : ∀ x ∈ kv, x.1 < k) : filt k kv = [] := List.filter_eq_nil_iff.2 fun x hx => by have := h x hx; simp; omega
theorem filt_app (k : Nat) (a b : KV) : filt k (a ++ b) = filt k a ++ filt k b := List.filter_append ..
/-- in a leaf: from where on. -/
theorem filt_drop {k : Nat} : ∀ {kv : KV}, Srt kv → filt k kv = kv.drop (below (kv.map (·.1)) k)
  | [], _ => rfl
  | a :: l, h => by
    obtain ⟨h1, h2⟩ := List.pairwise_cons.1 h
    by_cases hk : a.1 < k
    · have hb : below ((a :: l).map (·.1)) k = below (l.map (·.1)) k + 1 := by simp [below, hk]
      rw [hb, List.drop_succ_cons, ← filt_drop h2]
      simp [filt, show ¬ k ≤ a.1 by omega]
    · have hb : below ((a :: l).map (·.1)) k = 0 := by
        rw [below, List.countP_eq_zero]
        intro x hx
        rcases List.mem_cons.1 hx with rfl | hx
        · simpa using hk
        · obtain ⟨y, hy, rfl⟩ := List.mem_map.1 hx
          have := h1 y hy
          simp; omega
      rw [hb, List.drop_zero]
      refine List.filter_eq_self.2 fun x hx => ?_
      rcases List.mem_cons.1 hx with rfl | hx
      · simpa using hk
      · have := h1 x hx
        simp; omega
abbrev wkPre (bt br bf bk tp pf : Nat) (r : Rf) (k e : Nat) : List Assn := [pt bt (.cells [ptr tp].toArray T.p_mtree_Tree (0, 0)), pt br (.cells (rcells r).toArray T.api_Ref (0, 0)), pt bf (.cells [ptr pf].toArray T.p_api_Errno (0, 0)), pt bk (.cells [w64 k].toArray T.uint64 (0, 0)), pt pf (.cells [i64 e].toArray T.api_Errno (0, 0))]
instance : TAgg Tryz.prog 256 false := ⟨Go.Proofs.Tryz.isAgg256⟩
attribute [local irreducible] cw sw J Exit.then Exit.inBlock Exit.noGoto bodyPost swG swL permL
theorem walkf_c (tp pf k : Nat) (r : Rf) (Φ : Base) : Sl.Fn Tryz.prog Φ F.mtree_Tree_walk [ptr tp, .agg (rcells r).toArray, w64 k, ptr pf] [] (fun _ : Nat × Nat × Nat × Nat => True) (fun z => .func (.func 126) #[] [ptr z.1, ptr z.2.1, ptr z.2.2.1, ptr z.2.2.2].toArray)
    (fun z => [pt z.1 (.cells [ptr tp].toArray T.p_mtree_Tree (0, 0)), pt z.2.1 (.cells (rcells r).toArray T.api_Ref (0, 0)), pt z.2.2.1 (.cells [ptr pf].toArray T.p_api_Errno (0, 0)), pt z.2.2.2 (.cells [w64 k].toArray T.uint64 (0, 0))]) := by
  refine fo fun F => ?_
  repeat refine s1 ?_
  refine r_box (cs := [ptr tp]) rfl rfl rfl rfl (fun b4 => ?_)
  refine r_box (cs := rcells r) rfl rfl rfl rfl (fun b5 => ?_)
  refine r_box (cs := [w64 k]) rfl rfl rfl rfl (fun b6 => ?_)
  refine r_box (cs := [ptr pf]) rfl rfl rfl rfl (fun b7 => ?_)
  repeat refine s1 ?_
  refine mkf (vs := [ptr b4, ptr b5, ptr b7, ptr b6]) rfl ?_
  repeat refine s1 ?_
  exact f1 (b4, b5, b7, b6)
set_option maxHeartbeats 2000000 in
theorem walk_s (tp ps pf k : Nat) (o : Option Rf) (S : St) (D : Dk) (hS : S.wf) (ha : Agr S D) (Φ : Base) : ∀ (h N : Nat) (r : Rf) (lo : Nat) (kv : KV) (U : List Nat) (bt br bf bk : Nat), Sh S.g lo h r kv U → Srt kv → N + U.length ≤ 700000000 →
    SeqOk Tryz.prog Φ F.mtree_Tree_walk_c1 [ptr bt, ptr br, ptr bf, ptr bk] encP (if D.down then [] else filt k kv) (wkPre bt br bf bk tp pf r k 0 ++ [tree tp ps o, store ps S, disk S.pd D, hlog S.pl N]) (fun _ : Unit => True) (fun _ => wkPre bt br bf bk tp pf r k (dnE D) ++ [tree tp ps o, store ps S, disk S.pd D, hlog S.pl (N + U.length)]) := by
  intro h
  induction h using Nat.strongRecOn with
  | _ h ih =>
  intro N r lo kv U bt br bf bk hsh hs hN
  obtain ⟨hr, m, V, hn, hmr, hlo, hsec, hsum, hK, rfl⟩ := hsh
  have hmw := nsh_wt hn
  have hkvok := nsh_ok hn
  rw [List.length_cons] at hN
  intro l σ B Bx nxt go Iv hy hst s0 hI0
  refine foM fun F => ?_
  dsimp only [List.cons_append, List.nil_append]
  repeat refine s1 ?_
  refine r_box (cs := [yl l]) rfl rfl rfl rfl (fun t5 => ?_)
  repeat refine s1 ?_
  refine t_meet (σ := NR × Nat) (fun z => [(6, ptr z.2), (7, i64 (dnE D)), (5, ptr t5), (1, ptr bt), (2, ptr br), (3, ptr bf), (4, ptr bk)])
    (fun z => pt z.2 (.cells (nbx (dnN D m) z.1).toArray T.node_Node (0, 0)) :: node (dnN D m) z.1 :: pt t5 (.cells [yl l].toArray T.func_256 (0, 0)) :: B s0 :: (wkPre bt br bf bk tp pf r k 0 ++ tree tp ps o :: store ps S :: disk S.pd D :: hlog S.pl (N + 1) :: F)) (fun _ => True) ?_ ?_
  · refine t_draw2 [pt bt (.cells [ptr tp].toArray T.p_mtree_Tree (0, 0)), pt br (.cells (rcells r).toArray T.api_Ref (0, 0)), tree tp ps o] [0, 3, 4] 5 9 [9, 0, 1, 2, 3, 4, 5, 6, 7, 8, 10, 11] mixed (by decide +kernel) ?_ ?_
    · repeat refine s1 ?_
      refine s_loadW (vs := rcells r) rfl (by simp [hr.sum.1]) rfl rfl ?_
      repeat refine s1 ?_
      refine cx (tload_c ps N S D r m hr hS (by rw [show S.K r.sec = S.g.K r.sec from rfl, hK]; simp) hmr hmw hsec hsum ha (by omega) Φ) (fun y _ => ?_)
      generalize hmm : dnN D m = m2
      repeat refine s1 ?_
      refine al (cs := nbx nd0 nr0) (fun t9 => ?_)
      repeat refine s1 ?_
      refine r_storeW (vs := nbx m2 y) rfl rfl (by rfl) (by rfl) (by simp [Value.oneCell']) rfl ?_
      repeat refine s1 ?_
      rw [← hmm]
      exact j_meet (y, t9) trivial ⟨rfl, rfl, rfl, rfl, rfl, rfl, rfl, trivial⟩ leD
    · repeat refine s1 ?_
      refine al (cs := nbx nd0 nr0) (fun t9 => ?_)
      repeat refine s1 ?_
      refine s_loadW (vs := rcells r) rfl (by simp [hr.sum.1]) rfl rfl ?_
      repeat refine s1 ?_
      refine cx (tload_c ps N S D r m hr hS (by rw [show S.K r.sec = S.g.K r.sec from rfl, hK]; simp) hmr hmw hsec hsum ha (by omega) Φ) (fun y _ => ?_)
      generalize hmm : dnN D m = m2
      repeat refine s1 ?_
      refine r_storeW (vs := nbx m2 y) rfl rfl (by rfl) (by rfl) (by simp [Value.oneCell']) rfl ?_
      repeat refine s1 ?_
      rw [← hmm]
      exact j_meet (y, t9) trivial ⟨rfl, rfl, rfl, rfl, rfl, rfl, rfl, trivial⟩ leD
  rintro ⟨y, t6⟩ _
  dsimp only [List.cons_append, List.nil_append]
  rcases hd : D.down with _ | _
  · unfold dnN dnE
    simp only [hd, Bool.false_eq_true, if_false]
    simp only [dnE, hd, Bool.false_eq_true, if_false] at hI0 ih
    repeat refine s2 ?_
    cases h with
    | zero =>
      obtain ⟨rfl, rfl, hok⟩ := hn
      have hkl : kv.length ≤ 9 := by have := (hmr.leaf rfl).2.1; simpa [leafN] using this
      rw [show (leafN kv).leaf = true from rfl]
      have hkeys : (leafN kv).keys = kv.map (·.1) := rfl
      repeat refine s1 ?_
      refine cl (find_c (leafN kv) y k hmr.rise (by simp [leafN]; omega) Φ) ?_
      rw [hkeys]
      have hfl := filt_drop (k := k) hs
      have hble : below (kv.map (·.1)) k ≤ kv.length := by have := List.countP_le_length (p := fun x => decide (x < k)) (l := kv.map (·.1)); simpa [below] using this
      generalize below (kv.map (·.1)) k = b0 at hfl hble ⊢
      have hpos : 1 ≤ kv.length := by have := hmr.pos; simpa [leafN] using this
      have hln : (leafN kv).vals.length = kv.length := by simp [leafN]
      refine jh [node (leafN kv) y] (j_ent (Ent.unnode _) ?_)
      refine jh [keysA (leafN kv) y] (j_leni (fun _ _ hka => ?_))
      obtain ⟨kb, ko, hkb⟩ := hka (by simp [leafN]; omega)
      refine jh [valsA (leafN kv) y] (j_leni (fun _ _ hva => ?_))
      obtain ⟨vb, vo, hvb⟩ := hva (by simp [leafN]; omega)
      obtain ⟨mka, mkc, mva, mvc, mra, mrc⟩ := y
      dsimp only at hkb hvb
      subst hkb
      subst hvb
      repeat refine s1 ?_
      refine t_loop (σ := Nat × σ) (fun z => [(8, i64 z.1), (6, ptr t6), (5, ptr t5), (1, ptr bt), (2, ptr br), (3, ptr bf), (4, ptr bk)])
        (fun z => isl (some ⟨kb, ko, none⟩) (leafN kv).keys.length mkc T.uint64 1 ((leafN kv).keys.map w64) :: isl (some ⟨vb, vo, none⟩) (leafN kv).vals.length mvc T.a44_uint8 44 ((leafN kv).vals.flatMap fun v => v.map u8) ::
          pt t6 (.cells [.bool (leafN kv).leaf, .slice (some ⟨kb, ko, none⟩) (leafN kv).keys.length mkc, .slice (some ⟨vb, vo, none⟩) (leafN kv).vals.length mvc, .slice mra (leafN kv).kids.length mrc].toArray T.node_Node (0, 0)) :: pt t5 (.cells [yl l].toArray T.func_256 (0, 0)) :: B z.2 :: (wkPre bt br bf bk tp pf r k 0 ++ tree tp ps o :: store ps S :: disk S.pd D :: hlog S.pl (N + 1) :: F))
        (fun z => b0 ≤ z.1 ∧ z.1 ≤ kv.length ∧ rounds nxt go s0 ((kv.take z.1).drop b0) = (z.2, true) ∧ Iv z.2 (kv.drop z.1)) (fun z => kv.length - z.1) (b0, s0) ⟨Nat.le_refl _, hble, by show rounds nxt go s0 ((kv.take b0).drop b0) = (s0, true); rw [show (kv.take b0).drop b0 = [] from List.drop_eq_nil_of_le (List.length_take_le _ _)]; rfl, by rw [hfl] at hI0; exact hI0⟩ ⟨rfl, rfl, rfl, rfl, rfl, rfl, rfl, trivial⟩ leD ?_
      rintro ⟨i, s⟩ ⟨h1, h2, h3, h4⟩
      dsimp only [List.cons_append, List.nil_append] at h1 h2 h3 h4 ⊢
      repeat refine s1 ?_
      refine r_iop rfl rfl rfl rfl ?_
      repeat refine s1 ?_
      refine t_condSB rfl (fun hq => ?_) (fun hq => ?_)
      · have hi : i < kv.length := by have := of_decide_eq_true hq; simp [leafN] at this; omega
        have hil : i < (leafN kv).vals.length := by rw [hln]; exact hi
        have hik : i < (leafN kv).keys.length := by simp [leafN]; exact hi
        rcases hkvi : kv[i] with ⟨key, u⟩
        have hku : (leafN kv).keys[i]? = some key := by simp [leafN, hkvi, hi]
        have hu : (leafN kv).vals[i]? = some u := by simp [leafN, hkvi, hi]
        have hul : u.length = 44 := (hmw.vals u (List.mem_of_getElem? hu)).1
        have hxs : ∀ (j : Nat) (v : Value), (u.map u8)[j]? = some v → ((leafN kv).vals.flatMap fun v => v.map u8)[i * 44 + j]? = some v := fun j v hv => by
          have hj := (List.getElem?_eq_some_iff.1 hv).1
          rw [flat_in (f := fun v : List Nat => v.map u8) (c := 44) (fun z hz => by simpa using (hmw.vals z hz).1) hu (by simpa [hul] using hj)]
          exact hv
        have htk : (kv.take (i + 1)).drop b0 = (kv.take i).drop b0 ++ [(key, u)] := by
          rw [List.take_add_one, List.getElem?_eq_getElem hi, hkvi, Option.toList_some, List.drop_append_of_le_length (by simp; omega)]
        have hdi : kv.drop i = (key, u) :: kv.drop (i + 1) := by rw [List.drop_eq_getElem_cons hi, hkvi]
        rw [hdi] at h4
        have hyx := hy s (key, u) _ h4
        have hro : rounds nxt go s0 ((kv.take (i + 1)).drop b0) = (nxt s (key, u), go s (key, u)) := by
          rw [htk, rounds_app, h3, if_pos rfl]
          simp only [rounds]
          split <;> simp_all
        repeat refine s1 ?_
        refine ix rfl rfl hik ?_
        refine r_loadI (n := (leafN kv).keys.length) (cap := mkc) (E := T.uint64) (s := 1) (xs := (leafN kv).keys.map w64) (off := ko) rfl (j := i) (v := w64 key) (by omega) (by rw [List.getElem?_map, hku]; rfl) rfl rfl ?_
        repeat refine s1 ?_
        refine ix rfl rfl hil ?_
        refine r_loadIA (off := vo) (n := (leafN kv).vals.length) (cap := mvc) (E := T.a44_uint8) (s := 44) (xs := (leafN kv).vals.flatMap fun v => v.map u8) (vs := u.map u8) rfl (j := i * 44) (by omega) (by simp [hul]) hxs rfl rfl ?_
        refine r_build (cells := w64 key :: u.map u8) rfl (by simp [fillL, hul, Value.cells]) rfl ?_
        refine r_yield rfl hyx ?_
        rcases hgo : go s (key, u) with _ | _
        · simp only [Bool.false_eq_true, if_false]
          repeat refine s1 ?_
          have hf : fin2 B Bx (rounds nxt go s0 (filt k kv)) = Bx (nxt s (key, u)) := by
            rw [hfl, ← List.take_append_drop (i + 1) kv, List.drop_append_of_le_length (by simp; omega), rounds_app, hro, hgo]
            simp
          rw [hf]
          refine jh [hlog S.pl (N + 1)] (j_ent (hlogUp (N' := N + (r.sec :: ([] : List Nat)).length) (by simp) _) ?_)
          refine j_ent (mkA_nil _) ?_
          exact j_finM (rs := []) [] rfl rfl .nil () rfl trivial
        · simp only [if_true]
          repeat refine s1 ?_
          rw [hgo] at hro
          exact j_again (i + 1, nxt s (key, u)) ⟨by omega, by omega, hro, hst s (key, u) _ h4 hgo⟩ (by omega) ⟨rfl, rfl, rfl, rfl, rfl, rfl, rfl, trivial⟩ leD
      · have hi : i = kv.length := by have := of_decide_eq_false hq; simp [leafN] at this; omega
        subst hi
        rw [List.take_length, ← hfl] at h3
        repeat refine s1 ?_
        have hf : fin2 B Bx (rounds nxt go s0 (filt k kv)) = B s := by rw [h3]; simp
        rw [hf]
        refine jh [hlog S.pl (N + 1)] (j_ent (hlogUp (N' := N + (r.sec :: ([] : List Nat)).length) (by simp) _) ?_)
        refine j_ent (mkA_nil _) ?_
        exact j_finM (rs := []) [] rfl rfl .nil () rfl trivial
    | succ h =>
      have hlf : m.leaf = false := nsh_leaf hn
      have hwh : m.keys.length ≤ 11 := hmr.most
      obtain ⟨cs, hmi, hkv, hV, hcs⟩ := nsh_succ.1 hn
      have hrise := hmr.rise
      have hrl : m.kids.length = cs.length := by rw [hmi]; simp [inner]
      have hpos : 2 ≤ cs.length := by have := (hmr.inner hlf).1; have : m.keys.length = cs.length := (by rw [hmi]; simp [inner]); omega
      obtain ⟨A, c, C, hcut, hAl, hc1, hc2⟩ := way_cut (k := k) (cs := cs) (by intro e; rw [e] at hpos; simp at hpos) (by have := hrise; rw [hmi] at this; exact this)
      have hwk : way m.keys k = A.length := by rw [hAl, hmi]; rfl
      have hcl11 : cs.length ≤ 11 := by have : m.keys.length = cs.length := (by rw [hmi]; simp [inner]); omega
      have hsrt' := hs
      rw [hkv, hcut] at hsrt'
      obtain ⟨hsA, hsB⟩ := way_sides (k := k) hsrt' (fun d hd => (hcs d (by rw [hcut]; exact hd)).1) hc1 hc2
      rw [hlf]
      repeat refine s1 ?_
      refine cl (way_c m y k hrise (by omega) Φ) ?_
      rw [hwk]
      refine jh [node m y] (j_ent (Ent.unnode _) ?_)
      refine jh [kidsA m y] (j_leni (fun _ _ hka => ?_))
      obtain ⟨kb, ko, hkb⟩ := hka (by omega)
      obtain ⟨mka, mkc, mva, mvc, mra, mrc⟩ := y
      dsimp only at hkb
      subst hkb
      repeat refine s1 ?_
      refine jh [hlog S.pl (N + 1)] (j_ent (hlogUp (N' := N + 1 + ((cs.take A.length).flatMap (·.U)).length) (by omega) _) ?_)
      refine j_ent (mkA_nil _) ?_
      refine t_loopD (σ := Nat × σ × List Nat) (fun z => marks z.2.2) (fun z => [(10, i64 z.1), (6, ptr t6), (5, ptr t5), (1, ptr bt), (2, ptr br), (3, ptr bf), (4, ptr bk)])
        (fun z => mkA z.2.2 :: isl (some ⟨kb, ko, none⟩) m.kids.length mrc T.api_Ref 33 (m.kids.flatMap rcells) ::
          pt t6 (.cells [.bool m.leaf, .slice mka m.keys.length mkc, .slice mva m.vals.length mvc, .slice (some ⟨kb, ko, none⟩) m.kids.length mrc].toArray T.node_Node (0, 0)) :: pt t5 (.cells [yl l].toArray T.func_256 (0, 0)) :: B z.2.1 :: (wkPre bt br bf bk tp pf r k 0 ++ tree tp ps o :: store ps S :: disk S.pd D :: hlog S.pl (N + 1 + ((cs.take z.1).flatMap (·.U)).length) :: F))
        (fun z => z.1 ≤ cs.length ∧ rounds nxt go s0 (filt k ((cs.take z.1).flatMap (·.kv))) = (z.2.1, true) ∧ Iv z.2.1 (filt k ((cs.drop z.1).flatMap (·.kv)))) (fun z => cs.length - z.1) (A.length, s0, []) ⟨by rw [hcut]; simp, by dsimp only; rw [hcut, List.take_left, filt_none hsA]; rfl, by dsimp only; rw [hkv, hcut, List.flatMap_append, filt_app, filt_none hsA, List.nil_append] at hI0; rw [hcut, List.drop_left]; exact hI0⟩ rfl ⟨rfl, rfl, rfl, rfl, rfl, rfl, rfl, trivial⟩ ?_ ?_
      · dsimp only [List.cons_append, List.nil_append]
        exact Le.ent
      rintro ⟨i, s, Ds⟩ ⟨h1, h2, h3⟩
      dsimp only [List.cons_append, List.nil_append] at h1 h2 h3 ⊢
      repeat refine s1 ?_
      refine r_iop rfl rfl rfl rfl ?_
      repeat refine s1 ?_
      refine t_condSB rfl (fun hq => ?_) (fun hq => ?_)
      · have hi : i < cs.length := by have := of_decide_eq_true hq; omega
        have hik : i < m.kids.length := by omega
        have hcc := hcs cs[i] (List.getElem_mem hi)
        have hkid : m.kids[i] = cs[i].rf := by simp [hmi, inner]
        generalize hci : cs[i] = c' at hcc hkid
        have htk : cs.take (i + 1) = cs.take i ++ [c'] := by rw [List.take_add_one, List.getElem?_eq_getElem hi, hci]; rfl
        repeat refine s1 ?_
        refine ix rfl rfl hik ?_
        refine r_loadIA (off := ko) (n := m.kids.length) (cap := mrc) (E := T.api_Ref) (s := 33) (xs := m.kids.flatMap rcells) (vs := rcells c'.rf) rfl (j := i * 33) (by omega) (by simp [hcc.2.1.sum.1]) (by
          have := kid_at hmw hik
          rw [hkid] at this; exact this) rfl rfl ?_
        repeat refine s1 ?_
        refine cx (walkf_c tp pf k c'.rf Φ) (fun z _ => ?_)
        obtain ⟨b1, b2, b3, b4⟩ := z
        dsimp only
        repeat refine s1 ?_
        have hkv2 : kv = (cs.take i).flatMap (·.kv) ++ (c'.kv ++ (cs.drop (i + 1)).flatMap (·.kv)) := by
          rw [hkv]
          conv => lhs; rw [← List.take_append_drop (i + 1) cs, htk]
          simp
        have hcsrt : Srt c'.kv := by
          have := hs
          rw [hkv2] at this
          exact (List.pairwise_append.1 (List.pairwise_append.1 this).2.1).1
        have hUl : ((cs.take (i + 1)).flatMap (·.U)).length = ((cs.take i).flatMap (·.U)).length + c'.U.length := by rw [htk]; simp
        have hUV : ((cs.take (i + 1)).flatMap (·.U)).length ≤ V.length := by
          rw [hV]
          conv => rhs; rw [← List.take_append_drop (i + 1) cs]
          rw [List.flatMap_append, List.length_append]
          omega
        have hdi : cs.drop i = c' :: cs.drop (i + 1) := by rw [List.drop_eq_getElem_cons hi, hci]
        rw [hdi, List.flatMap_cons, filt_app] at h3
        have hlen : ∀ x ∈ filt k c'.kv, x.2.length = 44 := fun x hx => (hkvok x (by rw [hkv2]; simp only [List.mem_append]; exact .inr (.inl (List.mem_filter.1 hx).1))).2.1
        have hfs : filt k ((cs.take (i + 1)).flatMap (·.kv)) = filt k ((cs.take i).flatMap (·.kv)) ++ filt k c'.kv := by
          rw [htk, List.flatMap_append, filt_app]; simp
        have hinv : (rounds nxt go s (filt k c'.kv)).2 = true → Iv (rounds nxt go s (filt k c'.kv)).1 (filt k ((cs.drop (i + 1)).flatMap (·.kv))) := fun h5 => rounds_inv hst h3 h5
        have hro : rounds nxt go s0 (filt k ((cs.take (i + 1)).flatMap (·.kv))) = rounds nxt go s (filt k c'.kv) := by
          rw [hfs, rounds_app, h2, if_pos rfl]
        refine t_range (ps := [74]) (ζ := Nat) (lb := [ptr b1, ptr b2, ptr b3, ptr b4])
          (R := mkA Ds :: isl (some ⟨kb, ko, none⟩) m.kids.length mrc T.api_Ref 33 (m.kids.flatMap rcells) :: pt t6 (.cells [.bool m.leaf, .slice mka m.keys.length mkc, .slice mva m.vals.length mvc, .slice (some ⟨kb, ko, none⟩) m.kids.length mrc].toArray T.node_Node (0, 0)) ::
            pt bt (.cells [ptr tp].toArray T.p_mtree_Tree (0, 0)) :: pt br (.cells (rcells r).toArray T.api_Ref (0, 0)) :: pt bf (.cells [ptr pf].toArray T.p_api_Errno (0, 0)) :: pt bk (.cells [w64 k].toArray T.uint64 (0, 0)) :: F)
          rfl (ih h (Nat.lt_succ_self h) (N + 1 + ((cs.take i).flatMap (·.U)).length) c'.rf 4 c'.kv c'.U b1 b2 b3 b4 hcc.2 hcsrt (by omega))
          (fun s => all [pt t5 (.cells [yl l].toArray T.func_256 (0, 0)), B s]) (fun s => all [pt t5 (.cells [yl l].toArray T.func_256 (0, 0)), Bx s]) nxt go (fun s' rem => Iv s' (rem ++ filt k ((cs.drop (i + 1)).flatMap (·.kv))) ∧ ∀ x ∈ rem, x.2.length = 44) (fun s' x rem h5 hgo => ⟨hst s' x _ h5.1 hgo, fun y hy => h5.2 y (by simp [hy])⟩) .ret (.inl rfl) s ⟨h3, hlen⟩ (fun _ _ z => [(11, ptr z), (5, ptr t5)])
          (fun s x z => [pt z (.cells (w64 x.1 :: x.2.map u8).toArray T.mtree_Pair (0, 0)), all [pt t5 (.cells [yl l].toArray T.func_256 (0, 0)), B s]]) ?_ (fun _ => rfl) (by simp) rfl rfl ?_ ?_ ?_ ?_
        · refine Ent.trans ?_ (Ent.unall [pt t5 (.cells [yl l].toArray T.func_256 (0, 0)), B s] _)
          dsimp only [wkPre, List.cons_append, List.nil_append]
          exact Le.ent
        · intro s' x rem hx F'
          dsimp only [penv]
          repeat refine s1 ?_
          refine al (cs := w64 0 :: z44.map u8) (fun t11 => ?_)
          refine r_storeW (vs := w64 x.1 :: x.2.map u8) rfl rfl (by simp [hx.2 x (by simp)]) (by rfl) (by simp [Value.oneCell']) rfl ?_
          repeat refine s1 ?_
          exact j_meet t11 trivial ⟨rfl, rfl, trivial⟩ leD
        · intro s' x rem hx z F'
          dsimp only [List.cons_append, List.nil_append]
          refine jh [all [pt t5 (.cells [yl l].toArray T.func_256 (0, 0)), B s']] (j_all ?_)
          dsimp only [List.cons_append, List.nil_append]
          repeat refine s1 ?_
          refine r_loadW (vs := w64 x.1 :: x.2.map u8) rfl (by simp [hx.2 x (by simp)]) rfl rfl ?_
          refine r_yield rfl (hy s' x _ hx.1) ?_
          rcases hgo : go s' x with _ | _
          · simp only [Bool.false_eq_true, if_false]
            repeat refine s1 ?_
            exact j_rnd_ret ((Le.ent (A := pt t5 (.cells [yl l].toArray T.func_256 (0, 0)) :: Bx (nxt s' x) :: F')).trans (Ent.unall [pt t5 (.cells [yl l].toArray T.func_256 (0, 0)), Bx (nxt s' x)] F'))
          · simp only [if_true]
            repeat refine s1 ?_
            exact j_rnd ((Le.ent (A := pt t5 (.cells [yl l].toArray T.func_256 (0, 0)) :: B (nxt s' x) :: F')).trans (Ent.unall [pt t5 (.cells [yl l].toArray T.func_256 (0, 0)), B (nxt s' x)] F'))
        · intro Dm z _ hr2
          dsimp only [wkPre, List.cons_append, List.nil_append]
          refine jh [all [pt t5 (.cells [yl l].toArray T.func_256 (0, 0)), B (rounds nxt go s (filt k c'.kv)).1]] (j_all ?_)
          refine js [pt Dm (.deferred (some [])), mkA Ds] (B := mkA (Dm :: Ds)) (fun L => mkA_cons Dm Ds L) ?_
          rw [show N + 1 + ((cs.take i).flatMap (·.U)).length + c'.U.length = N + 1 + ((cs.take (i + 1)).flatMap (·.U)).length by omega]
          repeat refine s2 ?_
          exact j_againD (i + 1, (rounds nxt go s (filt k c'.kv)).1, Dm :: Ds) ⟨by omega, by rw [hro]; exact Prod.ext rfl hr2, hinv hr2⟩ (by dsimp only; omega) rfl ⟨rfl, rfl, rfl, rfl, rfl, rfl, rfl, trivial⟩ leD
        · intro Dm z _ hr2
          dsimp only [wkPre, List.cons_append, List.nil_append]
          refine jh [all [pt t5 (.cells [yl l].toArray T.func_256 (0, 0)), Bx (rounds nxt go s (filt k c'.kv)).1]] (j_all ?_)
          refine js [pt Dm (.deferred (some [])), mkA Ds] (B := mkA (Dm :: Ds)) (fun L => mkA_cons Dm Ds L) ?_
          repeat refine s1 ?_
          have hf : fin2 B Bx (rounds nxt go s0 (filt k kv)) = Bx (rounds nxt go s (filt k c'.kv)).1 := by
            have h5 : kv = (cs.take (i + 1)).flatMap (·.kv) ++ (cs.drop (i + 1)).flatMap (·.kv) := by rw [hkv, ← List.flatMap_append, List.take_append_drop]
            rw [h5, filt_app, rounds_app, hro, hr2]
            simp [fin2, hr2]
          rw [hf]
          refine jh [hlog S.pl (N + 1 + ((cs.take i).flatMap (·.U)).length + c'.U.length)] (j_ent (hlogUp (N' := N + (r.sec :: V).length) (by rw [List.length_cons]; omega) _) ?_)
          refine jh [mkA (Dm :: Ds)] ?_
          exact j_finM (rs := []) (Dm :: Ds) rfl rfl .nil () rfl trivial
      · have hi : i = cs.length := by have := of_decide_eq_false hq; omega
        subst hi
        rw [List.take_length, ← hkv] at h2
        repeat refine s1 ?_
        have hf : fin2 B Bx (rounds nxt go s0 (filt k kv)) = B s := by rw [h2]; simp
        rw [hf]
        refine jh [hlog S.pl (N + 1 + ((cs.take cs.length).flatMap (·.U)).length)] (j_ent (hlogUp (N' := N + (r.sec :: V).length) (by rw [List.length_cons, List.take_length, hV]; omega) _) ?_)
        refine jh [mkA Ds] ?_
        exact j_finM (rs := []) Ds rfl rfl .nil () rfl trivial
  · unfold dnN dnE
    simp only [hd, if_true]
    repeat refine s2 ?_
    refine so rfl rfl ?_
    repeat refine s1 ?_
    have hf : fin2 B Bx (rounds nxt go s0 ([] : KV)) = B s0 := by simp [rounds]
    rw [hf]
    refine jh [hlog S.pl (N + 1)] (j_ent (hlogUp (N' := N + (V.length + 1)) (by omega) _) ?_)
    refine j_ent (mkA_nil _) ?_
    refine j_finM (rs := []) [] rfl rfl .nil () rfl ?_
    trivial
end Go.Proofs.YtcnpkmdooekmgaaGreatDoor
