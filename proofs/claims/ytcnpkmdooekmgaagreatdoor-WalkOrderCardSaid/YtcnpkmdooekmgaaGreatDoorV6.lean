/-
  Part 6 of what a proof of this claim uses: rules, contracts and plain laws. No condition.
-/
import Derived.Test.YtcnpkmdooekmgaaGreatDoorV5
namespace Go.Proofs.YtcnpkmdooekmgaaGreatDoor
open Go Sl
abbrev pcell (x : Nat × List Nat) : List Value := w64 x.1 :: x.2.map u8
abbrev prow (a : Option Addr) (n c : Nat) (l : KV) : Assn := vec a n c T.mtree_Pair 45 (l.flatMap pcell)
theorem prow_nil (L : List Assn) : Ent L (prow none ([] : KV).length 0 [] :: L) := Ent.vecNil (E := T.mtree_Pair) (s := 45) L
def nxtR (b : Nat) (s : KV) (x : Nat × List Nat) : KV := if b < x.1 then s else s ++ [x]
def goR (b : Nat) (n : Int) (s : KV) (x : Nat × List Nat) : Bool := !decide (b < x.1) && !decide (((s.length + 1 : Nat) : Int) = n)
def rngL (a b : Nat) (n : Int) (kv : KV) : KV := ((kv.filter fun x => decide (a ≤ x.1)).filter fun x => decide (x.1 ≤ b)).take n.toNat
theorem rounds_rng {b : Nat} {n : Int} : ∀ {xs s : KV}, Srt xs → (s.length : Int) < n → (rounds (nxtR b) (goR b n) s xs).1 = s ++ (xs.filter fun x => decide (x.1 ≤ b)).take (n.toNat - s.length)
  | [], s, _, _ => by simp [rounds]
  | x :: xs, s, hs, hn => by
    obtain ⟨h1, h2⟩ := List.pairwise_cons.1 hs
    by_cases hb : b < x.1
    · have hf : (x :: xs).filter (fun x => decide (x.1 ≤ b)) = [] := List.filter_eq_nil_iff.2 fun y hy => by
        rcases List.mem_cons.1 hy with rfl | hy
        · simp; omega
        · have := h1 y hy; simp; omega
      rw [hf]
      simp [rounds, goR, nxtR, hb]
    · have hf : (x :: xs).filter (fun x => decide (x.1 ≤ b)) = x :: xs.filter (fun x => decide (x.1 ≤ b)) := List.filter_cons_of_pos (by simp; omega)
      rw [hf]
      have hsub : n.toNat - s.length = (n.toNat - (s.length + 1)) + 1 := by omega
      rw [hsub, List.take_succ_cons]
      by_cases hl : ((s.length + 1 : Nat) : Int) = n
      · have : n.toNat - (s.length + 1) = 0 := by omega
        rw [this, List.take_zero]
        simp [rounds, goR, nxtR, hb, hl]
      · have := rounds_rng (b := b) (n := n) (xs := xs) (s := s ++ [x]) h2 (by simp; omega)
        have hg : goR b n s x = true := by simp [goR, hb]; omega
        have hx : nxtR b s x = s ++ [x] := by simp [nxtR, hb]
        simp only [rounds, hg, if_true, hx]
        rw [this, List.length_append, List.append_assoc]
        rfl
/-- what Range hands back. -/
def rngO (D : Dk) (t : Tre) (a b : Nat) (n : Int) : KV := if t.rt.isSome = true ∧ ¬ n < 1 ∧ ¬ b < a ∧ D.down = false then rngL a b n t.kv else []
def rngE (D : Dk) (t : Tre) (a b : Nat) (n : Int) : Nat := if t.rt.isSome = true ∧ ¬ n < 1 ∧ ¬ b < a ∧ D.down = true then 30 else 0
/-- what Range has gathered. -/
abbrev gotA (t10 t6 t7 b : Nat) (n : Int) (s : KV) (z : Option Addr × Nat) : List Assn := [pt t10 (.cells [.slice z.1 s.length z.2].toArray T.sl_mtree_Pair (0, 0)), prow z.1 s.length z.2 s, pt t6 (.cells [w64 b].toArray T.uint64 (0, 0)), pt t7 (.cells [.int .i64 n].toArray T.int (0, 0))]
def gotB (t10 t6 t7 b : Nat) (n : Int) (s : KV) : Assn := ex fun z : Option Addr × Nat => all (gotA t10 t6 t7 b n s z)
theorem gotB_of {t10 t6 t7 b : Nat} {n : Int} {s : KV} (z : Option Addr × Nat) (L : List Assn) : Ent (gotA t10 t6 t7 b n s z ++ L) (gotB t10 t6 t7 b n s :: L) := (Ent.unall (gotA t10 t6 t7 b n s z) L).trans (Ent.mkEx (f := fun z => all (gotA t10 t6 t7 b n s z)) z)
theorem j_got {X : Cx} {e : Env} {L : List Assn} {G : Act → World → Prop} {t10 t6 t7 b : Nat} {n : Int} {s : KV} (h : ∀ z, J X e (gotA t10 t6 t7 b n s z ++ L) G) : J X e (gotB t10 t6 t7 b n s :: L) G := j_ex fun z => j_all (h z)
attribute [local irreducible] cw sw J Exit.then Exit.inBlock Exit.noGoto bodyPost swG swL permL
set_option maxHeartbeats 2000000 in
theorem trange_c (ps pd pl N a b : Nat) (n : Int) (S : St) (D : Dk) (t : Tre) (ht : TOk S.g t) (hS : S.wf) (ha : Agr S D) (hN : N ≤ 600000000) (hkv : t.kv.length ≤ 1000000) (hpd : S.pd = pd) (hpl : S.pl = pl) (Φ : Base) :
    Sl.Fn Tryz.prog Φ F.mtree_Tree_Range [ptr t.p, w64 a, w64 b, .int .i64 n] [tree t.p ps t.rt, store ps S, disk pd D, hlog pl N] (fun _ : Option Addr × Nat => True) (fun x => .tuple #[.slice x.1 (rngO D t a b n).length x.2, i64 (rngE D t a b n)])
      (fun x => [prow x.1 (rngO D t a b n).length x.2 (rngO D t a b n), tree t.p ps t.rt, store ps S, disk pd D, hlog pl (N + t.kv.length + 1)]) := by
  obtain rfl := hpd
  obtain rfl := hpl
  have hw := oWt_of ht
  refine foM fun F => ?_
  repeat refine s1 ?_
  refine r_box (cs := [w64 b]) rfl rfl rfl rfl (fun t6 => ?_)
  repeat refine s1 ?_
  refine r_box (cs := [.int .i64 n]) rfl rfl rfl rfl (fun t7 => ?_)
  repeat refine s1 ?_
  refine cl (made_c t.p ps t.rt Φ) ?_
  repeat refine s1 ?_
  refine ld rfl (tc_has hw) ?_
  rcases hrt : t.rt with _ | r
  · rw [Option.isSome_none]
    repeat refine s1 ?_
    have h0 : rngO D t a b n = [] := by simp [rngO, hrt]
    have h1 : rngE D t a b n = 0 := by simp [rngE, hrt]
    rw [h0, h1]
    refine j_ent (prow_nil _) ?_
    refine jh [hlog S.pl N] (j_ent (hlogUp (N' := N + t.kv.length + 1) (by omega) _) ?_)
    refine j_ent (mkA_nil _) ?_
    exact j_finM (rs := [.tmp 8, .tmp 9]) [] rfl rfl (.cons (rv_tmp rfl) (.cons (rv_tmp rfl) .nil)) (none, 0) rfl trivial
  · rw [Option.isSome_some]
    rw [hrt] at hw
    have hrw : r.wt := hw
    obtain ⟨hsrt, hne, H, U, hsh⟩ := ht.sh hrt
    have hul : U.length ≤ t.kv.length + 1 := by have := (sh_size hsh).1; omega
    repeat refine s1 ?_
    refine r_iop rfl rfl rfl rfl ?_
    by_cases hn : n < 1
    · rw [decide_eq_true hn]
      repeat refine s1 ?_
      have h0 : rngO D t a b n = [] := by simp [rngO, hn]
      have h1 : rngE D t a b n = 0 := by simp [rngE, hn]
      rw [h0, h1]
      refine j_ent (prow_nil _) ?_
      refine jh [hlog S.pl N] (j_ent (hlogUp (N' := N + t.kv.length + 1) (by omega) _) ?_)
      refine j_ent (mkA_nil _) ?_
      exact j_finM (rs := [.tmp 8, .tmp 9]) [] rfl rfl (.cons (rv_tmp rfl) (.cons (rv_tmp rfl) .nil)) (none, 0) rfl trivial
    · rw [decide_eq_false hn]
      repeat refine s1 ?_
      refine r_icmp rfl rfl rfl rfl ?_
      by_cases hab : b < a
      · rw [decide_eq_true (show (b : Int) < (a : Int) by omega)]
        repeat refine s1 ?_
        have h0 : rngO D t a b n = [] := by simp [rngO, hab]
        have h1 : rngE D t a b n = 0 := by simp [rngE, hab]
        rw [h0, h1]
        refine j_ent (prow_nil _) ?_
        refine jh [hlog S.pl N] (j_ent (hlogUp (N' := N + t.kv.length + 1) (by omega) _) ?_)
        refine j_ent (mkA_nil _) ?_
        exact j_finM (rs := [.tmp 8, .tmp 9]) [] rfl rfl (.cons (rv_tmp rfl) (.cons (rv_tmp rfl) .nil)) (none, 0) rfl trivial
      · rw [decide_eq_false (show ¬ (b : Int) < (a : Int) by omega)]
        repeat refine s1 ?_
        refine al (cs := [.slice none 0 0]) (fun t10 => ?_)
        repeat refine s1 ?_
        refine al (cs := [i64 0]) (fun t11 => ?_)
        repeat refine s1 ?_
        refine so rfl rfl ?_
        repeat refine s1 ?_
        refine r_loadA (vs := rcells r) (off := 1) rfl (by simp [hrw.sum.1]) (tc_root (o := some r)) rfl rfl ?_
        repeat refine s1 ?_
        refine cx (walkf_c t.p t11 a r Φ) (fun z _ => ?_)
        obtain ⟨b1, b2, b3, b4⟩ := z
        dsimp only
        repeat refine s1 ?_
        have hseq := walk_s t.p ps t11 a (some r) S D hS ha Φ H N r 1 t.kv U b1 b2 b3 b4 hsh hsrt (by omega)
        refine t_range (ps := [37]) (ζ := Nat) (lb := [ptr b1, ptr b2, ptr b3, ptr b4]) (R := F) rfl hseq (gotB t10 t6 t7 b n) (gotB t10 t6 t7 b n) (nxtR b) (goR b n) (fun s rem => s.length + rem.length ≤ 1000000 ∧ ∀ x ∈ rem, x.2.length = 44) (fun s x rem h5 _ => ⟨by
            have h6 := h5.1
            rw [List.length_cons] at h6
            unfold nxtR
            split
            · omega
            · rw [List.length_append, List.length_singleton]; omega, fun y hy => h5.2 y (by simp [hy])⟩) (.exit 0) (.inr ⟨0, rfl⟩) [] ⟨?_, ?_⟩ (fun _ _ z => [(12, ptr z), (6, ptr t6), (7, ptr t7), (10, ptr t10)])
          (fun s x z => [pt z (.cells (pcell x).toArray T.mtree_Pair (0, 0)), gotB t10 t6 t7 b n s]) ?_ (fun _ => rfl) (by simp) rfl rfl ?_ ?_ ?_ ?_
        · split
          · simp
          · have := List.length_filter_le (fun x : Nat × List Nat => decide (a ≤ x.1)) t.kv
            simp only [List.length_nil, Nat.zero_add, filt]; omega
        · intro x hx
          split at hx
          · cases hx
          · exact (ht.kvok x (List.mem_filter.1 hx).1).2.1
        · refine Ent.trans ?_ (gotB_of (none, 0) _)
          dsimp only [wkPre, List.cons_append, List.nil_append]
          exact (prow_nil _).trans Le.ent
        · intro s' x rem hx F'
          dsimp only [penv]
          repeat refine s1 ?_
          refine al (cs := w64 0 :: z44.map u8) (fun t11 => ?_)
          refine r_storeW (vs := pcell x) rfl rfl (by simp [hx.2 x (by simp)]) (by rfl) (by simp [Value.oneCell']) rfl ?_
          repeat refine s1 ?_
          exact j_meet t11 trivial ⟨rfl, rfl, rfl, rfl, trivial⟩ leD
        · intro s' x rem hx z F'
          have hxl := hx.2 x (by simp)
          have hsl := hx.1
          rw [List.length_cons] at hsl
          dsimp only [List.cons_append, List.nil_append]
          refine jh [gotB t10 t6 t7 b n s'] (j_got fun z2 => ?_)
          obtain ⟨oa, oc⟩ := z2
          dsimp only [List.cons_append, List.nil_append]
          repeat refine s1 ?_
          refine r_icmp rfl rfl rfl rfl ?_
          by_cases hbx : b < x.1
          · rw [decide_eq_true (show (b : Int) < (x.1 : Int) by omega)]
            have hg : goR b n s' x = false := by simp [goR, hbx]
            have hnx : nxtR b s' x = s' := by simp [nxtR, hbx]
            rw [hg, hnx]
            repeat refine s1 ?_
            refine js (gotA t10 t6 t7 b n s' (oa, oc)) (B := gotB t10 t6 t7 b n s') (fun L => gotB_of (oa, oc) L) ?_
            exact j_rnd_exit Le.ent
          · rw [decide_eq_false (show ¬ (b : Int) < (x.1 : Int) by omega)]
            have hnx : nxtR b s' x = s' ++ [x] := by simp [nxtR, hbx]
            rw [hnx]
            repeat refine s1 ?_
            refine r_loadW (vs := pcell x) rfl (by simp [hxl]) rfl rfl ?_
            refine r_buildA1 (v := pcell x) rfl (by simp [hxl]) (by decide) (fun bv => ?_)
            refine r_append (n := s'.length) (m := 1) (s := 45) (xs := s'.flatMap pcell) (ys := pcell x) rfl rfl (by decide) (by rfl) (by simp [Value.oneCell']) (by omega) (by omega) rfl rfl (fun a' c' _ => ?_)
            have he : s'.flatMap pcell ++ pcell x = (s' ++ [x]).flatMap pcell := by simp
            have hln : s'.length + 1 = (s' ++ [x]).length := by simp
            rw [he, hln]
            refine so rfl rfl ?_
            repeat refine s1 ?_
            refine r_icmp rfl rfl rfl rfl ?_
            by_cases hl : (((s' ++ [x]).length : Nat) : Int) = n
            · rw [decide_eq_true hl]
              have hg : goR b n s' x = false := by rw [← hln] at hl; simp [goR, hl]
              rw [hg]
              repeat refine s1 ?_
              refine js (gotA t10 t6 t7 b n (s' ++ [x]) (a', c')) (B := gotB t10 t6 t7 b n (s' ++ [x])) (fun L => gotB_of (a', c') L) ?_
              exact j_rnd_exit Le.ent
            · rw [decide_eq_false hl]
              have hg : goR b n s' x = true := by
                rw [← hln] at hl
                simp only [goR, decide_eq_false hbx, decide_eq_false hl, Bool.not_false, Bool.and_true]
              rw [hg]
              repeat refine s1 ?_
              refine js (gotA t10 t6 t7 b n (s' ++ [x]) (a', c')) (B := gotB t10 t6 t7 b n (s' ++ [x])) (fun L => gotB_of (a', c') L) ?_
              exact j_rnd Le.ent
        all_goals
          intro Dm z _ hr2
          dsimp only [wkPre, dnE, List.cons_append, List.nil_append]
          have hl : D.down = false → (rounds (nxtR b) (goR b n) [] (if D.down = true then [] else filt a t.kv)).1 = rngL a b n t.kv := fun hd => by
            simp only [hd, Bool.false_eq_true, if_false]
            rw [rounds_rng (hsrt.sublist List.filter_sublist) (by simp; omega)]
            simp [rngL]
          generalize (rounds (nxtR b) (goR b n) [] (if D.down = true then [] else filt a t.kv)).1 = out at hl ⊢
          refine j_ent (mkA_nil _) ?_
          refine js [pt Dm (.deferred (some [])), mkA []] (B := mkA [Dm]) (fun L => mkA_cons Dm [] L) ?_
          refine jh [hlog S.pl (N + U.length)] (j_ent (hlogUp (N' := N + t.kv.length + 1) (by omega) _) ?_)
          rcases hd : D.down with _ | _
          · have h0 : rngO D t a b n = out := by simp only [rngO, hrt, hd]; rw [if_pos ⟨rfl, hn, hab, trivial⟩, hl hd]
            have h1 : rngE D t a b n = 0 := by simp [rngE, hd]
            rw [h0, h1]
            simp only [Bool.false_eq_true, if_false]
            refine jh [gotB t10 t6 t7 b n out] (j_got fun z2 => ?_)
            obtain ⟨oa, oc⟩ := z2
            dsimp only [List.cons_append, List.nil_append]
            repeat refine s2 ?_
            refine jh [mkA [Dm]] ?_
            exact j_finM (rs := [.tmp 8, .tmp 9]) [Dm] rfl rfl (.cons (rv_tmp rfl) (.cons (rv_tmp rfl) .nil)) (oa, oc) rfl trivial
          · have h0 : rngO D t a b n = [] := by simp [rngO, hd]
            have h1 : rngE D t a b n = 30 := by simp only [rngE, hrt, hd]; rw [if_pos ⟨rfl, hn, hab, trivial⟩]
            rw [h0, h1]
            simp only [if_true]
            repeat refine s2 ?_
            refine j_ent (prow_nil _) ?_
            refine jh [mkA [Dm]] ?_
            exact j_finM (rs := [.tmp 8, .tmp 9]) [Dm] rfl rfl (.cons (rv_tmp rfl) (.cons (rv_tmp rfl) .nil)) (none, 0) rfl trivial
end Go.Proofs.YtcnpkmdooekmgaaGreatDoor
namespace Go.Proofs.YtcnpkmdooekmgaaGreatDoor
open Go Sl
structure RP where
  k : Nat
  v : List Nat
  a : Option Addr
  c : Nat
abbrev rpc (x : RP) : List Value := [w64 x.k, .slice x.a x.v.length x.c]
abbrev valA (x : RP) : Assn := isl x.a x.v.length x.c T.uint8 1 (x.v.map u8)
abbrev kvs (l : List RP) : KV := l.map fun x => (x.k, x.v)
/-- a list's values; nobody turns them. -/
def rvals (l : List RP) : Assn := im' (fun im => ∀ x ∈ l, (valA x).sat im Hp.emp) (fun hm h x hx => (valA x).mono hm (h x hx))
instance (l : List RP) : Pers (rvals l) := ⟨fun _ _ h => h⟩
abbrev rowR (a : Option Addr) (n c : Nat) (l : List RP) : Assn := isl a n c T.casemateref15_Pair 2 (l.flatMap rpc)
abbrev rowV (a : Option Addr) (n c : Nat) (l : List RP) : Assn := vec a n c T.casemateref15_Pair 2 (l.flatMap rpc)
theorem rvals_nil (L : List Assn) : Ent L (rvals [] :: L) := fun _ h s => ⟨Hp.emp, h, Hp.emp_le _, Hp.le_refl _, Hp.emp_dis _, fun x hx => (by cases hx), s⟩
theorem rvals_one (x : RP) (L : List Assn) : Ent (valA x :: L) (rvals [x] :: L) := by
  rintro im h ⟨a1, a2, e1, e2, e3, hn, s⟩
  exact ⟨Hp.emp, h, Hp.emp_le _, Hp.le_refl _, Hp.emp_dis _, fun z hz => by simp only [List.mem_singleton] at hz; subst hz; exact hn, satL_mono (Hp.le_refl _) e2 s⟩
theorem rvals_app (l m : List RP) (L : List Assn) : Ent (rvals l :: rvals m :: L) (rvals (l ++ m) :: L) := by
  rintro im h ⟨a1, a2, e1, e2, e3, hn, b1, b2, f1, f2, f3, hm, s⟩
  refine ⟨Hp.emp, h, Hp.emp_le _, Hp.le_refl _, Hp.emp_dis _, fun x hx => ?_, satL_mono (Hp.le_refl _) (Hp.le_trans f2 e2) s⟩
  rcases List.mem_append.1 hx with hx | hx
  · exact hn x hx
  · exact hm x hx
theorem rvals_sub {l m : List RP} (hs : ∀ x ∈ m, x ∈ l) (L : List Assn) : Ent (rvals l :: L) (rvals m :: rvals l :: L) := by
  rintro im h ⟨a1, a2, e1, e2, e3, hn, s⟩
  exact ⟨Hp.emp, h, Hp.emp_le _, Hp.le_refl _, Hp.emp_dis _, fun x hx => hn x (hs x hx), a1, a2, e1, e2, e3, hn, s⟩
theorem rpc_at {l : List RP} {i : Nat} {x : RP} (h : l[i]? = some x) : (l.flatMap rpc)[i * 2]? = some (w64 x.k) ∧ (l.flatMap rpc)[i * 2 + 1]? = some (.slice x.a x.v.length x.c) := by
  have h1 := flat_in (f := rpc) (c := 2) (l := l) (fun _ _ => rfl) h (j := 0) (by decide)
  have h2 := flat_in (f := rpc) (c := 2) (l := l) (fun _ _ => rfl) h (j := 1) (by decide)
  exact ⟨h1, h2⟩
theorem rpc_all {l : List RP} {i : Nat} {x : RP} (h : l[i]? = some x) : ∀ (j : Nat) (v : Value), (rpc x)[j]? = some v → (l.flatMap rpc)[i * 2 + j]? = some v := fun j v hv => by
  rw [flat_in (f := rpc) (c := 2) (l := l) (fun _ _ => rfl) h (by have := (List.getElem?_eq_some_iff.1 hv).1; simpa using this)]
  exact hv
theorem filter_take {p : RP → Bool} {l : List RP} {i : Nat} {x : RP} (h : l[i]? = some x) : (l.take (i + 1)).filter p = (l.take i).filter p ++ if p x then [x] else [] := by
  rw [List.take_add_one, h, Option.toList_some, List.filter_append]
  congr 1
  simp only [List.filter_cons, List.filter_nil]
theorem rowV_nil (L : List Assn) : Ent L (rowV none ([] : List RP).length 0 [] :: L) := Ent.vecNil (E := T.casemateref15_Pair) (s := 2) L
attribute [local irreducible] cw sw J Exit.then Exit.inBlock Exit.noGoto bodyPost swG swL permL
end Go.Proofs.YtcnpkmdooekmgaaGreatDoor
namespace Go.Proofs.YtcnpkmdooekmgaaGreatDoor
open Go Sl
theorem take_step {l : List RP} {x : RP} {n : Nat} : (l ++ [x]).take n = if (l.take n).length < n then l.take n ++ [x] else l.take n := by
  split
  · rename_i h
    rw [List.length_take] at h
    have hl : l.length < n := by omega
    rw [List.take_of_length_le (by simp; omega), List.take_of_length_le (by omega)]
  · rename_i h
    rw [List.length_take] at h
    rw [List.take_append_of_le_length (by omega)]
def inR (a b : Nat) (x : RP) : Bool := decide (a ≤ x.k) && decide (x.k ≤ b)
attribute [local irreducible] cw sw J Exit.then Exit.inBlock Exit.noGoto bodyPost swG swL permL
theorem rrange_c (a : Option Addr) (c f t : Nat) (m : Int) (l : List RP) (hl : l.length ≤ 1000000) (Φ : Base) :
    Sl.Fn Tryz.prog Φ F.casemateref15_Range [.slice a l.length c, w64 f, w64 t, .int .i64 m] [rowR a l.length c l] (fun z : List RP × Option Addr × Nat => z.1 = (l.filter (inR f t)).take m.toNat) (fun z => .slice z.2.1 z.1.length z.2.2) (fun z => [rowR z.2.1 z.1.length z.2.2 z.1]) := by
  refine fo fun F => ?_
  repeat refine s1 ?_
  refine j_ent (rowV_nil _) ?_
  refine t_loop (σ := Nat × List RP × Option Addr × Nat) (fun z => [(10, i64 z.1), (9, .slice z.2.2.1 z.2.1.length z.2.2.2), (0, .slice a l.length c), (1, w64 f), (2, w64 t), (3, .int .i64 m)]) (fun z => rowV z.2.2.1 z.2.1.length z.2.2.2 z.2.1 :: rowR a l.length c l :: F)
    (fun z => z.1 ≤ l.length ∧ z.2.1.length ≤ z.1 ∧ z.2.1 = ((l.take z.1).filter (inR f t)).take m.toNat) (fun z => l.length - z.1) (0, [], none, 0) ⟨Nat.zero_le _, Nat.le_refl _, by simp⟩ ⟨rfl, rfl, rfl, rfl, rfl, rfl, trivial⟩ leD ?_
  rintro ⟨i, out, oa, oc⟩ ⟨h1, h2, h3⟩
  dsimp only at h1 h2 h3 ⊢
  refine jh [rowR a l.length c l] (j_leni (fun _ _ hla => ?_))
  repeat refine s1 ?_
  refine r_iop rfl rfl rfl rfl ?_
  repeat refine s1 ?_
  refine t_condSB rfl (fun hq => ?_) (fun hq => ?_)
  · have hi : i < l.length := by have := of_decide_eq_true hq; omega
    obtain ⟨lb, lo, rfl⟩ := hla (by omega)
    obtain ⟨x, hx⟩ : ∃ x, l[i]? = some x := ⟨_, List.getElem?_eq_getElem hi⟩
    have hat := rpc_at hx
    have hft := filter_take (p := inR f t) hx
    repeat refine s1 ?_
    refine ix rfl rfl hi ?_
    repeat refine s1 ?_
    refine r_loadI (off := lo) (n := l.length) (cap := c) (E := T.casemateref15_Pair) (s := 2) (xs := l.flatMap rpc) (v := w64 x.k) rfl (j := i * 2) (by omega) hat.1 rfl rfl ?_
    repeat refine s1 ?_
    refine r_icmp rfl rfl rfl rfl ?_
    by_cases hf : f ≤ x.k
    · rw [decide_eq_true (show (f : Int) ≤ (x.k : Int) by omega)]
      repeat refine s1 ?_
      refine ix rfl rfl hi ?_
      repeat refine s1 ?_
      refine r_loadI (off := lo) (n := l.length) (cap := c) (E := T.casemateref15_Pair) (s := 2) (xs := l.flatMap rpc) (v := w64 x.k) rfl (j := i * 2) (by omega) hat.1 rfl rfl ?_
      repeat refine s1 ?_
      refine r_icmp rfl rfl rfl rfl ?_
      by_cases ht : x.k ≤ t
      · rw [decide_eq_true (show (x.k : Int) ≤ (t : Int) by omega)]
        rw [if_pos (by simp [inR, hf, ht])] at hft
        repeat refine s1 ?_
        refine r_iop rfl rfl rfl rfl ?_
        by_cases hm : (out.length : Int) < m
        · rw [decide_eq_true hm]
          repeat refine s1 ?_
          refine ix rfl rfl hi ?_
          repeat refine s1 ?_
          refine r_loadIA (off := lo) (n := l.length) (cap := c) (E := T.casemateref15_Pair) (s := 2) (xs := l.flatMap rpc) (vs := rpc x) rfl (j := i * 2) (by omega) (by rfl) (rpc_all hx) rfl rfl ?_
          refine r_buildA1 (v := rpc x) rfl (by rfl) (by decide) (fun bv => ?_)
          refine r_append (n := out.length) (m := 1) (s := 2) (xs := out.flatMap rpc) (ys := rpc x) rfl rfl (by decide) (by rfl) (by simp [Value.oneCell']) (by omega) (by omega) rfl rfl (fun oa' oc' _ => ?_)
          rw [show out.flatMap rpc ++ rpc x = (out ++ [x]).flatMap rpc by simp, show out.length + 1 = (out ++ [x]).length by simp]
          repeat refine s1 ?_
          exact j_again (i + 1, out ++ [x], oa', oc') ⟨by omega, by dsimp only; rw [List.length_append, List.length_singleton]; omega, by dsimp only; rw [hft, take_step, ← h3, if_pos (by omega)]⟩ (by dsimp only; omega) ⟨rfl, rfl, rfl, rfl, rfl, rfl, trivial⟩ leD
        · rw [decide_eq_false hm]
          repeat refine s1 ?_
          exact j_again (i + 1, out, oa, oc) ⟨by omega, by dsimp only; omega, by dsimp only; rw [hft, take_step, ← h3, if_neg (by omega)]⟩ (by dsimp only; omega) ⟨rfl, rfl, rfl, rfl, rfl, rfl, trivial⟩ leD
      · rw [decide_eq_false (show ¬ (x.k : Int) ≤ (t : Int) by omega)]
        rw [if_neg (by simp [inR, ht]), List.append_nil] at hft
        repeat refine s1 ?_
        exact j_again (i + 1, out, oa, oc) ⟨by omega, by dsimp only; omega, by dsimp only; rw [hft, ← h3]⟩ (by dsimp only; omega) ⟨rfl, rfl, rfl, rfl, rfl, rfl, trivial⟩ leD
    · rw [decide_eq_false (show ¬ (f : Int) ≤ (x.k : Int) by omega)]
      rw [if_neg (by simp [inR, hf]), List.append_nil] at hft
      repeat refine s1 ?_
      exact j_again (i + 1, out, oa, oc) ⟨by omega, by dsimp only; omega, by dsimp only; rw [hft, ← h3]⟩ (by dsimp only; omega) ⟨rfl, rfl, rfl, rfl, rfl, rfl, trivial⟩ leD
  · have hi : i = l.length := by have := of_decide_eq_false hq; omega
    subst hi
    rw [List.take_length] at h3
    repeat refine s1 ?_
    refine jh [rowV oa out.length oc out] (fz ?_)
    exact f1 (out, oa, oc) (hq := h3)
/-- one step of Put. -/
def putS (x : RP) (s : Bool × List RP) (y : RP) : Bool × List RP :=
  let s1 := if !s.1 && decide (x.k ≤ y.k) then (true, s.2 ++ [x]) else s
  if y.k ≠ x.k then (s1.1, s1.2 ++ [y]) else s1
def putL (x : RP) (l : List RP) : List RP :=
  let s := l.foldl (putS x) (false, [])
  if s.1 then s.2 else s.2 ++ [x]
def bn : Bool → Nat
  | true => 0
  | false => 1
theorem putS_len (x : RP) : ∀ (l : List RP) (s : Bool × List RP), (l.foldl (putS x) s).2.length + bn (l.foldl (putS x) s).1 ≤ s.2.length + bn s.1 + l.length
  | [], s => Nat.le_refl _
  | y :: l, s => by
    have := putS_len x l (putS x s y)
    have h2 : (putS x s y).2.length + bn (putS x s y).1 ≤ s.2.length + bn s.1 + 1 := by
      obtain ⟨b, o⟩ := s
      unfold putS
      rcases b with _ | _ <;> by_cases h3 : x.k ≤ y.k <;> by_cases h4 : y.k = x.k <;> simp [h3, h4, bn]
    rw [List.foldl_cons, List.length_cons]
    omega
theorem putS_done (x : RP) : ∀ (l : List RP) (o : List RP), (∀ y ∈ l, y.k ≠ x.k) → l.foldl (putS x) (true, o) = (true, o ++ l)
  | [], o, _ => by simp
  | y :: l, o, h => by
    have h1 : putS x (true, o) y = (true, o ++ [y]) := by simp [putS, h y (by simp)]
    rw [List.foldl_cons, h1, putS_done x l _ (fun z hz => h z (by simp [hz]))]
    simp
theorem putS_ins (x : RP) : ∀ (l : List RP) (o : List RP), Srt (kvs l) → kvs (if (l.foldl (putS x) (false, o)).1 then (l.foldl (putS x) (false, o)).2 else (l.foldl (putS x) (false, o)).2 ++ [x]) = kvs o ++ ins x.k x.v (kvs l)
  | [], o, _ => by simp [kvs, ins]
  | y :: l, o, h => by
    obtain ⟨h1, h2⟩ := List.pairwise_cons.1 h
    have hgt : ∀ z ∈ l, y.k < z.k := fun z hz => h1 (z.k, z.v) (List.mem_map.2 ⟨z, hz, rfl⟩)
    rw [List.foldl_cons]
    by_cases h3 : x.k ≤ y.k
    · by_cases h4 : y.k = x.k
      · have hs : putS x (false, o) y = (true, o ++ [x]) := by simp [putS, h3, h4]
        rw [hs, putS_done x l _ (fun z hz => by have := hgt z hz; omega)]
        simp [kvs, ins, h4]
      · have hs : putS x (false, o) y = (true, o ++ [x] ++ [y]) := by simp [putS, h3, h4]
        rw [hs, putS_done x l _ (fun z hz => by have := hgt z hz; omega)]
        have : x.k < y.k := by omega
        simp [kvs, ins, this]
    · have hs : putS x (false, o) y = (false, o ++ [y]) := by simp [putS, h3]; intro h5; omega
      rw [hs, putS_ins x l _ h2]
      have h5 : ¬ x.k < y.k := by omega
      have h6 : ¬ x.k = y.k := by omega
      simp [kvs, ins, h5, h6]
theorem put_ins {x : RP} {l : List RP} (h : Srt (kvs l)) : kvs (putL x l) = ins x.k x.v (kvs l) := by
  have := putS_ins x l [] h
  simpa [putL] using this
theorem putL_eq (x : RP) (l : List RP) : putL x l = if (l.foldl (putS x) (false, [])).1 then (l.foldl (putS x) (false, [])).2 else (l.foldl (putS x) (false, [])).2 ++ [x] := rfl
theorem fold_take {x y : RP} {l : List RP} {i : Nat} (h : l[i]? = some y) : (l.take (i + 1)).foldl (putS x) (false, []) = putS x ((l.take i).foldl (putS x) (false, [])) y := by
  rw [List.take_add_one, h, Option.toList_some, List.foldl_append]; rfl
def step1 (x : RP) (s : Bool × List RP) (y : RP) : Bool × List RP := if !s.1 && decide (x.k ≤ y.k) then (true, s.2 ++ [x]) else s
theorem putS_eq (x : RP) (s : Bool × List RP) (y : RP) : putS x s y = if y.k ≠ x.k then ((step1 x s y).1, (step1 x s y).2 ++ [y]) else step1 x s y := rfl
theorem putS_mem (x : RP) : ∀ (l : List RP) (s : Bool × List RP) (z : RP), z ∈ (l.foldl (putS x) s).2 → z ∈ s.2 ∨ z = x ∨ z ∈ l
  | [], s, z, h => .inl h
  | y :: l, s, z, h => by
    rcases putS_mem x l (putS x s y) z h with h1 | h1 | h1
    · obtain ⟨b, o⟩ := s
      unfold putS at h1
      rcases b with _ | _ <;> by_cases h3 : x.k ≤ y.k <;> by_cases h4 : y.k = x.k <;> simp [h3, h4] at h1 ⊢ <;> grind
    · exact .inr (.inl h1)
    · exact .inr (.inr (by simp [h1]))
theorem putL_mem {x : RP} {l : List RP} {z : RP} (h : z ∈ putL x l) : z = x ∨ z ∈ l := by
  rw [putL_eq] at h
  split at h
  · rcases putS_mem x l _ z h with h1 | h1
    · cases h1
    · exact h1
  · rcases List.mem_append.1 h with h | h
    · rcases putS_mem x l _ z h with h1 | h1
      · cases h1
      · exact h1
    · exact .inl (by simpa using h)
set_option maxHeartbeats 1000000 in
theorem rput_c (a : Option Addr) (c : Nat) (p : RP) (l : List RP) (hl : l.length ≤ 1000000) (Φ : Base) :
    Sl.Fn Tryz.prog Φ F.casemateref15_Put [.slice a l.length c, w64 p.k, .slice p.a p.v.length p.c] [rowR a l.length c l] (fun z : List RP × Option Addr × Nat => z.1 = putL p l) (fun z => .slice z.2.1 z.1.length z.2.2) (fun z => [rowR z.2.1 z.1.length z.2.2 z.1]) := by
  refine fo fun F => ?_
  repeat refine s1 ?_
  refine j_ent (rowV_nil _) ?_
  refine t_loop (σ := Nat × Bool × List RP × Option Addr × Nat) (fun z => [(9, i64 z.1), (8, .bool z.2.1), (7, .slice z.2.2.2.1 z.2.2.1.length z.2.2.2.2), (0, .slice a l.length c), (1, w64 p.k), (2, .slice p.a p.v.length p.c)]) (fun z => rowV z.2.2.2.1 z.2.2.1.length z.2.2.2.2 z.2.2.1 :: rowR a l.length c l :: F)
    (fun z => z.1 ≤ l.length ∧ (z.2.1, z.2.2.1) = (l.take z.1).foldl (putS p) (false, [])) (fun z => l.length - z.1) (0, false, [], none, 0) ⟨Nat.zero_le _, rfl⟩ ⟨rfl, rfl, rfl, rfl, rfl, rfl, trivial⟩ leD ?_
  rintro ⟨i, dn, out, oa, oc⟩ ⟨h1, h3⟩
  dsimp only at h1 h3 ⊢
  have hln := putS_len p (l.take i) (false, [])
  rw [← h3, List.length_take_of_le h1] at hln
  have h2 : out.length ≤ i + 1 := by simp only [List.length_nil, bn] at hln; omega
  clear hln
  refine jh [rowR a l.length c l] (j_leni (fun _ _ hla => ?_))
  repeat refine s1 ?_
  refine r_iop rfl rfl rfl rfl ?_
  repeat refine s1 ?_
  refine t_condSB rfl (fun hq => ?_) (fun hq => ?_)
  · have hi : i < l.length := by have := of_decide_eq_true hq; omega
    obtain ⟨lb, lo, rfl⟩ := hla (by omega)
    obtain ⟨x, hx⟩ : ∃ x, l[i]? = some x := ⟨_, List.getElem?_eq_getElem hi⟩
    have hat := rpc_at hx
    have hft := fold_take (x := p) hx
    rw [← h3] at hft
    rcases dn with _ | _
    · repeat refine s1 ?_
      refine ix rfl rfl hi ?_
      repeat refine s1 ?_
      refine r_loadI (off := lo) (n := l.length) (cap := c) (E := T.casemateref15_Pair) (s := 2) (xs := l.flatMap rpc) (v := w64 x.k) rfl (j := i * 2) (by omega) hat.1 rfl rfl ?_
      repeat refine s1 ?_
      refine r_icmp rfl rfl rfl rfl ?_
      by_cases h4 : p.k ≤ x.k
      · rw [decide_eq_true (show (p.k : Int) ≤ (x.k : Int) by omega)]
        repeat refine s1 ?_
        refine r_build (cells := rpc p) rfl (by rfl) rfl ?_
        refine r_buildA1 (v := rpc p) rfl (by rfl) (by decide) (fun bv => ?_)
        refine r_append (n := out.length) (m := 1) (s := 2) (xs := out.flatMap rpc) (ys := rpc p) rfl rfl (by decide) (by rfl) (by simp [Value.oneCell']) (by omega) (by omega) rfl rfl (fun oa' oc' _ => ?_)
        rw [show out.flatMap rpc ++ rpc p = (out ++ [p]).flatMap rpc by simp, show out.length + 1 = (out ++ [p]).length by simp]
        have hst : step1 p (false, out) x = (true, out ++ [p]) := by simp [step1, h4]
        have hln2 : (out ++ [p]).length ≤ i + 2 := by rw [List.length_append, List.length_singleton]; omega
        generalize out ++ [p] = out at hst hln2 ⊢
        repeat refine s1 ?_
        refine ix rfl rfl hi ?_
        repeat refine s1 ?_
        refine r_loadI (off := lo) (n := l.length) (cap := c) (E := T.casemateref15_Pair) (s := 2) (xs := l.flatMap rpc) (v := w64 x.k) rfl (j := i * 2) (by omega) hat.1 rfl rfl ?_
        repeat refine s1 ?_
        refine r_icmp rfl rfl rfl rfl ?_
        by_cases h5 : x.k = p.k
        · rw [show (!decide ((x.k : Int) = (p.k : Int))) = false by simp [h5]]
          repeat refine s1 ?_
          exact j_again (i + 1, true, out, oa', oc') ⟨by omega, by dsimp only; rw [hft]; rw [putS_eq, hst, if_neg (by simp [h5])]⟩ (by dsimp only; omega) ⟨rfl, rfl, rfl, rfl, rfl, rfl, trivial⟩ leD
        · rw [show (!decide ((x.k : Int) = (p.k : Int))) = true by simp; omega]
          repeat refine s1 ?_
          refine ix rfl rfl hi ?_
          repeat refine s1 ?_
          refine r_loadIA (off := lo) (n := l.length) (cap := c) (E := T.casemateref15_Pair) (s := 2) (xs := l.flatMap rpc) (vs := rpc x) rfl (j := i * 2) (by omega) (by rfl) (rpc_all hx) rfl rfl ?_
          refine r_buildA1 (v := rpc x) rfl (by rfl) (by decide) (fun bv => ?_)
          refine r_append (n := out.length) (m := 1) (s := 2) (xs := out.flatMap rpc) (ys := rpc x) rfl rfl (by decide) (by rfl) (by simp [Value.oneCell']) (by omega) (by omega) rfl rfl (fun ob' od' _ => ?_)
          rw [show out.flatMap rpc ++ rpc x = (out ++ [x]).flatMap rpc by simp, show out.length + 1 = (out ++ [x]).length by simp]
          repeat refine s1 ?_
          exact j_again (i + 1, true, out ++ [x], ob', od') ⟨by omega, by dsimp only; rw [hft]; rw [putS_eq, hst, if_pos h5]⟩ (by dsimp only; omega) ⟨rfl, rfl, rfl, rfl, rfl, rfl, trivial⟩ leD
      · rw [decide_eq_false (show ¬ (p.k : Int) ≤ (x.k : Int) by omega)]
        have hst : step1 p (false, out) x = (false, out) := by simp [step1, h4]
        have hln2 : out.length ≤ i + 2 := by omega
        repeat refine s1 ?_
        refine ix rfl rfl hi ?_
        repeat refine s1 ?_
        refine r_loadI (off := lo) (n := l.length) (cap := c) (E := T.casemateref15_Pair) (s := 2) (xs := l.flatMap rpc) (v := w64 x.k) rfl (j := i * 2) (by omega) hat.1 rfl rfl ?_
        repeat refine s1 ?_
        refine r_icmp rfl rfl rfl rfl ?_
        by_cases h5 : x.k = p.k
        · rw [show (!decide ((x.k : Int) = (p.k : Int))) = false by simp [h5]]
          repeat refine s1 ?_
          exact j_again (i + 1, false, out, oa, oc) ⟨by omega, by dsimp only; rw [hft]; rw [putS_eq, hst, if_neg (by simp [h5])]⟩ (by dsimp only; omega) ⟨rfl, rfl, rfl, rfl, rfl, rfl, trivial⟩ leD
        · rw [show (!decide ((x.k : Int) = (p.k : Int))) = true by simp; omega]
          repeat refine s1 ?_
          refine ix rfl rfl hi ?_
          repeat refine s1 ?_
          refine r_loadIA (off := lo) (n := l.length) (cap := c) (E := T.casemateref15_Pair) (s := 2) (xs := l.flatMap rpc) (vs := rpc x) rfl (j := i * 2) (by omega) (by rfl) (rpc_all hx) rfl rfl ?_
          refine r_buildA1 (v := rpc x) rfl (by rfl) (by decide) (fun bv => ?_)
          refine r_append (n := out.length) (m := 1) (s := 2) (xs := out.flatMap rpc) (ys := rpc x) rfl rfl (by decide) (by rfl) (by simp [Value.oneCell']) (by omega) (by omega) rfl rfl (fun ob' od' _ => ?_)
          rw [show out.flatMap rpc ++ rpc x = (out ++ [x]).flatMap rpc by simp, show out.length + 1 = (out ++ [x]).length by simp]
          repeat refine s1 ?_
          exact j_again (i + 1, false, out ++ [x], ob', od') ⟨by omega, by dsimp only; rw [hft]; rw [putS_eq, hst, if_pos h5]⟩ (by dsimp only; omega) ⟨rfl, rfl, rfl, rfl, rfl, rfl, trivial⟩ leD
    · have hst : step1 p (true, out) x = (true, out) := by simp [step1]
      have hln2 : out.length ≤ i + 2 := by omega
      repeat refine s1 ?_
      refine ix rfl rfl hi ?_
      repeat refine s1 ?_
      refine r_loadI (off := lo) (n := l.length) (cap := c) (E := T.casemateref15_Pair) (s := 2) (xs := l.flatMap rpc) (v := w64 x.k) rfl (j := i * 2) (by omega) hat.1 rfl rfl ?_
      repeat refine s1 ?_
      refine r_icmp rfl rfl rfl rfl ?_
      by_cases h5 : x.k = p.k
      · rw [show (!decide ((x.k : Int) = (p.k : Int))) = false by simp [h5]]
        repeat refine s1 ?_
        exact j_again (i + 1, true, out, oa, oc) ⟨by omega, by dsimp only; rw [hft]; rw [putS_eq, hst, if_neg (by simp [h5])]⟩ (by dsimp only; omega) ⟨rfl, rfl, rfl, rfl, rfl, rfl, trivial⟩ leD
      · rw [show (!decide ((x.k : Int) = (p.k : Int))) = true by simp; omega]
        repeat refine s1 ?_
        refine ix rfl rfl hi ?_
        repeat refine s1 ?_
        refine r_loadIA (off := lo) (n := l.length) (cap := c) (E := T.casemateref15_Pair) (s := 2) (xs := l.flatMap rpc) (vs := rpc x) rfl (j := i * 2) (by omega) (by rfl) (rpc_all hx) rfl rfl ?_
        refine r_buildA1 (v := rpc x) rfl (by rfl) (by decide) (fun bv => ?_)
        refine r_append (n := out.length) (m := 1) (s := 2) (xs := out.flatMap rpc) (ys := rpc x) rfl rfl (by decide) (by rfl) (by simp [Value.oneCell']) (by omega) (by omega) rfl rfl (fun ob' od' _ => ?_)
        rw [show out.flatMap rpc ++ rpc x = (out ++ [x]).flatMap rpc by simp, show out.length + 1 = (out ++ [x]).length by simp]
        repeat refine s1 ?_
        exact j_again (i + 1, true, out ++ [x], ob', od') ⟨by omega, by dsimp only; rw [hft]; rw [putS_eq, hst, if_pos h5]⟩ (by dsimp only; omega) ⟨rfl, rfl, rfl, rfl, rfl, rfl, trivial⟩ leD
  · have hi : i = l.length := by have := of_decide_eq_false hq; omega
    subst hi
    rw [List.take_length] at h3
    have hpl := putL_eq p l
    rw [← h3] at hpl
    rcases dn with _ | _
    · repeat refine s1 ?_
      refine r_build (cells := rpc p) rfl (by rfl) rfl ?_
      refine r_buildA1 (v := rpc p) rfl (by rfl) (by decide) (fun bv => ?_)
      refine r_append (n := out.length) (m := 1) (s := 2) (xs := out.flatMap rpc) (ys := rpc p) rfl rfl (by decide) (by rfl) (by simp [Value.oneCell']) (by omega) (by omega) rfl rfl (fun oa' oc' _ => ?_)
      rw [show out.flatMap rpc ++ rpc p = (out ++ [p]).flatMap rpc by simp, show out.length + 1 = (out ++ [p]).length by simp]
      repeat refine s1 ?_
      refine jh [rowV oa' (out ++ [p]).length oc' (out ++ [p])] (fz ?_)
      exact f1 (out ++ [p], oa', oc') (hq := hpl.symm)
    · repeat refine s1 ?_
      refine jh [rowV oa out.length oc out] (fz ?_)
      exact f1 (out, oa, oc) (hq := hpl.symm)
end Go.Proofs.YtcnpkmdooekmgaaGreatDoor
namespace Go.Proofs.YtcnpkmdooekmgaaGreatDoor
open Go Sl
theorem imm_isl {b n cap s : Nat} {E U : TypeId} {fr : Nat × Nat} {xs : List Value} (h1 : xs.length = n * s) (h2 : n ≤ cap) (L : List Assn) : Ent (imm b (.cells xs.toArray U fr) :: L) (isl (some ⟨b, 0, none⟩) n cap E s xs :: L) := by
  rintro im h ⟨a1, a2, e1, e2, e3, hb, s⟩
  exact ⟨a1, a2, e1, e2, e3, ⟨h1, h2, .inr ⟨b, 0, _, U, fr, rfl, hb, fun j x hj => by simpa using hj⟩⟩, s⟩
theorem pcell_at {o : KV} (hv : ∀ x ∈ o, x.2.length = 44) {i : Nat} {x : Nat × List Nat} (h : o[i]? = some x) : ∀ (j : Nat) (v : Value), (pcell x)[j]? = some v → (o.flatMap pcell)[i * 45 + j]? = some v := fun j v hj => by
  have hx := hv x (List.mem_of_getElem? h)
  rw [flat_in (f := pcell) (c := 45) (l := o) (fun z hz => by simp [hv z hz]) h (by have := (List.getElem?_eq_some_iff.1 hj).1; simpa [hx] using this)]
  exact hj
section
variable {X : Cx} {e : Env} {L A : List Assn} {S : List Nat} {ops : Array Oper} {k : Nat} {l : List Oper} {R : Act → World → Prop} {d : Nat} {T : TypeId} {pos : String} {af : Array Edge}
end
section
variable {X : Cx} {e : Env} {L A : List Assn} {S : List Nat} {ops : Array Oper} {k : Nat} {l : List Oper} {R : Act → World → Prop} {d : Nat} {T : TypeId} {pos : String} {af : Array Edge}
end
abbrev mkq (key : Nat) (u : List Nat) (t5 : Nat) : RP := ⟨key, u, some ⟨t5, 0, none⟩, 44⟩
attribute [local irreducible] cw sw J Exit.then Exit.inBlock Exit.noGoto bodyPost swG swL permL
theorem as_c (a : Option Addr) (c : Nat) (o : KV) (hl : o.length ≤ 1000000) (hv : ∀ x ∈ o, x.2.length = 44) (Φ : Base) :
    Sl.Fn Tryz.prog Φ F.casematelaw15_As [.slice a o.length c] [isl a o.length c T.mtree_Pair 45 (o.flatMap pcell)] (fun z : List RP × Option Addr × Nat => kvs z.1 = o) (fun z => .slice z.2.1 z.1.length z.2.2) (fun z => [rowR z.2.1 z.1.length z.2.2 z.1, rvals z.1]) := by
  refine fo fun F => ?_
  repeat refine s1 ?_
  refine j_ent (rowV_nil _) ?_
  refine j_ent (rvals_nil _) ?_
  refine t_loop (σ := Nat × List RP × Option Addr × Nat) (fun z => [(4, i64 z.1), (3, .slice z.2.2.1 z.2.1.length z.2.2.2), (0, .slice a o.length c)]) (fun z => rvals z.2.1 :: rowV z.2.2.1 z.2.1.length z.2.2.2 z.2.1 :: isl a o.length c T.mtree_Pair 45 (o.flatMap pcell) :: F)
    (fun z => z.1 ≤ o.length ∧ kvs z.2.1 = o.take z.1) (fun z => o.length - z.1) (0, [], none, 0) ⟨Nat.zero_le _, rfl⟩ ⟨rfl, rfl, rfl, trivial⟩ leD ?_
  rintro ⟨i, out, oa, oc⟩ ⟨h1, h2⟩
  dsimp only at h1 h2 ⊢
  have hol : out.length = i := by have := congrArg List.length h2; rw [List.length_map, List.length_take_of_le h1] at this; exact this
  refine jh [isl a o.length c T.mtree_Pair 45 (o.flatMap pcell)] (j_leni (fun _ _ hla => ?_))
  repeat refine s1 ?_
  refine r_iop rfl rfl rfl rfl ?_
  repeat refine s1 ?_
  refine t_condSB rfl (fun hq => ?_) (fun hq => ?_)
  · have hi : i < o.length := by have := of_decide_eq_true hq; omega
    obtain ⟨lb, lo, rfl⟩ := hla (by omega)
    obtain ⟨x, hx⟩ : ∃ x, o[i]? = some x := ⟨_, List.getElem?_eq_getElem hi⟩
    obtain ⟨key, u⟩ := x
    have hat := pcell_at hv hx
    have hul : u.length = 44 := hv _ (List.mem_of_getElem? hx)
    have htk : o.take (i + 1) = o.take i ++ [(key, u)] := by rw [List.take_add_one, hx]; rfl
    repeat refine s1 ?_
    refine ix rfl rfl hi ?_
    repeat refine s1 ?_
    refine r_loadIA (off := lo) (n := o.length) (cap := c) (E := T.mtree_Pair) (s := 45) (xs := o.flatMap pcell) (vs := u.map u8) rfl (j := i * 45 + 1) (by omega) (by simp [hul]) (fun j v hj => by rw [Nat.add_assoc, Nat.add_comm 1 j]; exact hat (j + 1) v (by simpa using hj)) rfl rfl ?_
    refine al (cs := z44.map u8) (fun t5 => ?_)
    refine r_storeW (vs := u.map u8) rfl rfl (by simp [hul]) (by rfl) (by simp [Value.oneCell']) rfl ?_
    repeat refine s1 ?_
    refine ix rfl rfl hi ?_
    repeat refine s1 ?_
    refine r_loadI (off := lo) (n := o.length) (cap := c) (E := T.mtree_Pair) (s := 45) (xs := o.flatMap pcell) (v := w64 key) rfl (j := i * 45) (by omega) (hat 0 _ rfl) rfl rfl ?_
    repeat refine s1 ?_
    rw [show (Value.slice (some ⟨t5, 0, none⟩) 44 44) = .slice (some ⟨t5, 0, none⟩) u.length 44 by rw [hul]]
    refine r_build (cells := rpc (mkq key u t5)) rfl (by rfl) rfl ?_
    refine r_buildA1 (v := rpc (mkq key u t5)) rfl (by rfl) (by decide) (fun bv => ?_)
    refine r_append (n := out.length) (m := 1) (s := 2) (xs := out.flatMap rpc) (ys := rpc (mkq key u t5)) rfl rfl (by decide) (by rfl) (by simp [Value.oneCell']) (by omega) (by omega) rfl rfl (fun oa' oc' _ => ?_)
    rw [show out.flatMap rpc ++ rpc (mkq key u t5) = (out ++ [mkq key u t5]).flatMap rpc by simp, show out.length + 1 = (out ++ [mkq key u t5]).length by simp]
    repeat refine s1 ?_
    refine j_freeze t5 ?_
    refine j_ent (imm_isl (n := u.length) (cap := 44) (E := T.uint8) (s := 1) (by simp) (by omega) _) ?_
    refine js [valA (mkq key u t5)] (B := rvals [mkq key u t5]) (fun L => rvals_one _ L) ?_
    refine js [rvals out, rvals [mkq key u t5]] (B := rvals (out ++ [mkq key u t5])) (fun L => rvals_app _ _ L) ?_
    exact j_again (i + 1, out ++ [mkq key u t5], oa', oc') ⟨by omega, by dsimp only; rw [htk, ← h2]; simp [kvs]⟩ (by dsimp only; omega) ⟨rfl, rfl, rfl, trivial⟩ leD
  · have hi : i = o.length := by have := of_decide_eq_false hq; omega
    subst hi
    rw [List.take_length] at h2
    repeat refine s1 ?_
    refine jh [rowV oa out.length oc out] (fz ?_)
    exact f1 (out, oa, oc) (hq := h2)
end Go.Proofs.YtcnpkmdooekmgaaGreatDoor
namespace Go.Proofs.YtcnpkmdooekmgaaGreatDoor
open Go Sl
def valL (by_ key : Nat) : List Nat := by_ :: (key % 256) :: (List.replicate 41 0 ++ [by_])
theorem valL_bytes {b k : Nat} (h : b < 256) : bytes 44 (valL b k) := ⟨by simp [valL], fun x hx => by
  simp only [valL, List.mem_cons, List.mem_append, List.mem_replicate, List.not_mem_nil, or_false] at hx
  omega⟩
section
variable {X : Cx} {e : Env} {L A : List Assn} {S : List Nat} {ops : Array Oper} {k : Nat} {l : List Oper} {R : Act → World → Prop} {d : Nat} {T : TypeId} {pos : String} {af : Array Edge}
theorem r_buildF {t : TypeId} {parts : Array (Nat × Operand)} {vs : List (Nat × Value)} {cells : List Value} (hp : evP e parts.toList = some vs) (hb : X.P.built t vs = some cells.toArray)
    (h : J X ((d, .agg cells.toArray) :: e) L (sw X.P (Holds X.Φ A) S ops R (k + 1) l)) (hd : Nat.blt d X.n = true := by rfl) : J X e L (sw X.P (Holds X.Φ A) S ops R k (⟨some d, .build t parts, T, pos, af, none⟩ :: l)) :=
  r_pure rfl (fun a m w => by
    have e1 : (parts.map fun (i, x) => (i, a.eval x)).toList = vs := by rw [← m.evP hp, Array.toList_map]
    have h1 : (Instr.build t (parts.map fun (i, x) => (i, a.eval x))).run X.P w = .ok (.agg cells.toArray) w := run_build w t _ _ (by rw [e1, hb])
    simp only [execOp, Sem.run_bind, h1, Result.andThen_ok, Sem.run_pure]) hd h
end
theorem wrap8 (k : Nat) : IntKind.u8.wrap (k : Int) = ((k % 256 : Nat) : Int) := by simp [IntKind.wrap, IntKind.signed, IntKind.bits]
theorem built51 (u v w : Value) (hu : u.cells = #[u]) (hv : v.cells = #[v]) (hw : w.cells = #[w]) : Program.built Tryz.prog 51 [(0, u), (1, v), (43, w)] = some ([u, v] ++ List.replicate 41 (u8 0) ++ [w]).toArray := by
  have h1 : Program.built Tryz.prog 51 [(0, u), (1, v), (43, w)] = Instr.fill (fun i => some (i * 1, 1)) (List.replicate 44 (u8 0)).toArray [(0, u), (1, v), (43, w)] := by kernel_rfl
  rw [h1]
  simp [Instr.fill, hu, hv, hw]
  done
attribute [local irreducible] cw sw J Exit.then Exit.inBlock Exit.noGoto bodyPost swG swL permL
theorem val_c (b k : Nat) (Φ : Base) : Sl.Fn Tryz.prog Φ F.casematelaw15_Val [u8 b, w64 k] [] (fun _ : Unit => True) (fun _ => v44 (valL b k)) (fun _ => []) := by
  refine fo fun F => ?_
  repeat refine s1 ?_
  refine al (cs := z44.map u8) (fun t4 => ?_)
  repeat refine s1 ?_
  rw [wrap8]
  refine r_buildF (cells := (valL b k).map u8) rfl ?_ ?_
  · rw [built51 _ _ _ rfl rfl rfl]; simp [valL]
  refine r_storeW (vs := (valL b k).map u8) rfl rfl (by rfl) (by rfl) (by simp [Value.oneCell']) rfl ?_
  repeat refine s1 ?_
  exact j_fin rfl (.cons (rv_agg (l := (valL b k).map u8) (U := T.a44_uint8) (fr := (0, 0)) rfl (by rfl)) .nil) () rfl trivial
abbrev Dk0 (n : Nat) : Dk := ⟨n, fun _ => none, fun _ => none, [], reg0, 0, false, 0, false⟩
theorem begin_c (n : Nat) (h1 : 1 ≤ n) (h2 : n ≤ 60000) (Φ : Base) : Sl.Fn Tryz.prog Φ F.casematelaw15_Begin [i64 n] [] (fun _ : Nat × Nat × Nat => True) (fun z => .tuple #[ptr z.1, ptr z.2.1, .bool true]) (fun z => [store z.2.1 (St0 z.1 z.2.2 3 n), disk z.1 (Dk0 (n + 3)), hlog z.2.2 0]) := by
  refine fo fun F => ?_
  repeat refine s1 ?_
  refine r_addN (m := n) (n := 3) rfl rfl (by omega) rfl ?_
  refine cx (dnew_c (n + 3) (by omega) (by omega) Φ) (fun pd _ => ?_)
  repeat refine s2 ?_
  refine cx (hlognew_c Φ) (fun pl _ => ?_)
  refine cx (snew_c pd pl 3 n (Dk0 (n + 3)) h1 (by show 3 + n ≤ n + 3; omega) Φ) (fun ps _ => ?_)
  repeat refine s2 ?_
  exact f3 (pd, ps, pl)
theorem all_c (ps pd pl N : Nat) (S : St) (D : Dk) (t : Tre) (ht : TOk S.g t) (hS : S.wf) (ha : Agr S D) (hN : N ≤ 600000000) (hkv : t.kv.length ≤ 1000000) (hpd : S.pd = pd) (hpl : S.pl = pl) (Φ : Base) :
    Sl.Fn Tryz.prog Φ F.casematelaw15_All [ptr t.p] [tree t.p ps t.rt, store ps S, disk pd D, hlog pl N] (fun z : List RP × Option Addr × Nat => (D.down = false ∨ t.rt = none) → kvs z.1 = t.kv) (fun z => .tuple #[.slice z.2.1 z.1.length z.2.2, .bool (decide (D.down = false ∨ t.rt = none))])
      (fun z => [rowR z.2.1 z.1.length z.2.2 z.1, rvals z.1, tree t.p ps t.rt, store ps S, disk pd D, hlog pl (N + t.kv.length + 1)]) := by
  have hall : rngO D t 0 18446744073709551615 1048576 = if D.down = false ∨ t.rt = none then t.kv else [] := by
    have hf : rngL 0 18446744073709551615 1048576 t.kv = t.kv := by
      unfold rngL
      rw [show t.kv.filter (fun x => decide (0 ≤ x.1)) = t.kv from List.filter_eq_self.2 (fun x hx => by simp), List.filter_eq_self.2 (fun x hx => by have := (ht.kvok x hx).1; simp; omega), List.take_of_length_le (by show _ ≤ 1048576; omega)]
    unfold rngO
    rcases hr : t.rt with _ | r
    · simp [ht.nil hr]
    · rcases hd : D.down with _ | _
      · simp [hf]
      · simp
  have hE : rngE D t 0 18446744073709551615 1048576 = if D.down = false ∨ t.rt = none then 0 else 30 := by
    unfold rngE
    rcases hr : t.rt with _ | r
    · simp
    · rcases hd : D.down with _ | _ <;> simp
  have hlen : ∀ x ∈ rngO D t 0 18446744073709551615 1048576, x.2.length = 44 := fun x hx => by
    rw [hall] at hx
    split at hx
    · exact (ht.kvok x hx).2.1
    · cases hx
  have hll : (rngO D t 0 18446744073709551615 1048576).length ≤ 1000000 := by
    rw [hall]
    split
    · exact hkv
    · simp
  refine fo fun F => ?_
  repeat refine s1 ?_
  refine cx (trange_c ps pd pl N 0 18446744073709551615 1048576 S D t ht hS ha hN hkv hpd hpl Φ) (fun x _ => ?_)
  obtain ⟨oa, oc⟩ := x
  dsimp only
  generalize rngO D t 0 18446744073709551615 1048576 = o at hall hlen hll ⊢
  rw [hE]
  refine jh [prow oa o.length oc o] (fz ?_)
  repeat refine s1 ?_
  refine cx (as_c oa oc o hll hlen Φ) (fun z hz => ?_)
  repeat refine s1 ?_
  refine r_icmp rfl rfl rfl rfl ?_
  repeat refine s1 ?_
  exact f2 z (hV := by by_cases hP : D.down = false ∨ t.rt = none <;> simp [hP]) (hq := fun hP => by rw [hall, if_pos hP] at hz; exact hz)
end Go.Proofs.YtcnpkmdooekmgaaGreatDoor
namespace Go.Proofs.YtcnpkmdooekmgaaGreatDoor
open Go Sl
/-- a play: a store and its trees; the disk fails by no plan. -/
structure Lv (pd pl n : Nat) (S : St) (D : Dk) (ts : List Tre) : Prop where
  ok : TsOk S ts
  agr : Agr S D
  cnt : S.cnt = n
  plan : D.plan = false
  up : D.down = false
  pd : S.pd = pd
  pl : S.pl = pl
theorem Lv.begin (pd pl n p : Nat) : Lv pd pl n (St0 pd pl 3 n) (Dk0 (n + 3)) [⟨p, none, []⟩] :=
  ⟨⟨fun s => by simp [hold, hd1], St0_wf _ _ _ _, fun s hs => absurd rfl hs, fun t ht => by simp only [List.mem_singleton] at ht; subst ht; rfl⟩,
    ⟨fun s hs => absurd rfl hs, by show 3 + n ≤ n + 3; omega, by show 0 ≤ _; decide⟩, rfl, rfl, rfl, rfl, rfl⟩
theorem Lv.room {pd pl n : Nat} {S : St} {D : Dk} {ts : List Tre} (h : Lv pd pl n S D ts) : 3 * card S.K ≤ (ts.map fun t => t.kv.length + 2).sum := h.ok.used
/-- a change that had room is done. -/
theorem Lv.done {pd pl n : Nat} {S : St} {D : Dk} {A B : List Tre} {t : Tre} {kv' : KV} {Y : Prop} {x : Nat × Option Rf × St × Dk} (h : Lv pd pl n S D (A ++ t :: B)) (q : TrQ S D A B t kv' Y x) (hr : card S.K + (2 * Nat.log2 t.kv.length + 4) < n) (hy : ¬ Y) :
    x.1 = 0 ∧ Lv pd pl n x.2.2.1 x.2.2.2 (A ++ ⟨t.p, x.2.1, kv'⟩ :: B) := by
  have hu := q.dle.up h.plan
  have h0 : x.1 = 0 := by
    rcases Nat.eq_zero_or_pos x.1 with h0 | h0
    · exact h0
    · rcases (q.er (by omega)).2.2.2 with ⟨_, h1⟩ | ⟨_, h1⟩ | ⟨_, h1⟩
      · rw [h.cnt] at h1; omega
      · rw [hu, h.up] at h1; cases h1
      · exact absurd h1 hy
  exact ⟨h0, q.ok h0, q.agr, q.cnt.trans h.cnt, q.dle.plan.trans h.plan, hu.trans h.up, q.pd.trans h.pd, q.pl.trans h.pl⟩
attribute [local irreducible] cw sw J Exit.then Exit.inBlock Exit.noGoto bodyPost swG swL permL
end Go.Proofs.YtcnpkmdooekmgaaGreatDoor
namespace Go.Proofs.YtcnpkmdooekmgaaGreatDoor
open Go Sl
structure Opn where
  kind : Int
  key : Nat
  to : Nat
  by_ : Nat
  n : Int
structure Opn.wt (o : Opn) : Prop where
  key : o.key < 18446744073709551616
  to : o.to < 18446744073709551616
  by_ : o.by_ < 256
abbrev ocells (o : Opn) : List Value := [.int .i64 o.kind, w64 o.key, w64 o.to, u8 o.by_, .int .i64 o.n]
theorem kvs_filter (p : Nat → Bool) (l : List RP) : kvs (l.filter fun x => p x.k) = (kvs l).filter fun x => p x.1 := by
  rw [kvs, kvs, List.filter_map]; rfl
theorem rngO_up {D : Dk} {t : Tre} {g : Gd} (ht : TOk g t) (hd : D.down = false) (a b : Nat) (n : Int) : rngO D t a b n = rngL a b n t.kv := by
  unfold rngO
  split
  · rfl
  · rename_i h
    unfold rngL
    by_cases h1 : t.rt.isSome = true
    · by_cases h2 : n < 1
      · rw [show n.toNat = 0 by omega, List.take_zero]
      · by_cases h3 : b < a
        · rw [List.filter_eq_nil_iff.2 (fun x hx => by have := (List.mem_filter.1 hx).2; simp at this ⊢; omega)]; simp
        · exact absurd ⟨h1, h2, h3, hd⟩ h
    · have : t.kv = [] := Decidable.byContradiction fun h0 => h1 (ht.has.2 h0)
      rw [this]; simp
theorem rngL_kvs (l : List RP) (a b : Nat) (n : Int) : kvs ((l.filter (inR a b)).take n.toNat) = rngL a b n (kvs l) := by
  rw [rngL, List.filter_filter, kvs, List.map_take, ← kvs]
  congr 1
  rw [show inR a b = fun x : RP => (fun k => decide (a ≤ k) && decide (k ≤ b)) x.k from rfl, kvs_filter fun k => decide (a ≤ k) && decide (k ≤ b)]
  congr 1
  funext x
  rw [Bool.and_comm]
attribute [local irreducible] cw sw J Exit.then Exit.inBlock Exit.noGoto bodyPost swG swL permL
end Go.Proofs.YtcnpkmdooekmgaaGreatDoor
namespace Go.Proofs.YtcnpkmdooekmgaaGreatDoor
open Go Sl
theorem ocells_at {os : List Opn} {i : Nat} {o : Opn} (h : os[i]? = some o) : ∀ (j : Nat) (v : Value), (ocells o)[j]? = some v → (os.flatMap ocells)[i * 5 + j]? = some v := fun j v hv => by
  rw [flat_in (f := ocells) (c := 5) (l := os) (fun _ _ => rfl) h (by have := (List.getElem?_eq_some_iff.1 hv).1; simpa using this)]
  exact hv
attribute [local irreducible] cw sw J Exit.then Exit.inBlock Exit.noGoto bodyPost swG swL permL
end Go.Proofs.YtcnpkmdooekmgaaGreatDoor
namespace Go.Proofs.YtcnpkmdooekmgaaGreatDoor
open Go Sl
abbrev Fd := Nat × (Nd × NR)
/-- what was found stands there, and its kids were found. -/
structure FOk (g : Gd) (f c : Nat) (l : List Fd) : Prop where
  nd : (l.map Prod.fst).Nodup
  at' : ∀ e ∈ l, g.K e.1 = some (secs e.2.1) ∧ e.2.1.wt ∧ e.2.1.kids.length ≤ 11 ∧ f ≤ e.1 ∧ e.1 < f + c
  closed : ∀ e ∈ l, ∀ k ∈ secs e.2.1, k ∈ l.map Prod.fst
theorem aset_mem {β : Type} {l : List (Nat × β)} {k : Nat} {x : β} : ∀ y ∈ aset l k x, y = (k, x) ∨ y ∈ l := by
  induction l with
  | nil => intro y hy; simp [aset] at hy; exact .inl hy
  | cons p l ih =>
    intro y hy
    unfold aset at hy
    split at hy
    · simp only [List.mem_cons] at hy ⊢
      rcases hy with rfl | hy
      · exact .inl rfl
      · exact .inr (.inr hy)
    · simp only [List.mem_cons] at hy ⊢
      rcases hy with rfl | hy
      · exact .inr (.inl rfl)
      · exact (ih y hy).imp id .inr
theorem aset_keys {β : Type} {l : List (Nat × β)} {k : Nat} {x : β} : ∀ s, s ∈ (aset l k x).map Prod.fst ↔ s = k ∨ s ∈ l.map Prod.fst := by
  induction l with
  | nil => intro s; simp [aset]
  | cons p l ih =>
    intro s
    unfold aset
    split
    · rename_i e
      simp only [List.map_cons, List.mem_cons]
      constructor
      · rintro (h | h)
        · exact .inl h
        · exact .inr (.inr h)
      · rintro (h | h | h)
        · exact .inl h
        · exact .inl (by rw [h]; first | exact e | exact eq_of_beq e)
        · exact .inr h
    · simp only [List.map_cons, List.mem_cons, ih]
      constructor
      · rintro (h | h | h)
        · exact .inr (.inl h)
        · exact .inl h
        · exact .inr (.inr h)
      · rintro (h | h | h)
        · exact .inr (.inl h)
        · exact .inl h
        · exact .inr (.inr h)
theorem FOk.add {g : Gd} {f c : Nat} {l : List Fd} (h : FOk g f c l) {s : Nat} {n : Nd} {y : NR} (hK : g.K s = some (secs n)) (hw : n.wt) (hk : n.kids.length ≤ 11) (h1 : f ≤ s) (h2 : s < f + c) (hc : ∀ k ∈ secs n, k ∈ l.map Prod.fst) : FOk g f c (aset l s (n, y)) := by
  refine ⟨(Rep.set (l := l) (f := alook l) ⟨h.nd, fun _ => rfl⟩ s (n, y)).nd, fun e he => ?_, fun e he k hk' => ?_⟩
  · rcases aset_mem e he with rfl | he
    · exact ⟨hK, hw, hk, h1, h2⟩
    · exact h.at' e he
  · refine (aset_keys k).2 (.inr ?_)
    rcases aset_mem e he with rfl | he
    · exact hc k hk'
    · exact h.closed e he k hk'
/-- light steps, up to a block. -/
theorem s3 {G R : Prop} (k : R) (h : R → G := by intro k; (first | refine r_nil ?_ | (refine k_move ?_; refine r_move rfl rfl ?_) | (refine k_assign ?_; refine r_assign rfl rfl ?_) | (refine k_nck ?_; first | refine r_nck rfl rfl ?_ | refine r_nckf rfl rfl ?_) | (refine k_fld ?_; first | refine r_fld0 rfl rfl ?_ | refine r_fld rfl rfl ?_) | (refine k_load ?_; first | refine r_load1L rfl rfl rfl ?_ | refine s_load1L rfl rfl rfl ?_ | refine r_load1 rfl rfl rfl rfl ?_ | refine r_loadW rfl rfl rfl rfl ?_ | refine s_loadW rfl rfl rfl rfl ?_) | (refine k_ext ?_; first | refine r_extL rfl rfl ?_ | refine r_ext rfl rfl rfl ?_) | (refine k_len ?_; refine r_lenS rfl rfl ?_) | (refine k_ixA ?_; refine ixA rfl rfl rfl rfl ?_) | (refine k_un ?_; first | refine r_notT rfl (by with_reducible rfl) rfl ?_ | refine r_notF rfl (by with_reducible rfl) rfl ?_ | refine r_not rfl rfl ?_) | (refine k_sl0 ?_; refine r_sliceA rfl (by decide) rfl ?_) | (refine k_conv ?_; refine r_conv rfl rfl ?_) | (refine k_pick ?_; first | refine r_pickT rfl (by with_reducible rfl) rfl rfl ?_ | refine r_pickF rfl (by with_reducible rfl) rfl rfl ?_) | (refine k_inc ?_; refine r_inc rfl (by clear k; omega) rfl ?_) | (refine k_eql ?_; first | refine r_peqS rfl rfl rfl ?_ | refine r_peqN rfl rfl rfl ?_ | refine r_meqS rfl rfl rfl ?_ | refine r_meqN rfl rfl rfl ?_ | refine r_peq rfl rfl rfl ?_) | (refine k_neq ?_; first | refine r_pneS rfl rfl rfl ?_ | refine r_pneN rfl rfl rfl ?_ | refine r_mneS rfl rfl rfl ?_ | refine r_mneN rfl rfl rfl ?_ | refine r_pne rfl rfl rfl ?_) | (refine g_mark ?_; first | refine gg_pass rfl rfl (by with_reducible rfl) ?_ | refine gg_skipT rfl rfl (by with_reducible rfl) (blt_any rfl) ?_ | refine gg_skipF rfl rfl (by with_reducible rfl) (blt_any rfl) ?_ | refine gg_skipU rfl rfl (by with_reducible rfl) (blt_any rfl) ?_) | refine t_seq ?_ | refine t_perm rfl ?_ | refine t_permE ?_ | refine j_then ?_ | refine t_region ?_ | refine t_draw [] [] mixed (by decide +kernel) ?_ | (refine k_cond ?_; first | refine t_condT rfl (by with_reducible rfl) ?_ | refine t_condF rfl (by with_reducible rfl) ?_) | refine j_in ?_ | refine t_skip ?_ | refine t_ret ?_ | refine j_then_ret ?_ | refine j_in_ret ?_ | refine t_exit ?_ | refine j_then_exit ?_ | refine j_in_exit ?_ | refine j_in_other rfl ?_ | refine t_scope ?_ | refine t_label ?_ | refine j_ng ?_ | refine j_ng_ret ?_ | refine j_ng_exit ?_); exact k) : G := h k
end Go.Proofs.YtcnpkmdooekmgaaGreatDoor
namespace Go.Proofs.YtcnpkmdooekmgaaGreatDoor
open Go Sl
attribute [local irreducible] cw sw J Exit.then Exit.inBlock Exit.noGoto bodyPost swG swL permL
end Go.Proofs.YtcnpkmdooekmgaaGreatDoor
namespace Go.Proofs.YtcnpkmdooekmgaaGreatDoor
open Go Sl
theorem FOk.len {g : Gd} {f c : Nat} {l : List Fd} (h : FOk g f c l) : l.length ≤ c := by
  have := sub_len (a := l.map Prod.fst) (b := (List.range c).map (f + ·)) h.nd (fun x hx => by
    obtain ⟨e, he, rfl⟩ := List.mem_map.1 hx
    have := h.at' e he
    exact List.mem_map.2 ⟨e.1 - f, by simp; omega, by omega⟩)
  simpa using this
attribute [local irreducible] cw sw J Exit.then Exit.inBlock Exit.noGoto bodyPost swG swL permL
end Go.Proofs.YtcnpkmdooekmgaaGreatDoor
namespace Go.Proofs.YtcnpkmdooekmgaaGreatDoor
open Go Sl
section
variable {X : Cx} {e : Env} {L A : List Assn} {S : List Nat} {ops : Array Oper} {k : Nat} {l : List Oper} {R : Act → World → Prop} {d : Nat} {T : TypeId} {pos : String} {af : Array Edge}
end
attribute [local irreducible] cw sw J Exit.then Exit.inBlock Exit.noGoto bodyPost swG swL permL
end Go.Proofs.YtcnpkmdooekmgaaGreatDoor
namespace Go.Proofs.YtcnpkmdooekmgaaGreatDoor
open Go Sl
theorem Lv.any {pd pl n : Nat} {S : St} {D : Dk} {A B : List Tre} {t : Tre} {kv' : KV} {Y : Prop} {x : Nat × Option Rf × St × Dk} (h : Lv pd pl n S D (A ++ t :: B)) (q : TrQ S D A B t kv' Y x) :
    ∃ kv2, (kv2 = kv' ∨ kv2 = t.kv) ∧ Lv pd pl n x.2.2.1 x.2.2.2 (A ++ ⟨t.p, x.2.1, kv2⟩ :: B) := by
  have hu := q.dle.up h.plan
  by_cases h0 : x.1 = 0
  · exact ⟨kv', .inl rfl, q.ok h0, q.agr, q.cnt.trans h.cnt, q.dle.plan.trans h.plan, hu.trans h.up, q.pd.trans h.pd, q.pl.trans h.pl⟩
  · obtain ⟨e1, e2, _⟩ := q.er h0
    exact ⟨t.kv, .inr rfl, by rw [e1]; exact e2, q.agr, q.cnt.trans h.cnt, q.dle.plan.trans h.plan, hu.trans h.up, q.pd.trans h.pd, q.pl.trans h.pl⟩
theorem Lv.step {pd pl n : Nat} {S : St} {D : Dk} {A B : List Tre} {t : Tre} {kv' : KV} {Y : Prop} {x : Nat × Option Rf × St × Dk} (h : Lv pd pl n S D (A ++ t :: B)) (q : TrQ S D A B t kv' Y x) {m : Nat} (h1 : t.kv.length ≤ m) (h2 : kv'.length ≤ m) :
    ∃ kv2 : KV, Lv pd pl n x.2.2.1 x.2.2.2 (A ++ ⟨t.p, x.2.1, kv2⟩ :: B) ∧ kv2.length ≤ m ∧ x.2.2.2.waits.length ≤ D.waits.length + 70 := by
  obtain ⟨kv2, h8, h9⟩ := h.any q
  refine ⟨kv2, h9, ?_, q.dle.len⟩
  rcases h8 with rfl | rfl
  · exact h2
  · exact h1
section
variable {X : Cx} {e : Env} {L F : List Assn}
end
attribute [local irreducible] cw sw J Exit.then Exit.inBlock Exit.noGoto bodyPost swG swL permL
end Go.Proofs.YtcnpkmdooekmgaaGreatDoor
namespace Go.Proofs.YtcnpkmdooekmgaaGreatDoor
open Go Sl
attribute [local irreducible] cw sw J Exit.then Exit.inBlock Exit.noGoto bodyPost swG swL permL
end Go.Proofs.YtcnpkmdooekmgaaGreatDoor
namespace Go.Proofs.YtcnpkmdooekmgaaGreatDoor
open Go Sl
attribute [local irreducible] cw sw J Exit.then Exit.inBlock Exit.noGoto bodyPost swG swL permL
end Go.Proofs.YtcnpkmdooekmgaaGreatDoor
namespace Go.Proofs.YtcnpkmdooekmgaaGreatDoor
open Go Sl
attribute [local irreducible] cw sw J Exit.then Exit.inBlock Exit.noGoto bodyPost swG swL permL
end Go.Proofs.YtcnpkmdooekmgaaGreatDoor
namespace Go.Proofs.YtcnpkmdooekmgaaGreatDoor
open Go Sl
attribute [local irreducible] cw sw J Exit.then Exit.inBlock Exit.noGoto bodyPost swG swL permL
end Go.Proofs.YtcnpkmdooekmgaaGreatDoor
namespace Go.Proofs.YtcnpkmdooekmgaaGreatDoor
open Go Sl
/-- a play on a disk that may fail. -/
structure Gv (pd pl : Nat) (S : St) (D : Dk) (t : Tre) : Prop where
  ok : TsOk S [t]
  agr : Agr S D
  pd : S.pd = pd
  pl : S.pl = pl
theorem Gv.done {pd pl : Nat} {S : St} {D : Dk} {t : Tre} {kv' : KV} {Y : Prop} {x : Nat × Option Rf × St × Dk} (h : Gv pd pl S D t) (q : TrQ S D [] [] t kv' Y x) (h0 : x.1 = 0) : Gv pd pl x.2.2.1 x.2.2.2 ⟨t.p, x.2.1, kv'⟩ :=
  ⟨q.ok h0, q.agr, q.pd.trans h.pd, q.pl.trans h.pl⟩
attribute [local irreducible] cw sw J Exit.then Exit.inBlock Exit.noGoto bodyPost swG swL permL
end Go.Proofs.YtcnpkmdooekmgaaGreatDoor
namespace Go.Proofs.YtcnpkmdooekmgaaGreatDoor
open Go Sl
def insAll (xs kv : KV) : KV := xs.foldl (fun kv x => ins x.1 x.2 kv) kv
def delAll (xs kv : KV) : KV := xs.foldl (fun kv x => del x.1 kv) kv
abbrev sumL (ts : List Tre) : Nat := (ts.map fun t => t.kv.length + 2).sum
/-- what comes of many changes of one tree: all of them, or some till one was refused. -/
structure AllQ (n : Nat) (S : St) (D : Dk) (A B : List Tre) (p : Nat) (kv kv' : KV) (x : Nat × Option Rf × St × Dk × KV) : Prop where
  pd : x.2.2.1.pd = S.pd
  pl : x.2.2.1.pl = S.pl
  frm : x.2.2.1.frm = S.frm
  cnt : x.2.2.1.cnt = S.cnt
  agr : Agr x.2.2.1 x.2.2.2.1
  plan : x.2.2.2.1.plan = D.plan
  size : x.2.2.2.1.size = D.size
  up : D.plan = false → x.2.2.2.1.down = D.down
  waits : x.2.2.2.1.waits.length ≤ D.waits.length + 70 * n
  ok : TsOk x.2.2.1 (A ++ ⟨p, x.2.1, x.2.2.2.2⟩ :: B)
  done : x.1 = 0 → x.2.2.2.2 = kv'
  len : x.2.2.2.2.length ≤ kv.length + n
  er : x.1 ≠ 0 → x.1 = 5 ∧ 3 * S.cnt ≤ sumL (A ++ B) + (kv.length + n + 2) + 3 * (2 * Nat.log2 (kv.length + n) + 4) ∨ x.1 = 30 ∧ x.2.2.2.1.down = true
theorem log_mono {a b : Nat} (h : a ≤ b) : Nat.log2 a ≤ Nat.log2 b := by
  by_cases h0 : a = 0
  · subst h0; exact Nat.zero_le _
  · rw [Nat.le_log2 (by omega)]
    exact Nat.le_trans ((Nat.le_log2 h0).1 (Nat.le_refl _)) h
theorem AllQ.begin {S : St} {D : Dk} {A B : List Tre} {t : Tre} (h : TsOk S (A ++ t :: B)) (a : Agr S D) (kv' : KV) (n : Nat) (h0 : t.kv = kv') : AllQ n S D A B t.p t.kv kv' (0, t.rt, S, D, t.kv) :=
  ⟨rfl, rfl, rfl, rfl, a, rfl, rfl, fun _ => rfl, by dsimp only; omega, h, fun _ => h0, by dsimp only; omega, fun h => absurd rfl h⟩
theorem sumL_mid (A B : List Tre) (t : Tre) : sumL (A ++ t :: B) = sumL (A ++ B) + (t.kv.length + 2) := by
  simp only [sumL, List.map_append, List.map_cons, List.sum_append, List.sum_cons]; omega
/-- one more change. -/
theorem AllQ.step {n : Nat} {S S1 S2 : St} {D D1 D2 : Dk} {A B : List Tre} {p : Nat} {kv kv1 kv2 kvm : KV} {o1 o2 : Option Rf} {e2 : Nat} {Y : Prop} (q : AllQ n S D A B p kv kvm (0, o1, S1, D1, kv1)) (c : TrQ S1 D1 A B ⟨p, o1, kv1⟩ kv2 Y (e2, o2, S2, D2)) (hl : kv2.length ≤ kv1.length + 1) (hY : e2 = 4 → False)
    (kv' : KV) (hk : e2 = 0 → kv2 = kv') : AllQ (n + 1) S D A B p kv kv' (e2, o2, S2, D2, if e2 = 0 then kv2 else kv1) := by
  have hn := q.len
  have hw := q.waits
  have hcw := c.dle.len
  dsimp only at hn hw hcw
  refine ⟨c.pd.trans q.pd, c.pl.trans q.pl, c.frm.trans q.frm, c.cnt.trans q.cnt, c.agr, c.dle.plan.trans q.plan, c.dle.size.trans q.size, fun h => (c.dle.up (q.plan.trans h)).trans (q.up h), by dsimp only; omega, ?_, fun h0 => ?_, ?_, fun h0 => ?_⟩
  · dsimp only
    by_cases h0 : e2 = 0
    · rw [if_pos h0]; exact c.ok h0
    · rw [if_neg h0]
      have := c.er h0
      dsimp only at this
      rw [this.1]; exact this.2.1
  · dsimp only at h0 ⊢
    rw [if_pos h0]; exact hk h0
  · dsimp only
    split <;> omega
  · dsimp only at h0 ⊢
    have h4 := (c.er h0).2.2.2
    dsimp only at h4
    rcases h4 with ⟨h5, h6⟩ | h6 | ⟨h6, _⟩
    · refine .inl ⟨h5, ?_⟩
      have hu := q.ok.used
      dsimp only at hu
      have h7 := sumL_mid A B ⟨p, o1, kv1⟩
      dsimp only [sumL] at h7 ⊢
      have h8 := log_mono (show kv1.length ≤ kv.length + (n + 1) by omega)
      have h9 : S1.cnt = S.cnt := q.cnt
      omega
    · exact .inr h6
    · exact (hY h6).elim
theorem AllQ.same {n : Nat} {S S1 S2 : St} {D D1 D2 : Dk} {A B : List Tre} {p : Nat} {kv kv1 kv2 kvm : KV} {o1 o2 : Option Rf} {Y : Prop} (q : AllQ n S D A B p kv kvm (0, o1, S1, D1, kv1)) (c : TrQ S1 D1 A B ⟨p, o1, kv1⟩ kv2 Y (4, o2, S2, D2))
    (kv' : KV) (hk : kv1 = kv') : AllQ (n + 1) S D A B p kv kv' (0, o2, S2, D2, kv1) := by
  have hn := q.len
  have hw := q.waits
  have hcw := c.dle.len
  dsimp only at hn hw hcw
  have h4 := c.er (Nat.succ_ne_zero 3)
  dsimp only at h4
  exact ⟨c.pd.trans q.pd, c.pl.trans q.pl, c.frm.trans q.frm, c.cnt.trans q.cnt, c.agr, c.dle.plan.trans q.plan, c.dle.size.trans q.size, fun h => (c.dle.up (q.plan.trans h)).trans (q.up h), by dsimp only; omega, by dsimp only; rw [h4.1]; exact h4.2.1, fun _ => hk, by dsimp only; omega, fun h => absurd rfl h⟩
theorem AllQ.mono {n m : Nat} {S : St} {D : Dk} {A B : List Tre} {p : Nat} {kv kv' kv2 : KV} {x : Nat × Option Rf × St × Dk × KV} (q : AllQ n S D A B p kv kv' x) (h : n ≤ m) (h0 : x.1 ≠ 0) : AllQ m S D A B p kv kv2 x :=
  ⟨q.pd, q.pl, q.frm, q.cnt, q.agr, q.plan, q.size, q.up, by have := q.waits; omega, q.ok, fun h1 => absurd h1 h0, by have := q.len; omega, fun h1 => (q.er h1).imp (fun ⟨a, b⟩ => ⟨a, by have := log_mono (show kv.length + n ≤ kv.length + m by omega); omega⟩) id⟩
theorem insAll_snoc (xs : KV) (i : Nat) (x : Nat × List Nat) (h : xs[i]? = some x) (kv : KV) : insAll (xs.take (i + 1)) kv = ins x.1 x.2 (insAll (xs.take i) kv) := by
  rw [List.take_add_one, h]; simp [insAll, List.foldl_append]
theorem delAll_snoc (xs : KV) (i : Nat) (x : Nat × List Nat) (h : xs[i]? = some x) (kv : KV) : delAll (xs.take (i + 1)) kv = del x.1 (delAll (xs.take i) kv) := by
  rw [List.take_add_one, h]; simp [delAll, List.foldl_append]
abbrev irow (a : Option Addr) (n c : Nat) (l : KV) : Assn := isl a n c T.mtree_Pair 45 (l.flatMap pcell)
attribute [local irreducible] cw sw J Exit.then Exit.inBlock Exit.noGoto bodyPost swG swL permL
theorem istree_c (ps pd pl N : Nat) (S : St) (D : Dk) (t : Tre) (ht : TOk S.g t) (hS : S.wf) (ha : Agr S D) (hN : N ≤ 600000000) (hkv : t.kv.length ≤ 1000000) (hpd : S.pd = pd) (hpl : S.pl = pl) (Φ : Base) :
    Sl.Fn Tryz.prog Φ F.walk_isTree [ptr t.p] [tree t.p ps t.rt, store ps S, disk pd D, hlog pl N] (fun _ : Unit => True) (fun _ => .bool true) (fun _ => [tree t.p ps t.rt, store ps S, disk pd D, hlog pl (N + 200)]) := by
  refine fo fun F => ?_
  repeat refine s1 ?_
  refine cl (tget_c ps pd pl N 0 S D t (by decide) ht hS ha hN hkv hpd hpl Φ) ?_
  have hg : ((get? 0 t.kv).getD z44).length = 44 := by
    rcases hk : get? 0 t.kv with _ | v
    · rfl
    · exact (ht.kvok (0, v) (get_mem hk)).2.1
  by_cases hd : t.rt.isSome ∧ D.down = true
  · rw [if_pos hd]
    repeat refine s1 ?_
    refine al (cs := z44.map u8) (fun t3 => ?_)
    refine r_storeW (vs := z44.map u8) rfl rfl (by rfl) (by rfl) (by simp [Value.oneCell']) rfl ?_
    repeat refine s2 ?_
    exact f1 ()
  · rw [if_neg hd]
    repeat refine s1 ?_
    refine al (cs := z44.map u8) (fun t3 => ?_)
    refine r_storeW (vs := ((get? 0 t.kv).getD z44).map u8) rfl rfl (by simpa using hg) (by rfl) (by simp [Value.oneCell']) rfl ?_
    repeat refine s2 ?_
    exact f1 ()
set_option maxHeartbeats 1000000 in
theorem putall1_c (ps pd pl N tb : Nat) (a : Option Addr) (c : Nat) (xs : KV) (S : St) (D : Dk) (A B : List Tre) (t : Tre) (hxs : KVok xs) (h : TsOk S (A ++ t :: B)) (ha : Agr S D) (hN : N + 200 * xs.length ≤ 500000000) (hwt : D.waits.length + 70 * xs.length ≤ 500000000) (hkv : t.kv.length + xs.length ≤ 1000000) (hl : (A ++ t :: B).length ≤ 1000000) (hpd : S.pd = pd) (hpl : S.pl = pl) (Φ : Base) (hT : Tab Φ) :
    Sl.Fn Tryz.prog Φ 93 [ptr t.p, ptr tb] [irow a xs.length c xs, pt tb (.cells ([.slice a xs.length c] : List Value).toArray T.sl_mtree_Pair (0, 0)), tree t.p ps t.rt, store ps S, disk pd D, hlog pl N]
      (AllQ xs.length S D A B t.p t.kv (insAll xs t.kv)) (fun x => i64 x.1)
      (fun x => [tree t.p ps x.2.1, store ps x.2.2.1, disk pd x.2.2.2.1, hlog pl (N + 200 * xs.length), pt tb (.cells ([.slice a xs.length c] : List Value).toArray T.sl_mtree_Pair (0, 0))]) := by
  have hl44 : ∀ x ∈ xs, x.2.length = 44 := fun x hx => (hxs x hx).2.1
  refine fo fun F => ?_
  repeat refine s1 ?_
  refine jh [irow a xs.length c xs] (j_leni (fun _ _ hra => ?_))
  repeat refine s1 ?_
  refine t_loop (σ := Nat × Option Rf × St × Dk × KV) (fun z => [(9, i64 z.1), (8, i64 xs.length), (7, .slice a xs.length c), (0, ptr t.p), (1, ptr tb)])
    (fun z => irow a xs.length c xs :: pt tb (.cells ([.slice a xs.length c] : List Value).toArray T.sl_mtree_Pair (0, 0)) :: tree t.p ps z.2.1 :: store ps z.2.2.1 :: disk pd z.2.2.2.1 :: hlog pl (N + 200 * z.1) :: F)
    (fun z => z.1 ≤ xs.length ∧ AllQ z.1 S D A B t.p t.kv (insAll (xs.take z.1) t.kv) (0, z.2.1, z.2.2.1, z.2.2.2.1, z.2.2.2.2)) (fun z => xs.length - z.1)
    (0, t.rt, S, D, t.kv) ⟨Nat.zero_le _, AllQ.begin h ha _ 0 (by simp [insAll])⟩ ⟨rfl, rfl, rfl, rfl, rfl, trivial⟩ leD ?_
  rintro ⟨i, o1, S1, D1, kv1⟩ ⟨hi, q⟩
  have hpd1 := q.pd
  have hpl1 := q.pl
  have hw1 := q.waits
  have hn1 := q.len
  have hok1 := q.ok
  have hag1 := q.agr
  dsimp only at hi hpd1 hpl1 hw1 hn1 hok1 hag1 ⊢
  repeat refine s1 ?_
  refine r_icmp rfl rfl rfl rfl ?_
  repeat refine s1 ?_
  refine t_condS rfl (fun hlt => ?_) (fun hge => ?_)
  · have hil : i < xs.length := by omega
    obtain ⟨b, o, rfl⟩ := hra (by omega)
    obtain ⟨⟨k, v⟩, hxi⟩ : ∃ x, xs[i]? = some x := ⟨_, List.getElem?_eq_getElem hil⟩
    have hkv1 := hxs _ (List.mem_of_getElem? hxi)
    have hv44 : v.length = 44 := hkv1.2.1
    repeat refine s1 ?_
    refine ix rfl rfl hil ?_
    refine jh [irow (some ⟨b, o, none⟩) xs.length c xs] ?_
    refine r_loadIA (off := o) (n := xs.length) (cap := c) (E := T.mtree_Pair) (s := 45) (xs := xs.flatMap pcell) (vs := pcell (k, v)) rfl (j := i * 45) (by omega) (by simp [hv44]) (pcell_at hl44 hxi) rfl rfl ?_
    refine al (fun t5 => ?_)
    refine r_storeW (vs := pcell (k, v)) rfl rfl (by simp [hv44]) (by simp) (by simp [Value.oneCell']) rfl ?_
    repeat refine s1 ?_
    refine r_loadA (vs := v.map u8) rfl (by simpa using hv44) (fun j v hj => by rw [List.getElem?_toArray, Nat.add_comm, List.getElem?_cons_succ]; exact hj) rfl rfl ?_
    refine cx (tput_c ps pd pl (N + 200 * i) k v S1 D1 A B ⟨t.p, o1, kv1⟩ hkv1.1 hkv1.2 hok1 hag1 (by omega) (by omega) (by dsimp only; omega) (by simpa using hl) (hpd1.trans hpd) (hpl1.trans hpl) Φ hT) (fun x hx => ?_)
    obtain ⟨e2, o2, S2, D2⟩ := x
    dsimp only at hx ⊢
    repeat refine s1 ?_
    by_cases he : e2 = 0
    · subst he
      repeat refine s2 ?_
      refine jh [hlog pl (N + 200 * i + 200)] (j_ent (hlogUp (N' := N + 200 * (i + 1)) (by omega) _) ?_)
      have hst := q.step hx (ins_len kv1).2 (fun h4 => (by cases h4)) (insAll (xs.take (i + 1)) t.kv) (fun _ => by
        rw [insAll_snoc xs i (k, v) hxi, ← q.done rfl])
      rw [if_pos rfl] at hst
      exact j_again (i + 1, o2, S2, D2, ins k v kv1) ⟨hil, hst⟩ (by dsimp only; omega) ⟨rfl, rfl, rfl, rfl, rfl, trivial⟩ leD
    · refine r_icmp rfl rfl rfl rfl ?_
      rw [show (!decide ((e2 : Int) = 0)) = true by simp [he]]
      repeat refine s1 ?_
      refine jh [hlog pl (N + 200 * i + 200)] (j_ent (hlogUp (N' := N + 200 * xs.length) (by omega) _) ?_)
      have hst := q.step hx (ins_len kv1).2 (fun h4 => by
        have := (hx.er he).2.2.2
        dsimp only at this
        rcases this with ⟨h, _⟩ | ⟨h, _⟩ | ⟨_, h⟩
        · omega
        · omega
        · exact h) (ins k v kv1) (fun _ => rfl)
      rw [if_neg he] at hst
      exact f1 (e2, o2, S2, D2, kv1) (hq := hst.mono hil he)
  · have hil : i = xs.length := by omega
    subst hil
    rw [List.take_length] at q
    repeat refine s1 ?_
    exact f1 (0, o1, S1, D1, kv1) (hq := q)
set_option maxHeartbeats 1000000 in
theorem delall1_c (ps pd pl N tb : Nat) (a : Option Addr) (c : Nat) (xs : KV) (S : St) (D : Dk) (A B : List Tre) (t : Tre) (hxs : KVok xs) (h : TsOk S (A ++ t :: B)) (ha : Agr S D) (hN : N + 200 * xs.length ≤ 500000000) (hwt : D.waits.length + 70 * xs.length ≤ 500000000) (hkv : t.kv.length + xs.length ≤ 1000000) (hl : (A ++ t :: B).length ≤ 1000000) (hpd : S.pd = pd) (hpl : S.pl = pl) (Φ : Base) (hT : Tab Φ) :
    Sl.Fn Tryz.prog Φ 94 [ptr t.p, ptr tb] [irow a xs.length c xs, pt tb (.cells ([.slice a xs.length c] : List Value).toArray T.sl_mtree_Pair (0, 0)), tree t.p ps t.rt, store ps S, disk pd D, hlog pl N]
      (AllQ xs.length S D A B t.p t.kv (delAll xs t.kv)) (fun x => i64 x.1)
      (fun x => [tree t.p ps x.2.1, store ps x.2.2.1, disk pd x.2.2.2.1, hlog pl (N + 200 * xs.length), pt tb (.cells ([.slice a xs.length c] : List Value).toArray T.sl_mtree_Pair (0, 0))]) := by
  have hl44 : ∀ x ∈ xs, x.2.length = 44 := fun x hx => (hxs x hx).2.1
  refine fo fun F => ?_
  repeat refine s1 ?_
  refine jh [irow a xs.length c xs] (j_leni (fun _ _ hra => ?_))
  repeat refine s1 ?_
  refine t_loop (σ := Nat × Option Rf × St × Dk × KV) (fun z => [(10, i64 z.1), (9, i64 xs.length), (8, .slice a xs.length c), (0, ptr t.p), (1, ptr tb)])
    (fun z => irow a xs.length c xs :: pt tb (.cells ([.slice a xs.length c] : List Value).toArray T.sl_mtree_Pair (0, 0)) :: tree t.p ps z.2.1 :: store ps z.2.2.1 :: disk pd z.2.2.2.1 :: hlog pl (N + 200 * z.1) :: F)
    (fun z => z.1 ≤ xs.length ∧ AllQ z.1 S D A B t.p t.kv (delAll (xs.take z.1) t.kv) (0, z.2.1, z.2.2.1, z.2.2.2.1, z.2.2.2.2)) (fun z => xs.length - z.1)
    (0, t.rt, S, D, t.kv) ⟨Nat.zero_le _, AllQ.begin h ha _ 0 (by simp [delAll])⟩ ⟨rfl, rfl, rfl, rfl, rfl, trivial⟩ leD ?_
  rintro ⟨i, o1, S1, D1, kv1⟩ ⟨hi, q⟩
  have hpd1 := q.pd
  have hpl1 := q.pl
  have hw1 := q.waits
  have hn1 := q.len
  have hok1 := q.ok
  have hag1 := q.agr
  dsimp only at hi hpd1 hpl1 hw1 hn1 hok1 hag1 ⊢
  repeat refine s1 ?_
  refine r_icmp rfl rfl rfl rfl ?_
  repeat refine s1 ?_
  refine t_condS rfl (fun hlt => ?_) (fun hge => ?_)
  · have hil : i < xs.length := by omega
    obtain ⟨b, o, rfl⟩ := hra (by omega)
    obtain ⟨⟨k, v⟩, hxi⟩ : ∃ x, xs[i]? = some x := ⟨_, List.getElem?_eq_getElem hil⟩
    have hkv1 := hxs _ (List.mem_of_getElem? hxi)
    have hv44 : v.length = 44 := hkv1.2.1
    repeat refine s1 ?_
    refine ix rfl rfl hil ?_
    refine jh [irow (some ⟨b, o, none⟩) xs.length c xs] ?_
    refine r_loadIA (off := o) (n := xs.length) (cap := c) (E := T.mtree_Pair) (s := 45) (xs := xs.flatMap pcell) (vs := pcell (k, v)) rfl (j := i * 45) (by omega) (by simp [hv44]) (pcell_at hl44 hxi) rfl rfl ?_
    refine al (fun t5 => ?_)
    refine r_storeW (vs := pcell (k, v)) rfl rfl (by simp [hv44]) (by simp) (by simp [Value.oneCell']) rfl ?_
    repeat refine s1 ?_
    refine cx (tdel_c ps pd pl (N + 200 * i) k S1 D1 A B ⟨t.p, o1, kv1⟩ hkv1.1 hok1 hag1 (by omega) (by omega) (by dsimp only; omega) (by simpa using hl) (hpd1.trans hpd) (hpl1.trans hpl) Φ hT) (fun x hx => ?_)
    obtain ⟨e2, o2, S2, D2⟩ := x
    obtain ⟨hx, hx0⟩ := hx
    dsimp only at hx hx0 ⊢
    repeat refine s1 ?_
    by_cases he : e2 = 0
    · subst he
      repeat refine s2 ?_
      refine jh [hlog pl (N + 200 * i + 200)] (j_ent (hlogUp (N' := N + 200 * (i + 1)) (by omega) _) ?_)
      have hst := q.step hx (Nat.le_trans del_le (Nat.le_succ _)) (fun h4 => (by cases h4)) (delAll (xs.take (i + 1)) t.kv) (fun _ => by
        rw [delAll_snoc xs i (k, v) hxi, ← q.done rfl])
      rw [if_pos rfl] at hst
      exact j_again (i + 1, o2, S2, D2, del k kv1) ⟨hil, hst⟩ (by dsimp only; omega) ⟨rfl, rfl, rfl, rfl, rfl, trivial⟩ leD
    · by_cases he4 : e2 = 4
      · subst he4
        have her := hx.er (Nat.succ_ne_zero 3)
        have hY : get? k kv1 = none := by
          have := her.2.2.2
          dsimp only at this
          rcases this with ⟨h, _⟩ | ⟨h, _⟩ | ⟨_, h⟩
          · cases h
          · cases h
          · exact h
        have hd0 : del k kv1 = kv1 := del_none fun y hy hyk => get_iff.1 hY (List.mem_map.2 ⟨y, hy, hyk⟩)
        have hro := her.1
        dsimp only at hro
        repeat refine s2 ?_
        refine jh [hlog pl (N + 200 * i + 200)] (j_ent (hlogUp (N' := N + 200 * (i + 1)) (by omega) _) ?_)
        have hst := q.same hx (delAll (xs.take (i + 1)) t.kv) (by rw [delAll_snoc xs i (k, v) hxi, ← q.done rfl]; exact hd0.symm)
        exact j_again (i + 1, o2, S2, D2, kv1) ⟨hil, hst⟩ (by dsimp only; omega) ⟨rfl, rfl, rfl, rfl, rfl, trivial⟩ leD
      · have hv : delV e2 = .tuple #[.bool (decide (e2 = 0)), i64 e2] := by rw [delV, if_neg he4]
        refine r_icmp rfl rfl rfl rfl ?_
        rw [if_neg he4, show (!decide ((e2 : Int) = 0)) = true by simp [he]]
        repeat refine s1 ?_
        refine jh [hlog pl (N + 200 * i + 200)] (j_ent (hlogUp (N' := N + 200 * xs.length) (by omega) _) ?_)
        have hst := q.step hx (Nat.le_trans del_le (Nat.le_succ _)) (fun h4 => absurd h4 he4) (del k kv1) (fun _ => rfl)
        rw [if_neg he] at hst
        exact f1 (e2, o2, S2, D2, kv1) (hq := hst.mono hil he)
  · have hil : i = xs.length := by omega
    subst hil
    rw [List.take_length] at q
    repeat refine s1 ?_
    exact f1 (0, o1, S1, D1, kv1) (hq := q)
end Go.Proofs.YtcnpkmdooekmgaaGreatDoor
namespace Go.Proofs.YtcnpkmdooekmgaaGreatDoor
open Go Sl
/-- what comes of many changes at once: all, or none. -/
structure WhQ (n : Nat) (S : St) (D : Dk) (A B : List Tre) (t : Tre) (kv' : KV) (x : Nat × Option Rf × St × Dk × KV) : Prop where
  pd : x.2.2.1.pd = S.pd
  pl : x.2.2.1.pl = S.pl
  frm : x.2.2.1.frm = S.frm
  cnt : x.2.2.1.cnt = S.cnt
  agr : Agr x.2.2.1 x.2.2.2.1
  plan : x.2.2.2.1.plan = D.plan
  size : x.2.2.2.1.size = D.size
  up : D.plan = false → x.2.2.2.1.down = D.down
  waits : x.2.2.2.1.waits.length ≤ D.waits.length + 70 * n
  ok : TsOk x.2.2.1 (A ++ ⟨t.p, x.2.1, x.2.2.2.2⟩ :: B)
  done : x.1 = 0 → x.2.2.2.2 = kv'
  er : x.1 ≠ 0 → x.2.1 = t.rt ∧ x.2.2.2.2 = t.kv ∧ (x.1 = 5 ∧ 3 * S.cnt ≤ sumL (A ++ t :: B) + (t.kv.length + n + 2) + 3 * (2 * Nat.log2 (t.kv.length + n) + 4) ∨ x.1 = 30 ∧ x.2.2.2.1.down = true)
abbrev cellV (a : Option Addr) (n c tb : Nat) : Assn := pt tb (.cells ([.slice a n c] : List Value).toArray T.sl_mtree_Pair (0, 0))
attribute [local irreducible] cw sw J Exit.then Exit.inBlock Exit.noGoto bodyPost swG swL permL
set_option maxHeartbeats 1000000 in
theorem wwhole_c (gf : Nat) [TFn Tryz.prog gf] (ps pd pl N tb : Nat) (a : Option Addr) (c : Nat) (xs : KV) (S : St) (D : Dk) (A B : List Tre) (t : Tre) (kv' : KV) (h : TsOk S (A ++ t :: B)) (ha : Agr S D) (hN : N ≤ 500000000) (hkv : t.kv.length ≤ 1000000) (hl : (A ++ t :: B).length ≤ 900000) (hpd : S.pd = pd) (hpl : S.pl = pl) (Φ : Base)
    (hc : ∀ cp, Sl.Fn Tryz.prog Φ gf ([ptr cp] ++ [ptr tb]) [irow a xs.length c xs, cellV a xs.length c tb, tree cp ps t.rt, store ps (S.turn none t.rt), disk pd D, hlog pl (N + 200)] (AllQ xs.length (S.turn none t.rt) D [] (A ++ t :: B) cp t.kv kv') (fun x => i64 x.1)
      (fun x => [tree cp ps x.2.1, store ps x.2.2.1, disk pd x.2.2.2.1, hlog pl (N + 200 + 200 * xs.length), cellV a xs.length c tb])) :
    Sl.Fn Tryz.prog Φ F.walk_whole [ptr t.p, .func (.func gf) #[] [ptr tb].toArray] [irow a xs.length c xs, cellV a xs.length c tb, tree t.p ps t.rt, store ps S, disk pd D, hlog pl N]
      (WhQ xs.length S D A B t kv') (fun x => i64 x.1) (fun x => [tree t.p ps x.2.1, store ps x.2.2.1, disk pd x.2.2.2.1, hlog pl (N + 200 + 200 * xs.length), cellV a xs.length c tb]) := by
  have ht := h.each t (by simp)
  refine fo fun F => ?_
  repeat refine s1 ?_
  refine cl (istree_c ps pd pl N S D t ht h.ok ha (by omega) hkv hpd hpl Φ) ?_
  repeat refine s1 ?_
  refine cx (tclone_c ps S t (oWt_of ht) (fun r hr => tok_root ht hr) (tre_low h (by omega)).1 Φ) (fun cp _ => ?_)
  repeat refine s1 ?_
  refine r_callv rfl (blt_any rfl) rfl rfl (hc cp) (fun x hx => ?_)
  obtain ⟨e, o1, S1, D1, kv1⟩ := x
  have hok := hx.ok
  dsimp only [bnd, List.cons_append, List.nil_append] at hok ⊢
  have hok2 : TsOk S1 ((⟨cp, o1, kv1⟩ :: A) ++ t :: B) := hok
  repeat refine s1 ?_
  by_cases he : e = 0
  · subst he
    repeat refine s2 ?_
    refine cx (tbecome_c ps S1 (⟨cp, o1, kv1⟩ :: A) B t ⟨cp, o1, kv1⟩ hok2 (hok2.each ⟨cp, o1, kv1⟩ (by simp)) (by simp only [List.cons_append, List.length_cons]; omega) Φ) (fun S2 h2 => ?_)
    repeat refine s1 ?_
    have hok3 : TsOk S2 ([] ++ (⟨cp, o1, kv1⟩ : Tre) :: (A ++ ⟨t.p, o1, kv1⟩ :: B)) := h2.ok
    refine cx (tfree_c ps S2 [] (A ++ ⟨t.p, o1, kv1⟩ :: B) ⟨cp, o1, kv1⟩ hok3 Φ) (fun S3 h3 => ?_)
    repeat refine s1 ?_
    exact f1 (0, o1, S3, D1, kv1) (hq := ⟨h3.pd.trans (h2.pd.trans hx.pd), h3.pl.trans (h2.pl.trans hx.pl), h3.frm.trans (h2.frm.trans hx.frm), h3.cnt.trans (h2.cnt.trans hx.cnt), h3.agr _ (h2.agr _ hx.agr), hx.plan, hx.size, hx.up, hx.waits, h3.ok, hx.done, fun h => absurd rfl h⟩)
  · refine r_icmp rfl rfl rfl rfl ?_
    rw [decide_eq_false (show ¬ (e : Int) = 0 by omega)]
    repeat refine s1 ?_
    have hok3 : TsOk S1 ([] ++ (⟨cp, o1, kv1⟩ : Tre) :: (A ++ t :: B)) := hok
    refine cx (tfree_c ps S1 [] (A ++ t :: B) ⟨cp, o1, kv1⟩ hok3 Φ) (fun S3 h3 => ?_)
    repeat refine s1 ?_
    exact f1 (e, t.rt, S3, D1, t.kv) (hq := ⟨h3.pd.trans hx.pd, h3.pl.trans hx.pl, h3.frm.trans hx.frm, h3.cnt.trans hx.cnt, h3.agr _ hx.agr, hx.plan, hx.size, hx.up, hx.waits, h3.ok, fun h => absurd h he, fun _ => ⟨rfl, rfl, hx.er he⟩⟩)
theorem putAll_c (ps pd pl N : Nat) (a : Option Addr) (c : Nat) (xs : KV) (S : St) (D : Dk) (A B : List Tre) (t : Tre) (hxs : KVok xs) (h : TsOk S (A ++ t :: B)) (ha : Agr S D) (hN : N + 200 * xs.length ≤ 400000000) (hwt : D.waits.length + 70 * xs.length ≤ 500000000) (hkv : t.kv.length + xs.length ≤ 1000000) (hl : (A ++ t :: B).length ≤ 900000) (hpd : S.pd = pd) (hpl : S.pl = pl) (Φ : Base) (hT : Tab Φ) :
    Sl.Fn Tryz.prog Φ F.walk_PutAll [ptr t.p, .slice a xs.length c] [irow a xs.length c xs, tree t.p ps t.rt, store ps S, disk pd D, hlog pl N]
      (WhQ xs.length S D A B t (insAll xs t.kv)) (fun x => i64 x.1) (fun x => [tree t.p ps x.2.1, store ps x.2.2.1, disk pd x.2.2.2.1, hlog pl (N + 200 + 200 * xs.length)]) := by
  have ht := h.each t (by simp)
  have hlow := (tre_low h (by omega)).1
  refine fo fun F => ?_
  repeat refine s1 ?_
  refine r_box (cs := [.slice a xs.length c]) rfl rfl rfl rfl (fun t3 => ?_)
  repeat refine s1 ?_
  refine mkf (vs := [ptr t3]) rfl ?_
  refine cx (wwhole_c 93 ps pd pl N t3 a c xs S D A B t (insAll xs t.kv) h ha (by omega) (by omega) hl hpd hpl Φ (fun cp =>
    putall1_c ps pd pl (N + 200) t3 a c xs (S.turn none t.rt) D [] (A ++ t :: B) ⟨cp, t.rt, t.kv⟩ hxs (h.clone (t := ⟨cp, t.rt, t.kv⟩) ht) ⟨ha.sec, ha.size, ha.left⟩ (by omega) (by omega) hkv (by simp only [List.nil_append, List.length_cons]; omega) hpd hpl Φ hT)) (fun x hx => ?_)
  repeat refine s1 ?_
  exact f1 x (hq := hx)
end Go.Proofs.YtcnpkmdooekmgaaGreatDoor
namespace Go.Proofs.YtcnpkmdooekmgaaGreatDoor
open Go Sl
def rngK (a b : Nat) (kv : KV) : KV := (kv.filter fun x => decide (a ≤ x.1)).filter fun x => decide (x.1 ≤ b)
theorem rngK_len {a b : Nat} {kv : KV} : (rngK a b kv).length ≤ kv.length := Nat.le_trans (List.length_filter_le _ _) (List.length_filter_le _ _)
theorem rngK_mem {a b : Nat} {kv : KV} : ∀ x ∈ rngK a b kv, x ∈ kv := fun _x hx => (List.mem_filter.1 (List.mem_filter.1 hx).1).1
theorem rngO_all {D : Dk} {t : Tre} {g : Gd} (ht : TOk g t) (hd : D.down = false) (hkv : t.kv.length ≤ 1000000) (a b : Nat) : rngO D t a b 1073741824 = rngK a b t.kv := by
  rw [rngO_up ht hd, rngL]
  exact List.take_of_length_le (by have := rngK_len (a := a) (b := b) (kv := t.kv); show (rngK a b t.kv).length ≤ 1073741824; omega)
theorem rngE_up {D : Dk} {t : Tre} (hd : D.down = false) (a b : Nat) (n : Int) : rngE D t a b n = 0 := by simp [rngE, hd]
attribute [local irreducible] cw sw J Exit.then Exit.inBlock Exit.noGoto bodyPost swG swL permL
theorem count_c (ps pd pl N a b : Nat) (S : St) (D : Dk) (t : Tre) (ht : TOk S.g t) (hS : S.wf) (ha : Agr S D) (hd : D.down = false) (hN : N ≤ 600000000) (hkv : t.kv.length ≤ 1000000) (hpd : S.pd = pd) (hpl : S.pl = pl) (Φ : Base) :
    Sl.Fn Tryz.prog Φ F.walk_Count [ptr t.p, w64 a, w64 b] [tree t.p ps t.rt, store ps S, disk pd D, hlog pl N] (fun _ : Unit => True) (fun _ => .tuple #[i64 (rngK a b t.kv).length, i64 0]) (fun _ => [tree t.p ps t.rt, store ps S, disk pd D, hlog pl (N + t.kv.length + 1)]) := by
  refine fo fun F => ?_
  repeat refine s1 ?_
  refine cx (trange_c ps pd pl N a b 1073741824 S D t ht hS ha hN hkv hpd hpl Φ) (fun x _ => ?_)
  rw [rngO_all ht hd hkv, rngE_up hd]
  obtain ⟨ra, rc⟩ := x
  dsimp only
  repeat refine s1 ?_
  exact f2 ()
set_option maxHeartbeats 1000000 in
theorem delRange_c (ps pd pl N a b : Nat) (S : St) (D : Dk) (A B : List Tre) (t : Tre) (h : TsOk S (A ++ t :: B)) (ha : Agr S D) (hd : D.down = false) (hN : N + 300 * t.kv.length ≤ 400000000) (hwt : D.waits.length + 70 * t.kv.length ≤ 500000000) (hkv : t.kv.length ≤ 400000) (hl : (A ++ t :: B).length ≤ 900000) (hpd : S.pd = pd) (hpl : S.pl = pl) (Φ : Base) (hT : Tab Φ) :
    Sl.Fn Tryz.prog Φ F.walk_DelRange [ptr t.p, w64 a, w64 b] [tree t.p ps t.rt, store ps S, disk pd D, hlog pl N] (WhQ (rngK a b t.kv).length S D A B t (delAll (rngK a b t.kv) t.kv)) (fun x => .tuple #[i64 (if x.1 = 0 then (rngK a b t.kv).length else 0), i64 x.1])
      (fun x => [tree t.p ps x.2.1, store ps x.2.2.1, disk pd x.2.2.2.1, hlog pl (N + 300 * t.kv.length + 300)]) := by
  have ht := h.each t (by simp)
  have hlow := (tre_low h (by omega)).1
  have hxl := rngK_len (a := a) (b := b) (kv := t.kv)
  have hxs : KVok (rngK a b t.kv) := fun x hx => ht.kvok x (rngK_mem x hx)
  refine fo fun F => ?_
  repeat refine s1 ?_
  refine cx (trange_c ps pd pl N a b 1073741824 S D t ht h.ok ha (by omega) (by omega) hpd hpl Φ) (fun x _ => ?_)
  rw [rngO_all ht hd (by omega), rngE_up hd]
  generalize rngK a b t.kv = xs at hxl hxs ⊢
  obtain ⟨ra, rc⟩ := x
  dsimp only
  refine jh [prow ra xs.length rc xs] (fz ?_)
  repeat refine s1 ?_
  refine al (cs := [.slice none 0 0]) (fun t8 => ?_)
  repeat refine s1 ?_
  refine so rfl rfl ?_
  repeat refine s2 ?_
  refine mkf (vs := [ptr t8]) rfl ?_
  refine cx (wwhole_c 94 ps pd pl (N + t.kv.length + 1) t8 ra rc xs S D A B t (delAll xs t.kv) h ha (by omega) (by omega) hl hpd hpl Φ (fun cp =>
    delall1_c ps pd pl (N + t.kv.length + 1 + 200) t8 ra rc xs (S.turn none t.rt) D [] (A ++ t :: B) ⟨cp, t.rt, t.kv⟩ hxs (h.clone (t := ⟨cp, t.rt, t.kv⟩) ht) ⟨ha.sec, ha.size, ha.left⟩ (by omega) (by omega) (by dsimp only; omega) (by simp only [List.nil_append, List.length_cons]; omega) hpd hpl Φ hT)) (fun x hx => ?_)
  refine jh [hlog pl (N + t.kv.length + 1 + 200 + 200 * xs.length)] (j_ent (hlogUp (N' := N + 300 * t.kv.length + 300) (by omega) _) ?_)
  repeat refine s1 ?_
  by_cases he : x.1 = 0
  · refine r_icmp rfl rfl rfl rfl ?_
    rw [show (!decide ((x.1 : Int) = 0)) = false by simp [he]]
    repeat refine s1 ?_
    exact f2 x (hq := hx) (hV := by rw [if_pos he, he]; rfl)
  · refine r_icmp rfl rfl rfl rfl ?_
    rw [show (!decide ((x.1 : Int) = 0)) = true by simp [he]]
    repeat refine s1 ?_
    exact f2 x (hq := hx) (hV := by rw [if_neg he]; rfl)
end Go.Proofs.YtcnpkmdooekmgaaGreatDoor
namespace Go.Proofs.YtcnpkmdooekmgaaGreatDoor
open Go Sl
def mvK (by_ : Nat) (x : Nat × List Nat) : Nat × List Nat := ((x.1 + by_) % 18446744073709551616, x.2)
theorem Ent.mkV2 {b n nc s : Nat} {E : TypeId} {pre xs post : List Value} (h1 : xs.length = n * s) (h2 : n ≤ nc) (h3 : post.length = (nc - n) * s) (L : List Assn) : Ent (pt b (.cells (pre ++ xs ++ post).toArray E (0, 0)) :: L) (vec (some ⟨b, pre.length, none⟩) n nc E s xs :: L) := by
  rintro im h ⟨p1, p2, pa, pb, pc, hp, st⟩
  exact ⟨p1, p2, pa, pb, pc, ⟨h1, h2, .inr ⟨b, pre.length, pre, post, rfl, rfl, h3, hp⟩⟩, st⟩
theorem mix_len {l : KV} (hl : ∀ x ∈ l, x.2.length = 44) : (l.flatMap pcell).length = l.length * 45 := by
  induction l with
  | nil => rfl
  | cons a l ih =>
    rw [List.flatMap_cons, List.length_append, ih (fun x hx => hl x (by simp [hx]))]
    have := hl a (by simp)
    simp only [List.length_cons, List.length_map, this]; omega
theorem addU64 (m n : Nat) : IntKind.u64.wrap ((m : Int) + (n : Int)) = (((m + n) % 18446744073709551616 : Nat) : Int) := by
  simp [IntKind.wrap, IntKind.signed, IntKind.bits]
theorem mv_set {pre post : List Value} {A B : KV} {k k' : Nat} {v : List Nat} {i : Nat} (hA : A.length = i) (hl : ∀ x ∈ A, x.2.length = 44) :
    (pre ++ (A ++ (k, v) :: B).flatMap pcell ++ post).set (pre.length + i * 45) (w64 k') = pre ++ (A ++ (k', v) :: B).flatMap pcell ++ post := by
  have hf : (A.flatMap pcell).length = i * 45 := by
    subst hA
    induction A with
    | nil => rfl
    | cons a A ih =>
      rw [List.flatMap_cons, List.length_append, ih (fun x hx => hl x (by simp [hx]))]
      have := hl a (by simp)
      simp only [List.length_cons, List.length_map, this]; omega
  rw [List.append_assoc, List.append_assoc, List.set_append_right _ _ (by omega), Nat.add_sub_cancel_left, List.flatMap_append, List.flatMap_append, List.append_assoc, List.append_assoc, List.set_append_right _ _ (by omega), hf, Nat.sub_self, List.flatMap_cons, List.flatMap_cons]
  rfl
theorem mv_at {pre post : List Value} {A B : KV} {k : Nat} {v : List Nat} {i : Nat} (hA : A.length = i) (hl : ∀ x ∈ A, x.2.length = 44) : (pre ++ (A ++ (k, v) :: B).flatMap pcell ++ post)[pre.length + i * 45]? = some (w64 k) := by
  have hs := mv_set (pre := pre) (post := post) (B := B) (k := k) (k' := k) (v := v) hA hl
  rw [← hs, List.getElem?_set_self]
  have hf : (A.flatMap pcell).length = i * 45 := by
    subst hA
    clear hs
    induction A with
    | nil => rfl
    | cons a A ih =>
      rw [List.flatMap_cons, List.length_append, ih (fun x hx => hl x (by simp [hx]))]
      have := hl a (by simp)
      simp only [List.length_cons, List.length_map, this]; omega
  simp only [List.length_append, List.flatMap_append, List.flatMap_cons, List.length_cons]
  omega
attribute [local irreducible] cw sw J Exit.then Exit.inBlock Exit.noGoto bodyPost swG swL permL
set_option maxHeartbeats 1000000 in
theorem move_c (ps pd pl N a b by_ : Nat) (S : St) (D : Dk) (A B : List Tre) (t : Tre) (_hby : by_ < 18446744073709551616) (hb0 : by_ ≠ 0) (h : TsOk S (A ++ t :: B)) (ha : Agr S D) (hd : D.down = false) (hN : N + 300 * t.kv.length ≤ 300000000) (hwt : D.waits.length + 70 * t.kv.length ≤ 500000000) (hkv : t.kv.length ≤ 400000) (hl : (A ++ t :: B).length ≤ 900000) (hpd : S.pd = pd) (hpl : S.pl = pl) (Φ : Base) (hT : Tab Φ) :
    Sl.Fn Tryz.prog Φ F.walk_Move [ptr t.p, w64 a, w64 b, w64 by_] [tree t.p ps t.rt, store ps S, disk pd D, hlog pl N] (WhQ (rngK a b t.kv).length S D A B t (insAll ((rngK a b t.kv).map (mvK by_)) t.kv)) (fun x => .tuple #[i64 (if x.1 = 0 then (rngK a b t.kv).length else 0), i64 x.1])
      (fun x => [tree t.p ps x.2.1, store ps x.2.2.1, disk pd x.2.2.2.1, hlog pl (N + 300 * t.kv.length + 700)]) := by
  have ht := h.each t (by simp)
  have hlow := (tre_low h (by omega)).1
  have hxl := rngK_len (a := a) (b := b) (kv := t.kv)
  have hxs : KVok (rngK a b t.kv) := fun x hx => ht.kvok x (rngK_mem x hx)
  refine fo fun F => ?_
  repeat refine s1 ?_
  refine cl (istree_c ps pd pl N S D t ht h.ok ha (by omega) (by omega) hpd hpl Φ) ?_
  repeat refine s1 ?_
  refine r_icmp rfl rfl rfl rfl ?_
  rw [decide_eq_false (show ¬ (by_ : Int) = 0 by omega)]
  repeat refine s1 ?_
  refine cx (trange_c ps pd pl (N + 200) a b 1073741824 S D t ht h.ok ha (by omega) (by omega) hpd hpl Φ) (fun x _ => ?_)
  rw [rngO_all ht hd (by omega), rngE_up hd]
  generalize rngK a b t.kv = xs at hxl hxs ⊢
  obtain ⟨ra, rc⟩ := x
  dsimp only
  have hx44 : ∀ x ∈ xs, x.2.length = 44 := fun x hx => (hxs x hx).2.1
  have hm44 : ∀ i, ∀ x ∈ (xs.take i).map (mvK by_), x.2.length = 44 := fun i x hx => by
    obtain ⟨y, hy, rfl⟩ := List.mem_map.1 hx
    exact hx44 y (List.mem_of_mem_take hy)
  have hmix : ∀ i, ∀ x ∈ (xs.take i).map (mvK by_) ++ xs.drop i, x.2.length = 44 := fun i x hx => by
    rcases List.mem_append.1 hx with hx | hx
    · exact hm44 i x hx
    · exact hx44 x (List.mem_of_mem_drop hx)
  have hmixl : ∀ i, i ≤ xs.length → ((xs.take i).map (mvK by_) ++ xs.drop i).length = xs.length := fun i hi => by simp; omega
  repeat refine s2 ?_
  refine t_loop (σ := Nat) (fun i => [(33, i64 i), (32, i64 xs.length), (31, .slice ra xs.length rc), (10, .slice ra xs.length rc), (0, ptr t.p), (3, w64 by_)])
    (fun i => prow ra xs.length rc ((xs.take i).map (mvK by_) ++ xs.drop i) :: tree t.p ps t.rt :: store ps S :: disk pd D :: hlog pl (N + 200 + t.kv.length + 1) :: F) (fun i => i ≤ xs.length) (fun i => xs.length - i) 0 (Nat.zero_le _) ⟨rfl, rfl, rfl, rfl, rfl, rfl, trivial⟩ (by rw [List.take_zero, List.map_nil, List.nil_append, List.drop_zero]; exact Le.ent) ?_
  intro i hi
  repeat refine s1 ?_
  refine r_icmp rfl rfl rfl rfl ?_
  repeat refine s1 ?_
  refine t_condS rfl (fun hlt => ?_) (fun hge => ?_)
  · have hil : i < xs.length := by omega
    obtain ⟨⟨k, v⟩, hxi⟩ : ∃ x, xs[i]? = some x := ⟨_, List.getElem?_eq_getElem hil⟩
    have hdr : xs.drop i = (k, v) :: xs.drop (i + 1) := by
      have := (List.getElem?_eq_some_iff.1 hxi).2
      rw [List.drop_eq_getElem_cons hil, this]
    have htk : (xs.take (i + 1)).map (mvK by_) ++ xs.drop (i + 1) = (xs.take i).map (mvK by_) ++ ((k + by_) % 18446744073709551616, v) :: xs.drop (i + 1) := by
      rw [List.take_add_one, hxi]; simp [mvK]
    have hAl : ((xs.take i).map (mvK by_)).length = i := by simp; omega
    have hl1 := mix_len (hmix (i + 1))
    rw [hmixl (i + 1) hil, htk] at hl1
    rw [hdr]
    refine jh [prow ra xs.length rc ((xs.take i).map (mvK by_) ++ (k, v) :: xs.drop (i + 1))] (j_ent (Ent.openV (by omega) _) (j_open fun q hq => ?_))
    obtain ⟨qb, pre, post⟩ := q
    obtain ⟨e1, e2, e3, e4⟩ := hq
    dsimp only [List.cons_append, List.nil_append] at e1 e2 e3 e4 ⊢
    subst e1
    repeat refine s1 ?_
    refine ix rfl rfl hil ?_
    repeat refine s1 ?_
    refine ld (v := w64 k) rfl (mv_at hAl (hm44 i)) ?_
    repeat refine s1 ?_
    refine r_iop (v := w64 ((k + by_) % 18446744073709551616)) rfl rfl (by show some (Value.int .u64 (IntKind.u64.wrap ((k : Int) + (by_ : Int)))) = _; rw [addU64]) rfl ?_
    repeat refine s1 ?_
    refine ix rfl rfl hil ?_
    repeat refine s1 ?_
    refine so (hl := ⟨mv_set hAl (hm44 i)⟩) rfl rfl ?_ (ho := by have := (List.getElem?_eq_some_iff.1 (mv_at (pre := pre) (post := post) (B := xs.drop (i + 1)) (k := k) (v := v) hAl (hm44 i))).1; exact this)
    repeat refine s1 ?_
    refine js [pt qb (.cells (pre ++ ((xs.take i).map (mvK by_) ++ ((k + by_) % 18446744073709551616, v) :: xs.drop (i + 1)).flatMap pcell ++ post).toArray T.mtree_Pair (0, 0))] (fun L => Ent.mkV2 hl1 e4 e2 L) ?_
    refine j_again (i + 1) hil (by omega) ⟨rfl, rfl, rfl, rfl, rfl, rfl, trivial⟩ (by rw [htk]; exact Le.ent)
  · have hil : i = xs.length := by omega
    subst hil
    rw [List.take_length, List.drop_length, List.append_nil]
    have hml : xs.length = (xs.map (mvK by_)).length := by simp
    refine jh [prow ra xs.length rc (xs.map (mvK by_))] (fz ?_)
    repeat refine s1 ?_
    rw [hml]
    refine cx (putAll_c ps pd pl (N + 200 + t.kv.length + 1) ra rc (xs.map (mvK by_)) S D A B t (fun x hx => ?_) h ha (by simp; omega) (by simp; omega) (by simp; omega) hl hpd hpl Φ hT) (fun x hx => ?_)
    · obtain ⟨y, hy, rfl⟩ := List.mem_map.1 hx
      exact ⟨Nat.mod_lt _ (by decide), (hxs y hy).2⟩
    rw [← hml] at hx ⊢
    refine jh [hlog pl (N + 200 + t.kv.length + 1 + 200 + 200 * xs.length)] (j_ent (hlogUp (N' := N + 300 * t.kv.length + 700) (by omega) _) ?_)
    repeat refine s1 ?_
    by_cases he : x.1 = 0
    · refine r_icmp rfl rfl rfl rfl ?_
      rw [show (!decide ((x.1 : Int) = 0)) = false by simp [he]]
      repeat refine s1 ?_
      exact f2 x (hq := hx) (hV := by rw [if_pos he, he]; rfl)
    · refine r_icmp rfl rfl rfl rfl ?_
      rw [show (!decide ((x.1 : Int) = 0)) = true by simp [he]]
      repeat refine s1 ?_
      exact f2 x (hq := hx) (hV := by rw [if_neg he]; rfl)
end Go.Proofs.YtcnpkmdooekmgaaGreatDoor
namespace Go.Proofs.YtcnpkmdooekmgaaGreatDoor
open Go Sl
structure Lo where
  (deep nodes leaves pairs : Nat)
  seen : Bool
  key : Nat
abbrev kcells (ps : Nat) (o : Lo) : List Value := [ptr ps, i64 o.deep, i64 o.nodes, i64 o.leaves, i64 o.pairs, .bool o.seen, w64 o.key, i64 0]
/-- a looker that has found nothing wrong. -/
abbrev lkr (p ps : Nat) (o : Lo) : Assn := pt p (.cells (kcells ps o).toArray T.walk_looker (0, 0))
/-- the last key of some pairs. -/
def lastk (kv : KV) : Nat := (kv.getLast?.map Prod.fst).getD 0
theorem lastk_at {kv : KV} (h : 0 < kv.length) : kv[kv.length - 1]?.map Prod.fst = some (lastk kv) := by
  unfold lastk
  rw [List.getLast?_eq_getElem?]
  rw [List.getElem?_eq_getElem (by omega)]
  rfl
theorem lastk_mem {kv : KV} (h : kv ≠ []) : ∃ x ∈ kv, x.1 = lastk kv := by
  refine ⟨kv.getLast h, List.getLast_mem h, ?_⟩
  rw [lastk, List.getLast?_eq_some_getLast h]; rfl
theorem lastk_app {a b : KV} (h : b ≠ []) : lastk (a ++ b) = lastk b := by
  obtain ⟨x, hx⟩ : ∃ x, b.getLast? = some x := ⟨_, List.getLast?_eq_some_getLast h⟩
  rw [lastk, lastk, List.getLast?_append, hx]; rfl
attribute [local irreducible] cw sw J Exit.then Exit.inBlock Exit.noGoto bodyPost swG swL permL
set_option maxHeartbeats 1000000 in
theorem lkleaf_c (p ps d : Nat) (o : Lo) (kv : KV) (y : NR) (hne : kv ≠ []) (h9 : kv.length ≤ 9) (hd : o.deep = 0 ∨ o.deep = d) (hk : o.seen = true → ∀ x ∈ kv, o.key < x.1) (hb : o.leaves ≤ 1000000 ∧ o.pairs ≤ 10000000) (Φ : Base) :
    Sl.Fn Tryz.prog Φ F.walk_looker_leaf [ptr p, nV (leafN kv) y, i64 d] [lkr p ps o, node (leafN kv) y] (fun _ : Unit => True) (fun _ => .tuple #[]) (fun _ => [lkr p ps ⟨d, o.nodes, o.leaves + 1, o.pairs + kv.length, true, lastk kv⟩]) := by
  obtain ⟨deep, nodes, leaves, pairs, seen, key⟩ := o
  dsimp only at hd hk hb
  have hpos : 0 < kv.length := List.length_pos_iff.2 hne
  have hkl : (leafN kv).keys.length = kv.length := by simp [leafN]
  have hlast : ((leafN kv).keys.map w64)[kv.length - 1]? = some (w64 (lastk kv)) := by
    have := lastk_at hpos
    simp only [leafN, List.map_map, List.getElem?_map]
    rw [List.getElem?_eq_getElem (by omega)] at this ⊢
    simp only [Option.map_some, Option.some.injEq] at this ⊢
    rw [← this]; rfl
  obtain ⟨k0, hk0, hk0m⟩ : ∃ k0, ((leafN kv).keys.map w64)[0]? = some (w64 k0) ∧ ∃ x ∈ kv, x.1 = k0 := by
    cases kv with
    | nil => exact absurd rfl hne
    | cons a l => exact ⟨a.1, rfl, a, by simp, rfl⟩
  refine fo fun F => ?_
  repeat refine s1 ?_
  refine r_box (cs := nbx (leafN kv) y) rfl rfl rfl rfl (fun t4 => ?_)
  refine jh [node (leafN kv) y] (j_ent (Ent.unnode _) ?_)
  obtain ⟨ka, kc, va, vc, ra, rc⟩ := y
  refine jh [keysA (leafN kv) ⟨ka, kc, va, vc, ra, rc⟩] (j_leni (fun _ _ hka => ?_))
  obtain ⟨kb, ko, rfl⟩ := hka (by rw [hkl]; exact hpos)
  repeat refine s1 ?_
  dsimp only
  refine r_icmp rfl rfl rfl rfl ?_
  repeat refine s1 ?_
  refine t_meet (σ := Unit) (fun _ => [(4, ptr t4), (0, ptr p), (2, i64 d)]) (fun _ => keysA (leafN kv) ⟨some ⟨kb, ko, none⟩, kc, va, vc, ra, rc⟩ :: lkr p ps ⟨d, nodes, leaves, pairs, seen, key⟩ :: pt t4 (.cells (nbx (leafN kv) ⟨some ⟨kb, ko, none⟩, kc, va, vc, ra, rc⟩).toArray T.node_Node (0, 0)) :: F) (fun _ => True) ?_ (fun _ _ => ?_)
  · refine t_condSB rfl (fun hq => ?_) (fun hq => ?_)
    · repeat refine s1 ?_
      refine so (cs' := kcells ps ⟨d, nodes, leaves, pairs, seen, key⟩) (hl := ⟨rfl⟩) rfl rfl ?_
      repeat refine s1 ?_
      exact j_meet () trivial ⟨rfl, rfl, rfl, trivial⟩ leD
    · obtain rfl : deep = d := by have := of_decide_eq_false hq; rcases hd with h | h <;> omega
      repeat refine s1 ?_
      exact j_meet () trivial ⟨rfl, rfl, rfl, trivial⟩ leD
  · rcases seen with _ | _
    all_goals
      repeat refine s2 ?_
      dsimp only
      refine r_icmp rfl rfl rfl rfl ?_
      rw [show (!decide ((d : Int) = (d : Int))) = false by simp]
      repeat refine s2 ?_
    case' refine_2.true =>
      refine ix (i := 0) rfl rfl (by rw [hkl]; exact hpos) ?_
      repeat refine s2 ?_
      refine r_loadI (off := ko) (n := (leafN kv).keys.length) (cap := kc) (E := T.uint64) (s := 1) (xs := (leafN kv).keys.map w64) (v := w64 k0) rfl (j := 0) (by omega) hk0 rfl rfl ?_
      repeat refine s2 ?_
      dsimp only
      refine r_icmp rfl rfl rfl rfl ?_
      have hlt0 : key < k0 := by
        obtain ⟨x, hx, rfl⟩ := hk0m
        exact hk rfl x hx
      rw [decide_eq_false (show ¬ (k0 : Int) ≤ (key : Int) by omega)]
      repeat refine s2 ?_
    all_goals
      rw [hkl]
      dsimp only
      refine r_subN (m := kv.length) (n := 1) rfl rfl (by omega) (by omega) rfl ?_
      repeat refine s1 ?_
      refine ix rfl rfl (by omega) ?_
      repeat refine s1 ?_
      refine r_loadI (off := ko) (n := (leafN kv).keys.length) (cap := kc) (E := T.uint64) (s := 1) (xs := (leafN kv).keys.map w64) (v := w64 (lastk kv)) rfl (j := kv.length - 1) (by omega) hlast rfl rfl ?_
      repeat refine s1 ?_
      refine so (cs' := kcells ps ⟨d, nodes, leaves, pairs, true, key⟩) (hl := ⟨rfl⟩) rfl rfl ?_
      repeat refine s1 ?_
      refine so (cs' := kcells ps ⟨d, nodes, leaves, pairs, true, lastk kv⟩) (hl := ⟨rfl⟩) rfl rfl ?_
      repeat refine s1 ?_
      dsimp only
      refine r_addN (m := leaves) (n := 1) rfl rfl (by omega) rfl ?_
      repeat refine s1 ?_
      refine so (cs' := kcells ps ⟨d, nodes, leaves + 1, pairs, true, lastk kv⟩) (hl := ⟨rfl⟩) rfl rfl ?_
      repeat refine s1 ?_
      rw [hkl]
      dsimp only
      refine r_addN (m := pairs) (n := kv.length) rfl rfl (by omega) rfl ?_
      repeat refine s1 ?_
      refine so (cs' := kcells ps ⟨d, nodes, leaves + 1, pairs + kv.length, true, lastk kv⟩) (hl := ⟨rfl⟩) rfl rfl ?_
      repeat refine s1 ?_
      first | exact f0 () | exact f0' ()
end Go.Proofs.YtcnpkmdooekmgaaGreatDoor
namespace Go.Proofs.YtcnpkmdooekmgaaGreatDoor
open Go Sl
theorem fst_app {a b : KV} {k : Nat} (h : fst? a = some k) : fst? (a ++ b) = some k := by
  cases a with
  | nil => cases h
  | cons x l => exact h
attribute [local irreducible] cw sw J Exit.then Exit.inBlock Exit.noGoto bodyPost swG swL permL
set_option maxHeartbeats 1000000 in
theorem lkleast_c (p ps N : Nat) (S : St) (D : Dk) (o : Lo) (H : Nat) (r0 : Rf) (lo : Nat) (kv : KV) (U : List Nat) (hsh : Sh S.g lo H r0 kv U) (k0 : Nat) (hk0 : fst? kv = some k0) (hS : S.wf) (ha : Agr S D) (hd : D.down = false) (hN : N + H ≤ 800000000) (Φ : Base) :
    Sl.Fn Tryz.prog Φ F.walk_looker_least [ptr p, .agg (rcells r0).toArray] [lkr p ps o, store ps S, disk S.pd D, hlog S.pl N] (fun _ : Unit => True) (fun _ => w64 k0) (fun _ => [lkr p ps o, store ps S, disk S.pd D, hlog S.pl (N + H + 1)]) := by
  have hrw : r0.wt := hsh.1
  refine fo fun F => ?_
  repeat refine s1 ?_
  refine r_box (cs := rcells r0) rfl rfl rfl rfl (fun t3 => ?_)
  repeat refine s1 ?_
  refine t_loop (σ := Nat × Rf) (fun _ => [(3, ptr t3), (0, ptr p)])
    (fun z => lkr p ps o :: pt t3 (.cells (rcells z.2).toArray T.api_Ref (0, 0)) :: store ps S :: disk S.pd D :: hlog S.pl (N + (H - z.1)) :: F)
    (fun z => z.1 ≤ H ∧ ∃ lo kv' U, Sh S.g lo z.1 z.2 kv' U ∧ fst? kv' = some k0) (fun z => z.1) (H, r0) ⟨Nat.le_refl _, lo, kv, U, hsh, hk0⟩ ⟨rfl, rfl, trivial⟩ (by dsimp only; rw [Nat.sub_self, Nat.add_zero]; exact Le.ent) ?_
  clear hrw
  rintro ⟨h, r⟩ ⟨hle, lo, kv, U, hsh, hk0⟩
  dsimp only at hle hsh hk0 ⊢
  obtain ⟨hr, m, V, hn, hmr, hlo, hsec, hsum, hK, rfl⟩ := hsh
  have hmw := nsh_wt hn
  have hdn : dnN D m = m := by unfold dnN; simp [hd]
  have hde : dnE D = 0 := by unfold dnE; simp [hd]
  have hld := tload_c ps (N + (H - h)) S D r m hr hS (by rw [show S.K r.sec = S.g.K r.sec from rfl, hK]; simp) hmr hmw hsec hsum ha (by omega) Φ
  rw [hdn, hde] at hld
  repeat refine s1 ?_
  refine t_meet (σ := NR × Nat) (fun z => [(5, ptr z.2), (6, i64 0), (3, ptr t3), (0, ptr p)])
    (fun z => pt z.2 (.cells (nbx m z.1).toArray T.node_Node (0, 0)) :: node m z.1 :: lkr p ps o :: pt t3 (.cells (rcells r).toArray T.api_Ref (0, 0)) :: store ps S :: disk S.pd D :: hlog S.pl (N + (H - h) + 1) :: F) (fun _ => True) ?_ ?_
  · refine t_draw2 [lkr p ps o, pt t3 (.cells (rcells r).toArray T.api_Ref (0, 0))] [3, 4] 5 9 [9, 0, 1, 2, 3, 4, 5, 6, 7, 8, 10, 11] mixed (by decide +kernel) ?_ ?_
    · repeat refine s1 ?_
      refine s_loadW (vs := rcells r) rfl (by simp [hr.sum.1]) rfl rfl ?_
      repeat refine s1 ?_
      refine cx hld (fun y _ => ?_)
      repeat refine s1 ?_
      refine al (cs := nbx nd0 nr0) (fun t5 => ?_)
      repeat refine s1 ?_
      refine r_storeW (vs := nbx m y) rfl rfl (by rfl) (by rfl) (by simp [Value.oneCell']) rfl ?_
      repeat refine s1 ?_
      exact j_meet (y, t5) trivial ⟨rfl, rfl, rfl, rfl, trivial⟩ leD
    · repeat refine s1 ?_
      refine al (cs := nbx nd0 nr0) (fun t5 => ?_)
      repeat refine s1 ?_
      refine s_loadW (vs := rcells r) rfl (by simp [hr.sum.1]) rfl rfl ?_
      repeat refine s1 ?_
      refine cx hld (fun y _ => ?_)
      repeat refine s1 ?_
      refine r_storeW (vs := nbx m y) rfl rfl (by rfl) (by rfl) (by simp [Value.oneCell']) rfl ?_
      repeat refine s1 ?_
      exact j_meet (y, t5) trivial ⟨rfl, rfl, rfl, rfl, trivial⟩ leD
  rintro ⟨y, t5⟩ _
  dsimp only
  repeat refine s2 ?_
  refine jh [node m y] (j_ent (Ent.unnode _) ?_)
  cases h with
  | zero =>
    obtain ⟨rfl, rfl, hok⟩ := hn
    have hpos : 0 < kv.length := by cases kv with
      | nil => cases hk0
      | cons a l => simp
    have hkl : (leafN kv).keys.length = kv.length := by simp [leafN]
    refine jh [keysA (leafN kv) y] (j_leni (fun _ _ hka => ?_))
    obtain ⟨kb, ko, hkb⟩ := hka (by omega)
    obtain ⟨mka, mkc, mva, mvc, mra, mrc⟩ := y
    dsimp only at hkb
    subst hkb
    rw [show (leafN kv).leaf = true from rfl]
    repeat refine s1 ?_
    refine ix (i := 0) rfl rfl (by omega) ?_
    repeat refine s1 ?_
    refine r_loadI (off := ko) (n := (leafN kv).keys.length) (cap := mkc) (E := T.uint64) (s := 1) (xs := (leafN kv).keys.map w64) (v := w64 k0) rfl (j := 0) (by omega) (by
      cases kv with
      | nil => cases hk0
      | cons a l => simp only [fst?, List.head?_cons, Option.map_some, Option.some.injEq] at hk0; rw [← hk0]; rfl) rfl rfl ?_
    repeat refine s1 ?_
    refine jh [hlog S.pl (N + (H - 0) + 1)] ?_
    rw [show N + (H - 0) + 1 = N + H + 1 by omega]
    exact f1 ()
  | succ h =>
    have hlf : m.leaf = false := nsh_leaf hn
    obtain ⟨cs, hmi, hkv', hV, hcs⟩ := nsh_succ.1 hn
    have hrl : m.kids.length = cs.length := by rw [hmi]; simp [inner]
    have hpos : 2 ≤ cs.length := by have := (hmr.inner hlf).1; have : m.keys.length = cs.length := (by rw [hmi]; simp [inner]); omega
    obtain ⟨c, cs', rfl⟩ : ∃ c cs', cs = c :: cs' := by cases cs with
      | nil => simp at hpos
      | cons c cs' => exact ⟨c, cs', rfl⟩
    have hcc := hcs c (by simp)
    have hkid2 : m.kids[0]'(by omega) = c.rf := by simp [hmi, inner]
    have hfc : fst? c.kv = some k0 := by
      have := fst_app (b := cs'.flatMap (·.kv)) hcc.1
      rw [hkv', List.flatMap_cons, this] at hk0
      rw [hcc.1]; exact hk0
    rw [hlf]
    refine jh [kidsA m y] (j_leni (fun _ _ hka => ?_))
    obtain ⟨kb, ko, hkb⟩ := hka (by omega)
    obtain ⟨mka, mkc, mva, mvc, mra, mrc⟩ := y
    dsimp only at hkb
    subst hkb
    repeat refine s1 ?_
    refine ix (i := 0) rfl rfl (by omega) ?_
    refine r_loadIA (off := ko) (n := m.kids.length) (cap := mrc) (E := T.api_Ref) (s := 33) (xs := m.kids.flatMap rcells) (vs := rcells c.rf) rfl (j := 0) (by omega) (by simp [hcc.2.1.sum.1]) (by
      have := kid_at hmw (show 0 < m.kids.length by omega)
      rw [hkid2] at this; simpa using this) rfl rfl ?_
    refine r_storeW (vs := rcells c.rf) rfl rfl (by simp [hcc.2.1.sum.1]) (by simp [hr.sum.1]) (by simp [Value.oneCell']) rfl ?_
    repeat refine s1 ?_
    exact j_again (h, c.rf) ⟨by omega, 4, c.kv, c.U, hcc.2, hfc⟩ (Nat.lt_succ_self h) ⟨rfl, rfl, trivial⟩ (by
      dsimp only
      rw [show N + (H - (h + 1)) + 1 = N + (H - h) by omega]
      exact Le.ent)
end Go.Proofs.YtcnpkmdooekmgaaGreatDoor
namespace Go.Proofs.YtcnpkmdooekmgaaGreatDoor
open Go Sl
/-- how many leaves a tree has. -/
structure LvQ (lo : Nat) (kv : KV) (U : List Nat) (L : Nat) : Prop where
  le : L ≤ U.length
  most : kv.length ≤ 9 * L
  one : L = 1 ∨ 4 * L ≤ kv.length
  four : 4 ≤ lo → 4 * L ≤ kv.length
/-- a looker that has seen some of a node's kids. -/
structure LkI (o0 o : Lo) (dp : Nat) (cs : List Ch) (i L : Nat) : Prop where
  dpt : o.deep = 0 ∨ o.deep = dp
  fs : i = 0 → o = { o0 with nodes := o0.nodes + 1 }
  th : 0 < i → o.deep = dp ∧ o.seen = true ∧ o.key = lastk ((cs.take i).flatMap (·.kv))
  nd : o.nodes = o0.nodes + 1 + ((cs.take i).flatMap (·.U)).length
  lv : o.leaves = o0.leaves + L
  pr : o.pairs = o0.pairs + ((cs.take i).flatMap (·.kv)).length
  le : L ≤ ((cs.take i).flatMap (·.U)).length
  most : ((cs.take i).flatMap (·.kv)).length ≤ 9 * L
  four : 4 * L ≤ ((cs.take i).flatMap (·.kv)).length
theorem take_snoc {α β : Type} (f : α → List β) {cs : List α} {i : Nat} (h : i < cs.length) : (cs.take (i + 1)).flatMap f = (cs.take i).flatMap f ++ f cs[i] := by
  rw [List.take_add_one, List.getElem?_eq_getElem h, List.flatMap_append, Option.toList_some, List.flatMap_cons, List.flatMap_nil, List.append_nil]
theorem take_le {α β : Type} (f : α → List β) (cs : List α) (i : Nat) : ((cs.take i).flatMap f).length ≤ (cs.flatMap f).length := by
  have := congrArg (fun l : List α => (l.flatMap f).length) (List.take_append_drop i cs)
  simp only [List.flatMap_append, List.length_append] at this
  omega
/-- light steps, up to a region. -/
theorem s4 {G R : Prop} (k : R) (h : R → G := by intro k; (first | refine r_nil ?_ | (refine k_move ?_; refine r_move rfl rfl ?_) | (refine k_assign ?_; refine r_assign rfl rfl ?_) | (refine k_nck ?_; first | refine r_nck rfl rfl ?_ | refine r_nckf rfl rfl ?_) | (refine k_fld ?_; first | refine r_fld0 rfl rfl ?_ | refine r_fld rfl rfl ?_) | (refine k_load ?_; first | refine r_load1L rfl rfl rfl ?_ | refine s_load1L rfl rfl rfl ?_ | refine r_load1 rfl rfl rfl rfl ?_ | refine r_loadW rfl rfl rfl rfl ?_ | refine s_loadW rfl rfl rfl rfl ?_) | (refine k_ext ?_; first | refine r_extL rfl rfl ?_ | refine r_ext rfl rfl rfl ?_) | (refine k_len ?_; refine r_lenS rfl rfl ?_) | (refine k_ixA ?_; refine ixA rfl rfl rfl rfl ?_) | (refine k_un ?_; first | refine r_notT rfl (by with_reducible rfl) rfl ?_ | refine r_notF rfl (by with_reducible rfl) rfl ?_ | refine r_not rfl rfl ?_) | (refine k_sl0 ?_; refine r_sliceA rfl (by decide) rfl ?_) | (refine k_conv ?_; refine r_conv rfl rfl ?_) | (refine k_pick ?_; first | refine r_pickT rfl (by with_reducible rfl) rfl rfl ?_ | refine r_pickF rfl (by with_reducible rfl) rfl rfl ?_) | (refine k_inc ?_; refine r_inc rfl (by clear k; omega) rfl ?_) | (refine k_eql ?_; first | refine r_peqS rfl rfl rfl ?_ | refine r_peqN rfl rfl rfl ?_ | refine r_meqS rfl rfl rfl ?_ | refine r_meqN rfl rfl rfl ?_ | refine r_peq rfl rfl rfl ?_) | (refine k_neq ?_; first | refine r_pneS rfl rfl rfl ?_ | refine r_pneN rfl rfl rfl ?_ | refine r_mneS rfl rfl rfl ?_ | refine r_mneN rfl rfl rfl ?_ | refine r_pne rfl rfl rfl ?_) | (refine g_mark ?_; first | refine gg_pass rfl rfl (by with_reducible rfl) ?_ | refine gg_skipT rfl rfl (by with_reducible rfl) (blt_any rfl) ?_ | refine gg_skipF rfl rfl (by with_reducible rfl) (blt_any rfl) ?_ | refine gg_skipU rfl rfl (by with_reducible rfl) (blt_any rfl) ?_) | refine t_seq ?_ | refine t_perm rfl ?_ | refine t_permE ?_ | refine j_then ?_ | (refine k_cond ?_; first | refine t_condT rfl (by with_reducible rfl) ?_ | refine t_condF rfl (by with_reducible rfl) ?_) | refine t_block ?_ | refine j_in ?_ | refine t_skip ?_ | refine t_ret ?_ | refine j_then_ret ?_ | refine j_in_ret ?_ | refine t_exit ?_ | refine j_then_exit ?_ | refine j_in_exit ?_ | refine j_in_other rfl ?_ | refine t_scope ?_ | refine t_label ?_ | refine j_ng ?_ | refine j_ng_ret ?_ | refine j_ng_exit ?_); exact k) : G := h k
attribute [local irreducible] cw sw J Exit.then Exit.inBlock Exit.noGoto bodyPost swG swL permL
set_option maxHeartbeats 2000000 in
theorem lklook_c (p ps : Nat) (S : St) (D : Dk) (hS : S.wf) (ha : Agr S D) (hd : D.down = false) (Φ : Base) : ∀ (h : Nat) (r : Rf) (lo : Nat) (kv : KV) (U : List Nat) (d : Nat) (o : Lo) (N : Nat), Sh S.g lo h r kv U → Srt kv → h ≤ 11 → (1 < d → 4 ≤ lo) → 1 ≤ d → d + h ≤ 1000 → (o.deep = 0 ∨ o.deep = d + h) → (o.seen = true → ∀ x ∈ kv, o.key < x.1) →
    o.nodes + U.length ≤ 1000000 → o.leaves + U.length ≤ 1000000 → o.pairs + kv.length ≤ 10000000 → N + 13 * U.length ≤ 700000000 →
    Sl.Fn Tryz.prog Φ F.walk_looker_look [ptr p, .agg (rcells r).toArray, i64 d] [lkr p ps o, store ps S, disk S.pd D, hlog S.pl N] (LvQ lo kv U) (fun _ => .tuple #[])
      (fun L => [lkr p ps ⟨d + h, o.nodes + U.length, o.leaves + L, o.pairs + kv.length, true, lastk kv⟩, store ps S, disk S.pd D, hlog S.pl (N + 13 * (U.length - 1) + 1)]) := by
  intro h
  induction h with
  | zero =>
    intro r lo kv U d o N hsh hs hh hlo1 hd1 hdh hdeep hseen b1 b2 b3 hN
    obtain ⟨deep, nodes, leaves, pairs, seen, key⟩ := o
    dsimp only at hdeep hseen b1 b2 b3 ⊢
    obtain ⟨hr, m, V, hn, hmr, hlo, hsec, hsum, hK, rfl⟩ := hsh
    have hmw := nsh_wt hn
    have hdn : dnN D m = m := by unfold dnN; simp [hd]
    have hde : dnE D = 0 := by unfold dnE; simp [hd]
    have hld := tload_c ps N S D r m hr hS (by rw [show S.K r.sec = S.g.K r.sec from rfl, hK]; simp) hmr hmw hsec hsum ha (by omega) Φ
    rw [hdn, hde] at hld
    refine fo fun F => ?_
    repeat refine s1 ?_
    refine r_box (cs := rcells r) rfl rfl rfl rfl (fun t4 => ?_)
    repeat refine s2 ?_
    refine t_meet (σ := NR × Nat) (fun z => [(6, ptr z.2), (7, i64 0), (4, ptr t4), (0, ptr p), (2, i64 d)])
      (fun z => pt z.2 (.cells (nbx m z.1).toArray T.node_Node (0, 0)) :: node m z.1 :: lkr p ps ⟨deep, nodes, leaves, pairs, seen, key⟩ :: pt t4 (.cells (rcells r).toArray T.api_Ref (0, 0)) :: store ps S :: disk S.pd D :: hlog S.pl (N + 1) :: F) (fun _ => True) ?_ ?_
    · refine t_draw2 [lkr p ps ⟨deep, nodes, leaves, pairs, seen, key⟩, pt t4 (.cells (rcells r).toArray T.api_Ref (0, 0))] [3, 4] 5 9 [9, 0, 1, 2, 3, 4, 5, 6, 7, 8, 10, 11] mixed (by decide +kernel) ?_ ?_
      · repeat refine s1 ?_
        refine s_loadW (vs := rcells r) rfl (by simp [hr.sum.1]) rfl rfl ?_
        repeat refine s1 ?_
        refine cx hld (fun y _ => ?_)
        repeat refine s1 ?_
        refine al (cs := nbx nd0 nr0) (fun t5 => ?_)
        repeat refine s1 ?_
        refine r_storeW (vs := nbx m y) rfl rfl (by rfl) (by rfl) (by simp [Value.oneCell']) rfl ?_
        repeat refine s1 ?_
        exact j_meet (y, t5) trivial ⟨rfl, rfl, rfl, rfl, rfl, trivial⟩ leD
      · repeat refine s1 ?_
        refine al (cs := nbx nd0 nr0) (fun t5 => ?_)
        repeat refine s1 ?_
        refine s_loadW (vs := rcells r) rfl (by simp [hr.sum.1]) rfl rfl ?_
        repeat refine s1 ?_
        refine cx hld (fun y _ => ?_)
        repeat refine s1 ?_
        refine r_storeW (vs := nbx m y) rfl rfl (by rfl) (by rfl) (by simp [Value.oneCell']) rfl ?_
        repeat refine s1 ?_
        exact j_meet (y, t5) trivial ⟨rfl, rfl, rfl, rfl, rfl, trivial⟩ leD
    rintro ⟨y, t6⟩ _
    dsimp only
    repeat refine s2 ?_
    dsimp only
    refine r_addN (m := nodes) (n := 1) rfl rfl (by omega) rfl ?_
    repeat refine s1 ?_
    refine jh [node m y] (j_ent (Ent.unnode _) ?_)
    refine so (cs' := kcells ps ⟨deep, nodes + 1, leaves, pairs, seen, key⟩) (hl := ⟨rfl⟩) rfl rfl ?_
    repeat refine s4 ?_
    refine t_meet (σ := Unit) (fun _ => [(45, .bool false), (6, ptr t6), (4, ptr t4), (0, ptr p), (2, i64 d)])
      (fun _ => pt t6 (.cells (nbx m y).toArray T.node_Node (0, 0)) :: keysA m y :: kidsA m y :: node m y :: lkr p ps ⟨deep, nodes + 1, leaves, pairs, seen, key⟩ :: store ps S :: disk S.pd D :: hlog S.pl (N + 1) :: F) (fun _ => True) ?_ (fun _ _ => ?_)
    · repeat refine s1 ?_
      refine r_icmp rfl rfl rfl rfl ?_
      by_cases hd2 : 1 < d
      · have hl4 := hlo1 hd2
        rw [decide_eq_true (show (d : Int) > 1 by omega)]
        repeat refine s1 ?_
        refine r_icmp rfl rfl rfl rfl ?_
        rw [decide_eq_false (show ¬ (m.keys.length : Int) < 4 by omega)]
        repeat refine s1 ?_
        exact j_meet () trivial ⟨rfl, rfl, rfl, rfl, rfl, trivial⟩ leD
      · rw [decide_eq_false (show ¬ (d : Int) > 1 by omega)]
        repeat refine s1 ?_
        exact j_meet () trivial ⟨rfl, rfl, rfl, rfl, rfl, trivial⟩ leD
    dsimp only
    repeat refine s1 ?_
    obtain ⟨rfl, rfl, hok⟩ := hn
    have hkl : (leafN kv).keys.length = kv.length := by simp [leafN]
    have h19 := hmr.leaf rfl
    have hne : kv ≠ [] := fun h0 => by have := h19.1; rw [hkl, h0] at this; simp at this
    rw [show (leafN kv).leaf = true from rfl]
    repeat refine s1 ?_
    refine cl (lkleaf_c p ps d ⟨deep, nodes + 1, leaves, pairs, seen, key⟩ kv y hne (by omega) (by simpa using hdeep) hseen ⟨by dsimp only; simp at b2; omega, by dsimp only; omega⟩ Φ) ?_
    repeat refine s1 ?_
    dsimp only
    refine jh [hlog S.pl (N + 1)] ?_
    rw [show N + 1 = N + 13 * ((r.sec :: ([] : List Nat)).length - 1) + 1 by simp]
    refine jh [lkr p ps ⟨d, nodes + 1, leaves + 1, pairs + kv.length, true, lastk kv⟩] ?_
    rw [show (⟨d, nodes + 1, leaves + 1, pairs + kv.length, true, lastk kv⟩ : Lo) = ⟨d + 0, nodes + (r.sec :: ([] : List Nat)).length, leaves + 1, pairs + kv.length, true, lastk kv⟩ from rfl]
    exact f0 1 (hq := ⟨by simp, by omega, .inl rfl, fun h4 => by omega⟩)
  | succ h ih =>
    intro r lo kv U d o N hsh hs hh hlo1 hd1 hdh hdeep hseen b1 b2 b3 hN
    obtain ⟨deep, nodes, leaves, pairs, seen, key⟩ := o
    dsimp only at hdeep hseen b1 b2 b3 ⊢
    obtain ⟨hr, m, V, hn, hmr, hlo, hsec, hsum, hK, rfl⟩ := hsh
    have hmw := nsh_wt hn
    have hdn : dnN D m = m := by unfold dnN; simp [hd]
    have hde : dnE D = 0 := by unfold dnE; simp [hd]
    have hld := tload_c ps N S D r m hr hS (by rw [show S.K r.sec = S.g.K r.sec from rfl, hK]; simp) hmr hmw hsec hsum ha (by omega) Φ
    rw [hdn, hde] at hld
    refine fo fun F => ?_
    repeat refine s1 ?_
    refine r_box (cs := rcells r) rfl rfl rfl rfl (fun t4 => ?_)
    repeat refine s2 ?_
    refine t_meet (σ := NR × Nat) (fun z => [(6, ptr z.2), (7, i64 0), (4, ptr t4), (0, ptr p), (2, i64 d)])
      (fun z => pt z.2 (.cells (nbx m z.1).toArray T.node_Node (0, 0)) :: node m z.1 :: lkr p ps ⟨deep, nodes, leaves, pairs, seen, key⟩ :: pt t4 (.cells (rcells r).toArray T.api_Ref (0, 0)) :: store ps S :: disk S.pd D :: hlog S.pl (N + 1) :: F) (fun _ => True) ?_ ?_
    · refine t_draw2 [lkr p ps ⟨deep, nodes, leaves, pairs, seen, key⟩, pt t4 (.cells (rcells r).toArray T.api_Ref (0, 0))] [3, 4] 5 9 [9, 0, 1, 2, 3, 4, 5, 6, 7, 8, 10, 11] mixed (by decide +kernel) ?_ ?_
      · repeat refine s1 ?_
        refine s_loadW (vs := rcells r) rfl (by simp [hr.sum.1]) rfl rfl ?_
        repeat refine s1 ?_
        refine cx hld (fun y _ => ?_)
        repeat refine s1 ?_
        refine al (cs := nbx nd0 nr0) (fun t5 => ?_)
        repeat refine s1 ?_
        refine r_storeW (vs := nbx m y) rfl rfl (by rfl) (by rfl) (by simp [Value.oneCell']) rfl ?_
        repeat refine s1 ?_
        exact j_meet (y, t5) trivial ⟨rfl, rfl, rfl, rfl, rfl, trivial⟩ leD
      · repeat refine s1 ?_
        refine al (cs := nbx nd0 nr0) (fun t5 => ?_)
        repeat refine s1 ?_
        refine s_loadW (vs := rcells r) rfl (by simp [hr.sum.1]) rfl rfl ?_
        repeat refine s1 ?_
        refine cx hld (fun y _ => ?_)
        repeat refine s1 ?_
        refine r_storeW (vs := nbx m y) rfl rfl (by rfl) (by rfl) (by simp [Value.oneCell']) rfl ?_
        repeat refine s1 ?_
        exact j_meet (y, t5) trivial ⟨rfl, rfl, rfl, rfl, rfl, trivial⟩ leD
    rintro ⟨y, t6⟩ _
    dsimp only
    repeat refine s2 ?_
    dsimp only
    refine r_addN (m := nodes) (n := 1) rfl rfl (by omega) rfl ?_
    repeat refine s1 ?_
    refine jh [node m y] (j_ent (Ent.unnode _) ?_)
    refine so (cs' := kcells ps ⟨deep, nodes + 1, leaves, pairs, seen, key⟩) (hl := ⟨rfl⟩) rfl rfl ?_
    repeat refine s4 ?_
    refine t_meet (σ := Unit) (fun _ => [(45, .bool false), (6, ptr t6), (4, ptr t4), (0, ptr p), (2, i64 d)])
      (fun _ => pt t6 (.cells (nbx m y).toArray T.node_Node (0, 0)) :: keysA m y :: kidsA m y :: node m y :: lkr p ps ⟨deep, nodes + 1, leaves, pairs, seen, key⟩ :: store ps S :: disk S.pd D :: hlog S.pl (N + 1) :: F) (fun _ => True) ?_ (fun _ _ => ?_)
    · repeat refine s1 ?_
      refine r_icmp rfl rfl rfl rfl ?_
      by_cases hd2 : 1 < d
      · have hl4 := hlo1 hd2
        rw [decide_eq_true (show (d : Int) > 1 by omega)]
        repeat refine s1 ?_
        refine r_icmp rfl rfl rfl rfl ?_
        rw [decide_eq_false (show ¬ (m.keys.length : Int) < 4 by omega)]
        repeat refine s1 ?_
        exact j_meet () trivial ⟨rfl, rfl, rfl, rfl, rfl, trivial⟩ leD
      · rw [decide_eq_false (show ¬ (d : Int) > 1 by omega)]
        repeat refine s1 ?_
        exact j_meet () trivial ⟨rfl, rfl, rfl, rfl, rfl, trivial⟩ leD
    dsimp only
    repeat refine s1 ?_
    obtain ⟨cs, hmi, hkv, hV, hcs⟩ := nsh_succ.1 hn
    have hlf : m.leaf = false := nsh_leaf hn
    have hrl : m.kids.length = cs.length := by rw [hmi]; simp [inner]
    have hkl : m.keys.length = cs.length := by rw [hmi]; simp [inner]
    have hpos : 2 ≤ cs.length := by have := (hmr.inner hlf).1; omega
    have hm11 := hmr.most
    rw [hlf]
    obtain ⟨ka, kc, va, vc, ra, rc⟩ := y
    refine jh [keysA m ⟨ka, kc, va, vc, ra, rc⟩] (j_leni (fun _ _ hka => ?_))
    obtain ⟨kb, ko, rfl⟩ := hka (by omega)
    refine jh [kidsA m ⟨some ⟨kb, ko, none⟩, kc, va, vc, ra, rc⟩] (j_leni (fun _ _ hra => ?_))
    obtain ⟨rb, ro, rfl⟩ := hra (by omega)
    repeat refine s1 ?_
    refine t_loop (σ := Nat × Nat × Lo) (fun z => [(57, i64 z.1), (56, i64 m.kids.length), (55, .slice (some ⟨rb, ro, none⟩) m.kids.length rc), (6, ptr t6), (0, ptr p), (2, i64 d)])
      (fun z => kidsA m ⟨some ⟨kb, ko, none⟩, kc, va, vc, some ⟨rb, ro, none⟩, rc⟩ :: keysA m ⟨some ⟨kb, ko, none⟩, kc, va, vc, some ⟨rb, ro, none⟩, rc⟩ :: pt t6 (.cells (nbx m ⟨some ⟨kb, ko, none⟩, kc, va, vc, some ⟨rb, ro, none⟩, rc⟩).toArray T.node_Node (0, 0)) :: lkr p ps z.2.2 :: store ps S :: disk S.pd D :: hlog S.pl (N + 1 + 13 * ((cs.take z.1).flatMap (·.U)).length) :: F)
      (fun z => z.1 ≤ cs.length ∧ LkI ⟨deep, nodes, leaves, pairs, seen, key⟩ z.2.2 (d + (h + 1)) cs z.1 z.2.1) (fun z => cs.length - z.1) (0, 0, ⟨deep, nodes + 1, leaves, pairs, seen, key⟩)
      ⟨Nat.zero_le _, ⟨hdeep, fun _ => rfl, fun h0 => absurd h0 (Nat.lt_irrefl _), rfl, rfl, rfl, Nat.zero_le _, by simp, by simp⟩⟩ ⟨rfl, rfl, rfl, rfl, rfl, rfl, trivial⟩ leD ?_
    rintro ⟨i, L, o⟩ ⟨hi, hI⟩
    dsimp only at hi hI ⊢
    repeat refine s1 ?_
    refine r_icmp rfl rfl rfl rfl ?_
    repeat refine s1 ?_
    refine t_condS rfl (fun hlt => ?_) (fun hge => ?_)
    · have hic : i < cs.length := by omega
      have hil : i < m.kids.length := by omega
      have hki : m.kids[i] = cs[i].rf := by simp [hmi, inner]
      have hcc := hcs cs[i] (List.getElem_mem hic)
      have hkey : (m.keys.map w64)[i]? = some (w64 cs[i].key) := by simp [hmi, inner, List.getElem?_eq_getElem hic]
      have hcU := take_le (·.U) cs (i + 1)
      have hckv := take_le (·.kv) cs (i + 1)
      rw [take_snoc _ hic, List.length_append] at hcU hckv
      have hkvl : kv.length = (cs.flatMap (·.kv)).length := by rw [hkv]
      have hVl : V.length = (cs.flatMap (·.U)).length := by rw [hV]
      have hsc : Srt ((cs.take i).flatMap (·.kv) ++ cs[i].kv ++ (cs.drop (i + 1)).flatMap (·.kv)) := by
        have := hs
        rw [hkv, ← List.take_append_drop (i + 1) cs, List.flatMap_append, take_snoc _ hic] at this
        exact this
      have hs1 := (List.pairwise_append.1 hsc).1
      have hs2 := List.pairwise_append.1 hs1
      simp only [List.length_cons] at b1 b2 hN
      repeat refine s1 ?_
      refine ix rfl rfl hil ?_
      refine r_loadIA (off := ro) (n := m.kids.length) (cap := rc) (E := T.api_Ref) (s := 33) (xs := m.kids.flatMap rcells) (vs := rcells m.kids[i]) rfl (j := i * 33) (by omega) (by rw [hki]; simp [hcc.2.1.sum.1]) (kid_at hmw hil) rfl rfl ?_
      rw [hki]
      refine al (fun t9 => ?_)
      repeat refine s1 ?_
      refine r_storeW (vs := rcells cs[i].rf) rfl rfl (by simp [hcc.2.1.sum.1]) (by simp) (by simp [Value.oneCell']) rfl ?_
      repeat refine s4 ?_
      refine t_meet (σ := Unit) (fun _ => [(81, .bool false), (8, i64 i), (57, i64 i), (56, i64 m.kids.length), (55, .slice (some ⟨rb, ro, none⟩) m.kids.length rc), (9, ptr t9), (6, ptr t6), (0, ptr p), (2, i64 d)])
        (fun _ => kidsA m ⟨some ⟨kb, ko, none⟩, kc, va, vc, some ⟨rb, ro, none⟩, rc⟩ :: keysA m ⟨some ⟨kb, ko, none⟩, kc, va, vc, some ⟨rb, ro, none⟩, rc⟩ :: pt t6 (.cells (nbx m ⟨some ⟨kb, ko, none⟩, kc, va, vc, some ⟨rb, ro, none⟩, rc⟩).toArray T.node_Node (0, 0)) :: pt t9 (.cells (rcells cs[i].rf).toArray T.api_Ref (0, 0)) :: lkr p ps o :: store ps S :: disk S.pd D :: hlog S.pl (N + 1 + 13 * ((cs.take i).flatMap (·.U)).length) :: F) (fun _ => True) ?_ (fun _ _ => ?_)
      · repeat refine s1 ?_
        refine r_icmp rfl rfl rfl rfl ?_
        by_cases hi0 : i = 0
        · rw [decide_eq_false (show ¬ (i : Int) > 0 by omega)]
          repeat refine s1 ?_
          exact j_meet () trivial ⟨rfl, rfl, rfl, rfl, rfl, rfl, rfl, rfl, rfl, trivial⟩ leD
        · obtain ⟨h1, h2, h3⟩ := hI.th (by omega)
          have hltk : o.key < cs[i].key := by
            have hpn : (cs.take i).flatMap (·.kv) ≠ [] := fun h0 => by
              have h8 := (hcs cs[0] (List.getElem_mem (by omega))).1
              have : cs[0].kv = [] := List.flatMap_eq_nil_iff.1 h0 cs[0] (by rw [List.mem_take_iff_getElem]; exact ⟨0, by omega, rfl⟩)
              rw [this] at h8; cases h8
            obtain ⟨x, hx, hxe⟩ := lastk_mem hpn
            obtain ⟨y, hy, hye⟩ : ∃ y ∈ cs[i].kv, y.1 = cs[i].key := by
              have h8 := hcc.1
              cases hck : cs[i].kv with
              | nil => rw [hck] at h8; cases h8
              | cons a l => rw [hck] at h8; exact ⟨a, by simp, by simpa [fst?] using h8⟩
            rw [h3, ← hxe, ← hye]
            exact hs2.2.2 x hx y hy
          rw [decide_eq_true (show (i : Int) > 0 by omega)]
          repeat refine s1 ?_
          rw [h2]
          repeat refine s1 ?_
          refine ix rfl rfl (show i < m.keys.length by omega) ?_
          repeat refine s1 ?_
          refine r_loadI (off := ko) (n := m.keys.length) (cap := kc) (E := T.uint64) (s := 1) (xs := m.keys.map w64) (v := w64 cs[i].key) rfl (j := i) (by omega) hkey rfl rfl ?_
          repeat refine s1 ?_
          refine r_icmp rfl rfl rfl rfl ?_
          rw [decide_eq_false (show ¬ (o.key : Int) ≥ (cs[i].key : Int) by omega)]
          repeat refine s1 ?_
          exact j_meet () trivial ⟨rfl, rfl, rfl, rfl, rfl, rfl, rfl, rfl, rfl, trivial⟩ leD
      · dsimp only
        have hU1 : 1 ≤ cs[i].U.length := List.length_pos_of_mem (sh_root hcc.2)
        have e1 := hI.nd
        have e2 := hI.lv
        have e3 := hI.pr
        have e4 := hI.le
        dsimp only at e1 e2 e3 e4
        repeat refine s1 ?_
        refine r_loadW (vs := rcells cs[i].rf) rfl (by simp [hcc.2.1.sum.1]) rfl rfl ?_
        repeat refine s1 ?_
        refine cx (ih cs[i].rf 4 cs[i].kv cs[i].U (d + 1) o (N + 1 + 13 * ((cs.take i).flatMap (·.U)).length) hcc.2 hs2.2.1 (by omega) (fun _ => Nat.le_refl 4) (by omega) (by omega) (hI.dpt.imp id (fun h => by omega)) (fun hsn x hx => ?_) (by omega) (by omega) (by omega) (by omega)) (fun Lc hLc => ?_)
        · by_cases hi0 : i = 0
          · have h8 := hI.fs hi0
            subst h8
            exact hseen hsn x (by rw [hkv]; exact List.mem_flatMap.2 ⟨cs[i], List.getElem_mem hic, hx⟩)
          · obtain ⟨h1, h2, h3⟩ := hI.th (by omega)
            have hpn : (cs.take i).flatMap (·.kv) ≠ [] := fun h0 => by
              have h8 := (hcs cs[0] (List.getElem_mem (by omega))).1
              have : cs[0].kv = [] := List.flatMap_eq_nil_iff.1 h0 cs[0] (by rw [List.mem_take_iff_getElem]; exact ⟨0, by omega, rfl⟩)
              rw [this] at h8; cases h8
            obtain ⟨y, hy, hye⟩ := lastk_mem hpn
            rw [h3, ← hye]
            exact hs2.2.2 y hy x hx
        repeat refine s4 ?_
        refine jh [keysA m ⟨some ⟨kb, ko, none⟩, kc, va, vc, some ⟨rb, ro, none⟩, rc⟩] ?_
        refine t_draw [keysA m ⟨some ⟨kb, ko, none⟩, kc, va, vc, some ⟨rb, ro, none⟩, rc⟩, pt t6 (.cells (nbx m ⟨some ⟨kb, ko, none⟩, kc, va, vc, some ⟨rb, ro, none⟩, rc⟩).toArray T.node_Node (0, 0))] [10, 13] mixed (by decide +kernel) ?_
        repeat refine s2 ?_
        refine r_loadW (vs := rcells cs[i].rf) rfl (by simp [hcc.2.1.sum.1]) rfl rfl ?_
        repeat refine s2 ?_
        refine cl (lkleast_c p ps (N + 1 + 13 * ((cs.take i).flatMap (·.U)).length + 13 * (cs[i].U.length - 1) + 1) S D ⟨d + 1 + h, o.nodes + cs[i].U.length, o.leaves + Lc, o.pairs + cs[i].kv.length, true, lastk cs[i].kv⟩ h cs[i].rf 4 cs[i].kv cs[i].U hcc.2 cs[i].key hcc.1 hS ha hd (by omega) Φ) ?_
        repeat refine s1 ?_
        refine ix rfl rfl (show i < m.keys.length by omega) ?_
        repeat refine s1 ?_
        refine s_loadBy (v := w64 cs[i].key) rfl (fun w hh => run_loadI (j := i) hh (by omega) hkey) rfl rfl ?_
        repeat refine s1 ?_
        refine r_icmp rfl rfl rfl rfl ?_
        rw [decide_eq_false (show ¬ (cs[i].key : Int) < (cs[i].key : Int) by omega)]
        repeat refine s1 ?_
        have hsU := take_snoc (·.U) hic
        have hsk := take_snoc (·.kv) hic
        have hck : cs[i].kv ≠ [] := fun h0 => by have h8 := hcc.1; rw [h0] at h8; cases h8
        have q1 := hLc.four (Nat.le_refl 4)
        have q2 := hLc.le
        have q3 := hLc.most
        have q4 := hI.most
        have q5 := hI.four
        refine jh [hlog S.pl (N + 1 + 13 * ((cs.take i).flatMap (·.U)).length + 13 * (cs[i].U.length - 1) + 1 + h + 1)] (j_ent (hlogUp (N' := N + 1 + 13 * ((cs.take (i + 1)).flatMap (·.U)).length) (by rw [hsU, List.length_append]; omega) _) ?_)
        exact j_again (i + 1, L + Lc, ⟨d + 1 + h, o.nodes + cs[i].U.length, o.leaves + Lc, o.pairs + cs[i].kv.length, true, lastk cs[i].kv⟩) ⟨hic, ⟨.inr (by dsimp only; omega), fun h0 => (by cases h0), fun _ => ⟨by dsimp only; omega, rfl, by rw [hsk, lastk_app hck]⟩, by rw [hsU, List.length_append]; dsimp only; omega, by dsimp only; omega, by rw [hsk, List.length_append]; dsimp only; omega, by rw [hsU, List.length_append]; dsimp only; omega, by rw [hsk, List.length_append]; dsimp only; omega, by rw [hsk, List.length_append]; dsimp only; omega⟩⟩ (by dsimp only; omega) ⟨rfl, rfl, rfl, rfl, rfl, rfl, trivial⟩ leD
    · have hil : i = cs.length := by omega
      subst hil
      obtain ⟨h1, h2, h3⟩ := hI.th (by omega)
      have e1 := hI.nd
      have e2 := hI.lv
      have e3 := hI.pr
      have q2 := hI.le
      have q4 := hI.most
      have q5 := hI.four
      rw [List.take_length] at h3 e1 e3 q2 q4 q5
      rw [← hV] at e1 q2
      rw [← hkv] at h3 e3 q4 q5
      obtain ⟨odp, ond, olv, opr, osn, oky⟩ := o
      dsimp only at h1 h2 h3 e1 e2 e3
      subst h1 h2 h3 e1 e2 e3
      rw [List.take_length, ← hV]
      repeat refine s1 ?_
      refine jh [hlog S.pl (N + 1 + 13 * V.length)] ?_
      rw [show N + 1 + 13 * V.length = N + 13 * ((r.sec :: V).length - 1) + 1 by rw [List.length_cons]; omega]
      refine jh [lkr p ps ⟨d + (h + 1), nodes + 1 + V.length, leaves + L, pairs + kv.length, true, lastk kv⟩] ?_
      rw [show nodes + 1 + V.length = nodes + (r.sec :: V).length by rw [List.length_cons]; omega]
      first
        | exact f0 L (hq := ⟨by rw [List.length_cons]; omega, q4, .inr q5, fun _ => q5⟩)
        | exact f0' L (hq := ⟨by rw [List.length_cons]; omega, q4, .inr q5, fun _ => q5⟩)
end Go.Proofs.YtcnpkmdooekmgaaGreatDoor
namespace Go.Proofs.YtcnpkmdooekmgaaGreatDoor
open Go Sl
abbrev Rfx : Rf := ⟨4294967295, List.replicate 32 0⟩
/-- a tree's shape: how deep, how many nodes, how many leaves. -/
structure ShpQ (S : St) (t : Tre) (z : Nat × Nat × Nat) : Prop where
  no : t.rt = none → z = (0, 0, 0)
  yes : ∀ r, t.rt = some r → ∃ h U, Sh S.g 1 h r t.kv U ∧ z.1 = 1 + h ∧ z.2.1 = U.length ∧ LvQ 1 t.kv U z.2.2
abbrev shpL (z : Nat × Nat × Nat) (n : Nat) : List Value := [i64 z.1, i64 z.2.1, i64 z.2.2, i64 n]
theorem shp_eq (d : Nat) (xs : List Int) (w : World) (hx : xs.length = 4) : (Op.equalIn (d + 4) 85 (.agg (xs.map (Value.int .i64)).toArray) (.agg (xs.map (Value.int .i64)).toArray)).run Tryz.prog w = .ok true w := by
  rw [run_equalIn_struct w (d + 3) 85 _ _ (by kernel_rfl) (by kernel_rfl)]
  match xs, hx with
  | [a, b, c, e], _ => simp [Program.fieldsOf, Tryz.underlying85, Op.eqFields, part, go_sem]
section
variable {X : Cx} {e : Env} {L A : List Assn} {S : List Nat} {ops : Array Oper} {k : Nat} {l : List Oper} {R : Act → World → Prop} {d : Nat} {T : TypeId} {pos : String} {af : Array Edge}
/-- what has many parts is itself. -/
theorem r_aeqS {t u : TypeId} {x y : Operand} {xs : Array Value} (hg : X.P.eqGuardType X.P.depth t = false) (hx : ev e x = some (.agg xs)) (hy : ev e y = some (.agg xs)) (he : ∀ w, (Op.equalIn 10000 t (.agg xs) (.agg xs)).run X.P w = .ok true w) (hd : Nat.blt d X.n = true)
    (h : J X ((d, .bool true) :: e) L (sw X.P (Holds X.Φ A) S ops R (k + 1) l)) : J X e L (sw X.P (Holds X.Φ A) S ops R k (⟨some d, .binOp .eql t x y u, T, pos, af, none⟩ :: l)) :=
  r_pure rfl (fun a m w => by
    have h3 : (binOp .eql t (.agg xs) (.agg xs)).run X.P w = .ok (.bool true) w := by rw [run_eql_struct, he]; rfl
    simp only [execOp, m.ev hx, m.ev hy, Sem.run_bind, run_eqGuard_agg w .eql t x y xs xs hg, h3, Result.andThen_ok, Sem.run_pure]) hd h
end
attribute [local irreducible] cw sw J Exit.then Exit.inBlock Exit.noGoto bodyPost swG swL permL
theorem isstore_c (p : Nat) (S : St) (hS : S.wf) (Φ : Base) : Sl.Fn Tryz.prog Φ F.walk_isStore [ptr p] [store p S] (fun _ : Unit => True) (fun _ => .bool true) (fun _ => [store p S]) := by
  have hold : ∀ Φ, Sl.Fn Tryz.prog Φ F.shadow_Store_Hold [ptr p, .agg (rcells Rfx).toArray] [store p S] (fun _ : Unit => True) (fun _ => i64 7) (fun _ => [store p S]) := fun Φ => by
    refine fo fun F => ?_
    repeat refine s1 ?_
    refine r_box (cs := rcells Rfx) rfl rfl rfl rfl (fun t3 => ?_)
    refine j_head (storeD p S noδ) (j_store fun x hx => ?_)
    dsimp only [List.cons_append, List.nil_append]
    have hK : S.K 4294967295 = none := by
      rcases hk : S.K 4294967295 with _ | ks
      · rfl
      · have := hS.rng 4294967295 (by rw [hk]; simp)
        have := hx.big
        omega
    refine js (storeB p S x) (fun L => Ent.store x hx) ?_
    repeat refine s1 ?_
    refine cl (smade_c p S noδ Φ) ?_
    repeat refine s1 ?_
    refine cl (shas_c p S noδ 4294967295 Φ) ?_
    rw [hK, Option.isSome_none]
    repeat refine s1 ?_
    exact f1 ()
  refine fo fun F => ?_
  repeat refine s1 ?_
  refine r_build (cells := rcells Rfx) rfl (by rfl) rfl ?_
  refine cl (hold Φ) ?_
  repeat refine s2 ?_
  exact f1 ()
set_option maxHeartbeats 1000000 in
theorem look_c (ps pd pl N : Nat) (S : St) (D : Dk) (t : Tre) (ht : TOk S.g t) (hS : S.wf) (ha : Agr S D) (hd : D.down = false) (hN : N + 13 * t.kv.length ≤ 500000000) (hkv : t.kv.length ≤ 400000) (hpd : S.pd = pd) (hpl : S.pl = pl) (Φ : Base) :
    Sl.Fn Tryz.prog Φ F.walk_Look [ptr ps, ptr t.p] [tree t.p ps t.rt, store ps S, disk pd D, hlog pl N] (ShpQ S t) (fun z => .tuple #[.agg (shpL z t.kv.length).toArray, i64 0]) (fun _ => [tree t.p ps t.rt, store ps S, disk pd D, hlog pl (N + 13 * t.kv.length + 300)]) := by
  have hw := oWt_of ht
  obtain rfl := hpd
  obtain rfl := hpl
  refine fo fun F => ?_
  repeat refine s1 ?_
  refine al (cs := shpL (0, 0, 0) 0) (fun t4 => ?_)
  repeat refine s1 ?_
  refine cl (isstore_c ps S hS Φ) ?_
  repeat refine s1 ?_
  refine cl (istree_c ps S.pd S.pl N S D t ht hS ha (by omega) (by omega) rfl rfl Φ) ?_
  repeat refine s1 ?_
  refine cl (root_c t.p ps t.rt hw Φ) ?_
  repeat refine s1 ?_
  refine al (cs := rcells Rf0) (fun t6 => ?_)
  refine r_storeW (vs := rcells (oR t.rt)) rfl rfl (by simp [hw.sum.1]) (by rfl) (by simp [Value.oneCell']) rfl ?_
  repeat refine s1 ?_
  refine r_build (cells := kcells ps ⟨0, 0, 0, 0, false, 0⟩) rfl (by rfl) rfl ?_
  refine r_box (cs := kcells ps ⟨0, 0, 0, 0, false, 0⟩) rfl rfl rfl rfl (fun p => ?_)
  repeat refine s1 ?_
  refine t_meet (σ := (Nat × Nat × Nat) × Bool × Nat) (fun _ => [(8, ptr p), (4, ptr t4), (5, i64 0)])
    (fun z => lkr p ps ⟨z.1.1, z.1.2.1, z.1.2.2, t.kv.length, z.2.1, z.2.2⟩ :: tree t.p ps t.rt :: store ps S :: disk S.pd D :: hlog S.pl (N + 13 * t.kv.length + 300) :: pt t4 (.cells (shpL (0, 0, 0) 0).toArray T.walk_Shape (0, 0)) :: F) (fun z => ShpQ S t z.1) ?_ (fun z hz => ?_)
  · rcases hr : t.rt with _ | r
    · rw [Option.isSome_none]
      repeat refine s1 ?_
      refine jh [hlog S.pl (N + 200)] (j_ent (hlogUp (N' := N + 13 * t.kv.length + 300) (by omega) _) ?_)
      refine j_meet ((0, 0, 0), false, 0) ⟨fun _ => rfl, fun r' h' => by rw [hr] at h'; cases h'⟩ ⟨rfl, rfl, rfl, trivial⟩ ?_
      rw [ht.nil hr]
      exact Le.ent
    · rw [Option.isSome_some]
      rw [hr] at hw
      have hrw : r.wt := hw
      obtain ⟨hsrt, hne, H, U, hsh⟩ := ht.sh hr
      have hh10 := pow_small (sh_size hsh).2 (by omega)
      have hsz := (sh_size hsh).1
      repeat refine s1 ?_
      refine r_loadW (vs := rcells r) rfl (by simp [hrw.sum.1]) rfl rfl ?_
      refine cx (lklook_c p ps S D hS ha hd Φ H r 1 t.kv U 1 ⟨0, 0, 0, 0, false, 0⟩ (N + 200) hsh hsrt (by omega) (fun h => absurd h (by decide)) (Nat.le_refl 1) (by omega) (.inl rfl) (fun h => by cases h) (by dsimp only; omega) (by dsimp only; omega) (by dsimp only; omega) (by omega)) (fun L hL => ?_)
      repeat refine s1 ?_
      dsimp only
      refine jh [hlog S.pl (N + 200 + 13 * (U.length - 1) + 1)] (j_ent (hlogUp (N' := N + 13 * t.kv.length + 300) (by omega) _) ?_)
      refine j_meet ((1 + H, U.length, L), true, lastk t.kv) ⟨fun h' => (by rw [hr] at h'; cases h'), fun r' h' => by rw [hr] at h'; cases h'; exact ⟨H, U, hsh, rfl, rfl, hL⟩⟩ ⟨rfl, rfl, rfl, trivial⟩ ?_
      dsimp only
      simp only [Nat.zero_add]
      exact Le.ent
  · obtain ⟨⟨z1, z2, z3⟩, zs, zk⟩ := z
    dsimp only at hz ⊢
    repeat refine s2 ?_
    refine r_loadA (vs := shpL (z1, z2, z3) t.kv.length) (off := 1) rfl (by rfl) (fun j v hj => by
      rw [List.getElem?_toArray, Nat.add_comm, List.getElem?_cons_succ]
      have := (List.getElem?_eq_some_iff.1 hj).1
      rw [show [i64 z1, i64 z2, i64 z3, i64 t.kv.length, .bool zs, w64 zk, i64 0] = shpL (z1, z2, z3) t.kv.length ++ [.bool zs, w64 zk, i64 0] from rfl, List.getElem?_append_left this]
      exact hj) rfl rfl ?_
    refine r_storeW (vs := shpL (z1, z2, z3) t.kv.length) rfl rfl (by rfl) (by rfl) (by simp [Value.oneCell']) rfl ?_
    repeat refine s1 ?_
    exact j_fin rfl (.cons (rv_agg (l := shpL (z1, z2, z3) t.kv.length) (U := T.walk_Shape) (fr := (0, 0)) rfl (by rfl)) (.cons (rv_tmp rfl) .nil)) (z1, z2, z3) rfl hz
end Go.Proofs.YtcnpkmdooekmgaaGreatDoor
namespace Go.Proofs.YtcnpkmdooekmgaaGreatDoor
open Go Sl
theorem Lv.whole {pd pl n m : Nat} {S : St} {D : Dk} {A B : List Tre} {t : Tre} {kv' : KV} {x : Nat × Option Rf × St × Dk × KV} (h : Lv pd pl n S D (A ++ t :: B)) (q : WhQ m S D A B t kv' x) :
    Lv pd pl n x.2.2.1 x.2.2.2.1 (A ++ ⟨t.p, x.2.1, x.2.2.2.2⟩ :: B) :=
  ⟨q.ok, q.agr, q.cnt.trans h.cnt, q.plan.trans h.plan, (q.up h.plan).trans h.up, q.pd.trans h.pd, q.pl.trans h.pl⟩
/-- a change of many is done, or there was no room. -/
theorem Lv.full {pd pl n m : Nat} {S : St} {D : Dk} {A B : List Tre} {t : Tre} {kv' : KV} {x : Nat × Option Rf × St × Dk × KV} (h : Lv pd pl n S D (A ++ t :: B)) (q : WhQ m S D A B t kv' x) (h0 : x.1 ≠ 0) :
    x.2.1 = t.rt ∧ x.2.2.2.2 = t.kv ∧ x.1 = 5 ∧ 3 * n ≤ sumL (A ++ t :: B) + (t.kv.length + m + 2) + 3 * (2 * Nat.log2 (t.kv.length + m) + 4) := by
  obtain ⟨e1, e2, e3⟩ := q.er h0
  refine ⟨e1, e2, ?_⟩
  rcases e3 with ⟨a, b⟩ | ⟨_, b⟩
  · rw [h.cnt] at b; exact ⟨a, b⟩
  · rw [q.up h.plan, h.up] at b; cases b
attribute [local irreducible] cw sw J Exit.then Exit.inBlock Exit.noGoto bodyPost swG swL permL
set_option maxHeartbeats 2000000 in
theorem alive2_c (Φ : Base) (hT : Tab Φ) : Sl.Fn Tryz.prog Φ F.casematelaw16_alive [] [] (fun _ : Unit => True) (fun _ => .bool true) (fun _ => []) := by
  refine fo fun F => ?_
  repeat refine s1 ?_
  refine cx (begin_c 30 (by decide) (by decide) Φ) (fun z _ => ?_)
  obtain ⟨pd, ps, pl⟩ := z
  dsimp only
  repeat refine s1 ?_
  refine cx (tnew_c ps Φ) (fun tp _ => ?_)
  repeat refine s1 ?_
  refine cl (val_c 1 7 Φ) ?_
  have hvb : bytes 44 (valL 1 7) := valL_bytes (by decide)
  generalize valL 1 7 = v at hvb ⊢
  have l0 := Lv.begin pd pl 30 tp
  repeat refine s1 ?_
  refine cx (tput_c ps pd pl 0 7 v (St0 pd pl 3 30) (Dk0 33) [] [] ⟨tp, none, []⟩ (by decide) hvb l0.ok l0.agr (by decide) (by show 0 ≤ _; decide) (by show 0 ≤ _; decide) (by show 1 ≤ _; decide) rfl rfl Φ hT) (fun x hx => ?_)
  obtain ⟨hx0, l1⟩ := l0.done hx (by have := l0.room; simp at this ⊢; omega) (fun h => h)
  obtain ⟨e1, o1, S1, D1⟩ := x
  dsimp only at hx0 l1 ⊢
  subst hx0
  have l1 : Lv pd pl 30 S1 D1 ([] ++ (⟨tp, o1, [(7, v)]⟩ : Tre) :: []) := l1
  have w1 : D1.waits.length ≤ 70 := by have := hx.dle.len; simpa using this
  have ht1 := l1.ok.each ⟨tp, o1, [(7, v)]⟩ (by simp)
  repeat refine s1 ?_
  refine cx (look_c ps pd pl (0 + 200) S1 D1 ⟨tp, o1, [(7, v)]⟩ ht1 l1.ok.ok l1.agr l1.up (by show _ ≤ _; simp) (by simp) l1.pd l1.pl Φ) (fun z hz => ?_)
  have hz1 : z = (1, 1, 1) := by
    obtain ⟨r, hr⟩ := Option.isSome_iff_exists.1 (ht1.has.2 (by simp))
    obtain ⟨h, U, hsh, a1, a2, a3⟩ := hz.yes r hr
    have hs := sh_size hsh
    have hU := List.length_pos_of_mem (sh_root hsh)
    have h0 : h = 0 := by
      rcases Nat.eq_zero_or_pos h with h0 | h0
      · exact h0
      · have := Nat.pow_le_pow_right (show 0 < 4 by omega) h0
        have h9 := hs.2
        simp at h9 this; omega
    have b1 := a3.le
    have b2 := a3.most
    have b3 := hs.1
    simp at b2 b3
    obtain ⟨z1, z2, z3⟩ := z
    dsimp only at a1 a2 b1 b2 ⊢
    simp only [Prod.mk.injEq]
    omega
  subst hz1
  repeat refine s1 ?_
  refine al (cs := shpL (0, 0, 0) 0) (fun t6 => ?_)
  refine r_storeW (vs := shpL (1, 1, 1) [(7, v)].length) rfl rfl (by rfl) (by rfl) (by simp [Value.oneCell']) rfl ?_
  repeat refine s1 ?_
  refine cx (move_c ps pd pl (0 + 200 + 13 * [(7, v)].length + 300) 0 9 100 S1 D1 [] [] ⟨tp, o1, [(7, v)]⟩ (by decide) (by decide) l1.ok l1.agr l1.up (by simp) (by simp; omega) (by simp) (by simp) l1.pd l1.pl Φ hT) (fun x hx2 => ?_)
  rw [show rngK 0 9 [(7, v)] = [(7, v)] from rfl] at hx2 ⊢
  have l2 := l1.whole hx2
  have hx0 : x.1 = 0 := Decidable.byContradiction fun h0 => by
    have := (l1.full hx2 h0).2.2.2
    rw [show Nat.log2 ((⟨tp, o1, [(7, v)]⟩ : Tre).kv.length + [(7, v)].length) = 1 from (by show Nat.log2 2 = 1; decide)] at this
    simp [sumL] at this
  have hk2 := hx2.done hx0
  have w2 := hx2.waits
  obtain ⟨e2, o2, S2, D2, kv2⟩ := x
  dsimp only at hx0 l2 hk2 w2 ⊢
  subst hx0
  rw [show insAll ([(7, v)].map (mvK 100)) [(7, v)] = [(7, v), (107, v)] from rfl] at hk2
  subst hk2
  have ht2 := l2.ok.each ⟨tp, o2, [(7, v), (107, v)]⟩ (by simp)
  repeat refine s1 ?_
  refine cl (count_c ps pd pl (0 + 200 + 13 * [(7, v)].length + 300 + 300 * [(7, v)].length + 700) 0 200 S2 D2 ⟨tp, o2, [(7, v), (107, v)]⟩ ht2 l2.ok.ok l2.agr l2.up (by simp) (by simp) l2.pd l2.pl Φ) ?_
  rw [show rngK 0 200 [(7, v), (107, v)] = [(7, v), (107, v)] from rfl]
  repeat refine s1 ?_
  refine cx (delRange_c ps pd pl (0 + 200 + 13 * [(7, v)].length + 300 + 300 * [(7, v)].length + 700 + [(7, v), (107, v)].length + 1) 0 50 S2 D2 [] [] ⟨tp, o2, [(7, v), (107, v)]⟩ l2.ok l2.agr l2.up (by simp) (by simp at w2 ⊢; omega) (by simp) (by simp) l2.pd l2.pl Φ hT) (fun x hx3 => ?_)
  rw [show rngK 0 50 [(7, v), (107, v)] = [(7, v)] from rfl] at hx3 ⊢
  have hx0 : x.1 = 0 := Decidable.byContradiction fun h0 => by
    have := (l2.full hx3 h0).2.2.2
    rw [show Nat.log2 ((⟨tp, o2, [(7, v), (107, v)]⟩ : Tre).kv.length + [(7, v)].length) = 1 from (by show Nat.log2 3 = 1; decide)] at this
    simp [sumL] at this
  rw [hx0, if_pos rfl]
  repeat refine s2 ?_
  refine r_build (cells := shpL (1, 1, 1) [(7, v)].length) rfl (by rfl) rfl ?_
  repeat refine s2 ?_
  refine r_aeqS (by kernel_rfl) rfl rfl (fun w => shp_eq 9996 [((1 : Nat) : Int), ((1 : Nat) : Int), ((1 : Nat) : Int), (([(7, v)].length : Nat) : Int)] w rfl) rfl ?_
  rw [show [(7, v)].length = 1 from rfl, show [(7, v), (107, v)].length = 2 from rfl]
  repeat refine s2 ?_
  exact f1 ()
end Go.Proofs.YtcnpkmdooekmgaaGreatDoor
namespace Go.Proofs.YtcnpkmdooekmgaaGreatDoor
open Go Sl
theorem insAll_len (xs kv : KV) : (insAll xs kv).length ≤ kv.length + xs.length := by
  induction xs generalizing kv with
  | nil => simp [insAll]
  | cons x xs ih =>
    have h1 := ih (ins x.1 x.2 kv)
    have h2 := (ins_len (k := x.1) (v := x.2) kv).2
    simp only [insAll, List.foldl_cons, List.length_cons] at h1 ⊢
    omega
theorem delAll_filter (xs kv : KV) : delAll xs kv = kv.filter fun y => !(xs.any fun x => x.1 == y.1) := by
  induction xs generalizing kv with
  | nil => exact (List.filter_eq_self.2 (fun y _ => rfl)).symm
  | cons x xs ih =>
    have h1 := ih (del x.1 kv)
    simp only [delAll, List.foldl_cons] at h1 ⊢
    rw [h1, del, List.filter_filter]
    congr 1
    funext y
    simp only [List.any_cons, Bool.not_or]
    rw [Bool.and_comm]
    congr 2
    rw [Bool.eq_iff_iff, beq_iff_eq, beq_iff_eq]
    exact ⟨fun h => h.symm, fun h => h.symm⟩
theorem filter_split {α : Type} (p : α → Bool) (l : List α) : (l.filter fun x => !p x).length + (l.filter p).length = l.length := by
  induction l with
  | nil => rfl
  | cons a l ih =>
    by_cases h : p a = true
    · simp [h]; omega
    · simp [h]; omega
theorem rngK_filter (a b : Nat) (kv : KV) : rngK a b kv = kv.filter fun x => decide (a ≤ x.1) && decide (x.1 ≤ b) := by
  rw [rngK, List.filter_filter]
  congr 1
  funext x
  rw [Bool.and_comm]
theorem delRng (a b : Nat) (kv : KV) : delAll (rngK a b kv) kv = kv.filter fun x => !(decide (a ≤ x.1) && decide (x.1 ≤ b)) := by
  rw [delAll_filter]
  refine List.filter_congr fun y hy => ?_
  congr 1
  rw [Bool.eq_iff_iff, List.any_eq_true, rngK_filter]
  constructor
  · rintro ⟨x, hx, he⟩
    have h1 := (List.mem_filter.1 hx).2
    rw [eq_of_beq he] at h1
    exact h1
  · intro h
    exact ⟨y, List.mem_filter.2 ⟨hy, h⟩, by simp⟩
theorem delRng_len (a b : Nat) (kv : KV) : (delAll (rngK a b kv) kv).length + (rngK a b kv).length = kv.length := by
  rw [delRng, rngK_filter]
  exact filter_split _ kv
attribute [local irreducible] cw sw J Exit.then Exit.inBlock Exit.noGoto bodyPost swG swL permL
end Go.Proofs.YtcnpkmdooekmgaaGreatDoor
namespace Go.Proofs.YtcnpkmdooekmgaaGreatDoor
open Go Sl
attribute [local irreducible] cw sw J Exit.then Exit.inBlock Exit.noGoto bodyPost swG swL permL
end Go.Proofs.YtcnpkmdooekmgaaGreatDoor
namespace Go.Proofs.YtcnpkmdooekmgaaGreatDoor
open Go Sl
theorem inR_rngK (a b : Nat) (l : List RP) : kvs (l.filter (inR a b)) = rngK a b (kvs l) := by
  have := rngL_kvs l a b (l.length : Int)
  rw [List.take_of_length_le (by simpa using List.length_filter_le _ _)] at this
  rw [this, rngL, rngK, List.take_of_length_le]
  have := rngK_len (a := a) (b := b) (kv := kvs l)
  simpa [rngK, kvs] using this
theorem insAll_srt (xs : KV) : ∀ {kv : KV}, Srt kv → Srt (insAll xs kv) := by
  induction xs with
  | nil => intro kv h; exact h
  | cons x xs ih => intro kv h; exact ih (ins_srt h)
attribute [local irreducible] cw sw J Exit.then Exit.inBlock Exit.noGoto bodyPost swG swL permL
theorem rsome_c (a : Option Addr) (c f t : Nat) (l : List RP) (hl : l.length ≤ 1000000) (Φ : Base) :
    Sl.Fn Tryz.prog Φ F.casemateref16_Some [.slice a l.length c, w64 f, w64 t] [rowR a l.length c l] (fun z : List RP × Option Addr × Nat => z.1 = l.filter (inR f t)) (fun z => .slice z.2.1 z.1.length z.2.2) (fun z => [rowR z.2.1 z.1.length z.2.2 z.1]) := by
  refine fo fun F => ?_
  repeat refine s1 ?_
  refine cx (rrange_c a c f t (l.length : Int) l hl Φ) (fun z hz => ?_)
  rw [List.take_of_length_le (by simpa using List.length_filter_le _ _)] at hz
  repeat refine s1 ?_
  exact f1 z (hq := hz)
set_option maxHeartbeats 1000000 in
theorem rdelr_c (a : Option Addr) (c f t : Nat) (l : List RP) (hl : l.length ≤ 1000000) (Φ : Base) :
    Sl.Fn Tryz.prog Φ F.casemateref16_DelRange [.slice a l.length c, w64 f, w64 t] [rowR a l.length c l] (fun z : List RP × Option Addr × Nat => z.1 = l.filter fun x => !inR f t x) (fun z => .slice z.2.1 z.1.length z.2.2) (fun z => [rowR z.2.1 z.1.length z.2.2 z.1]) := by
  refine fo fun F => ?_
  repeat refine s1 ?_
  refine j_ent (rowV_nil _) ?_
  refine t_loop (σ := Nat × List RP × Option Addr × Nat) (fun z => [(8, i64 z.1), (7, .slice z.2.2.1 z.2.1.length z.2.2.2), (0, .slice a l.length c), (1, w64 f), (2, w64 t)]) (fun z => rowV z.2.2.1 z.2.1.length z.2.2.2 z.2.1 :: rowR a l.length c l :: F)
    (fun z => z.1 ≤ l.length ∧ z.2.1.length ≤ z.1 ∧ z.2.1 = (l.take z.1).filter fun x => !inR f t x) (fun z => l.length - z.1) (0, [], none, 0) ⟨Nat.zero_le _, Nat.le_refl _, rfl⟩ ⟨rfl, rfl, rfl, rfl, rfl, trivial⟩ leD ?_
  rintro ⟨i, out, oa, oc⟩ ⟨h1, h2, h3⟩
  dsimp only at h1 h2 h3 ⊢
  refine jh [rowR a l.length c l] (j_leni (fun _ _ hla => ?_))
  repeat refine s1 ?_
  refine r_iop rfl rfl rfl rfl ?_
  repeat refine s1 ?_
  refine t_condSB rfl (fun hq => ?_) (fun hq => ?_)
  · have hi : i < l.length := by have := of_decide_eq_true hq; omega
    obtain ⟨lb, lo, rfl⟩ := hla (by omega)
    obtain ⟨x, hx⟩ : ∃ x, l[i]? = some x := ⟨_, List.getElem?_eq_getElem hi⟩
    have hat := rpc_at hx
    have hft := filter_take (p := fun x => !inR f t x) hx
    rw [← h3] at hft
    repeat refine s4 ?_
    refine t_meet (σ := Unit) (fun _ => [(30, .bool (!inR f t x)), (8, i64 i), (7, .slice oa out.length oc), (0, .slice (some ⟨lb, lo, none⟩) l.length c), (1, w64 f), (2, w64 t)]) (fun _ => rowR (some ⟨lb, lo, none⟩) l.length c l :: rowV oa out.length oc out :: F) (fun _ => True) ?_ (fun _ _ => ?_)
    · repeat refine s1 ?_
      refine ix rfl rfl hi ?_
      repeat refine s1 ?_
      refine r_loadI (off := lo) (n := l.length) (cap := c) (E := T.casemateref15_Pair) (s := 2) (xs := l.flatMap rpc) (v := w64 x.k) rfl (j := i * 2) (by omega) hat.1 rfl rfl ?_
      repeat refine s1 ?_
      refine r_icmp rfl rfl rfl rfl ?_
      by_cases hk : x.k < f
      · rw [decide_eq_true (show (x.k : Int) < (f : Int) by omega)]
        repeat refine s1 ?_
        exact j_meet () trivial ⟨by simp [lk, inR]; omega, rfl, rfl, rfl, rfl, rfl, trivial⟩ leD
      · rw [decide_eq_false (show ¬ (x.k : Int) < (f : Int) by omega)]
        repeat refine s1 ?_
        refine ix rfl rfl hi ?_
        repeat refine s1 ?_
        refine r_loadI (off := lo) (n := l.length) (cap := c) (E := T.casemateref15_Pair) (s := 2) (xs := l.flatMap rpc) (v := w64 x.k) rfl (j := i * 2) (by omega) hat.1 rfl rfl ?_
        repeat refine s1 ?_
        refine r_icmp rfl rfl rfl rfl ?_
        repeat refine s1 ?_
        exact j_meet () trivial ⟨by
          show some (Value.bool (decide ((x.k : Int) > (t : Int)))) = some (Value.bool (!inR f t x))
          congr 2
          rw [Bool.eq_iff_iff, decide_eq_true_eq]
          simp only [inR, Bool.not_eq_true', Bool.and_eq_false_iff, decide_eq_false_iff_not]
          omega, rfl, rfl, rfl, rfl, rfl, trivial⟩ leD
    · repeat refine s1 ?_
      refine t_condSB rfl (fun hk => ?_) (fun hk => ?_)
      · rw [if_pos hk] at hft
        repeat refine s1 ?_
        refine ix rfl rfl hi ?_
        repeat refine s1 ?_
        refine r_loadIA (off := lo) (n := l.length) (cap := c) (E := T.casemateref15_Pair) (s := 2) (xs := l.flatMap rpc) (vs := rpc x) rfl (j := i * 2) (by omega) (by rfl) (rpc_all hx) rfl rfl ?_
        refine r_buildA1 (v := rpc x) rfl (by rfl) (by decide) (fun bv => ?_)
        refine r_append (n := out.length) (m := 1) (s := 2) (xs := out.flatMap rpc) (ys := rpc x) rfl rfl (by decide) (by rfl) (by simp [Value.oneCell']) (by omega) (by omega) rfl rfl (fun oa' oc' _ => ?_)
        rw [show out.flatMap rpc ++ rpc x = (out ++ [x]).flatMap rpc by simp, show out.length + 1 = (out ++ [x]).length by simp]
        repeat refine s1 ?_
        exact j_again (i + 1, out ++ [x], oa', oc') ⟨by omega, by dsimp only; rw [List.length_append, List.length_singleton]; omega, hft.symm⟩ (by dsimp only; omega) ⟨rfl, rfl, rfl, rfl, rfl, trivial⟩ leD
      · rw [if_neg (by rw [hk]; simp), List.append_nil] at hft
        repeat refine s1 ?_
        exact j_again (i + 1, out, oa, oc) ⟨by omega, by dsimp only; omega, hft.symm⟩ (by dsimp only; omega) ⟨rfl, rfl, rfl, rfl, rfl, trivial⟩ leD
  · have hi : i = l.length := by have := of_decide_eq_false hq; omega
    subst hi
    rw [List.take_length] at h3
    repeat refine s1 ?_
    refine jh [rowV oa out.length oc out] (fz ?_)
    exact f1 (out, oa, oc) (hq := h3)
end Go.Proofs.YtcnpkmdooekmgaaGreatDoor
namespace Go.Proofs.YtcnpkmdooekmgaaGreatDoor
open Go Sl
def putsL (more l : List RP) : List RP := more.foldl (fun l x => putL x l) l
theorem putsL_kvs (more : List RP) : ∀ {l : List RP}, Srt (kvs l) → kvs (putsL more l) = insAll (kvs more) (kvs l) := by
  induction more with
  | nil => intro l _; rfl
  | cons x more ih =>
    intro l h
    have h1 := put_ins (x := x) h
    have h2 := ih (l := putL x l) (by rw [h1]; exact ins_srt h)
    rw [h1] at h2
    exact h2
theorem putsL_mem (more : List RP) : ∀ {l : List RP} {z : RP}, z ∈ putsL more l → z ∈ more ∨ z ∈ l := by
  induction more with
  | nil => intro l z h; exact .inr h
  | cons x more ih =>
    intro l z h
    rcases ih h with h | h
    · exact .inl (by simp [h])
    · rcases putL_mem h with rfl | h
      · exact .inl (by simp)
      · exact .inr h
theorem puts_snoc {more : List RP} {i : Nat} {x : RP} (h : more[i]? = some x) (l : List RP) : putsL (more.take (i + 1)) l = putL x (putsL (more.take i) l) := by
  rw [List.take_add_one, h, putsL, putsL, Option.toList_some, List.foldl_append]; rfl
theorem putsL_len (more : List RP) {l : List RP} (h : Srt (kvs l)) : (putsL more l).length ≤ l.length + more.length := by
  have h1 := congrArg List.length (putsL_kvs more h)
  have h2 := insAll_len (kvs more) (kvs l)
  simp only [kvs, List.length_map] at h1 h2
  omega
def mvR (by_ : Nat) (x : RP) : RP := ⟨(x.k + by_) % 18446744073709551616, x.v, x.a, x.c⟩
theorem mvR_kvs (by_ : Nat) (l : List RP) : kvs (l.map (mvR by_)) = (kvs l).map (mvK by_) := by
  simp [kvs, mvR, mvK, Function.comp_def]
attribute [local irreducible] cw sw J Exit.then Exit.inBlock Exit.noGoto bodyPost swG swL permL
set_option maxHeartbeats 1000000 in
theorem rputall_c (a : Option Addr) (c : Nat) (l : List RP) (b : Option Addr) (d : Nat) (more : List RP) (hs : Srt (kvs l)) (hl : l.length + more.length ≤ 1000000) (Φ : Base) :
    Sl.Fn Tryz.prog Φ F.casemateref16_PutAll [.slice a l.length c, .slice b more.length d] [rowR a l.length c l, rowR b more.length d more] (fun z : List RP × Option Addr × Nat => z.1 = putsL more l) (fun z => .slice z.2.1 z.1.length z.2.2) (fun z => [rowR z.2.1 z.1.length z.2.2 z.1]) := by
  refine fo fun F => ?_
  repeat refine s1 ?_
  refine t_loop (σ := Nat × List RP × Option Addr × Nat) (fun z => [(5, i64 z.1), (0, .slice z.2.2.1 z.2.1.length z.2.2.2), (1, .slice b more.length d)]) (fun z => rowR z.2.2.1 z.2.1.length z.2.2.2 z.2.1 :: rowR b more.length d more :: F)
    (fun z => z.1 ≤ more.length ∧ z.2.1 = putsL (more.take z.1) l) (fun z => more.length - z.1) (0, l, a, c) ⟨Nat.zero_le _, rfl⟩ ⟨rfl, rfl, rfl, trivial⟩ leD ?_
  rintro ⟨i, out, oa, oc⟩ ⟨h1, h3⟩
  dsimp only at h1 h3 ⊢
  have hol := putsL_len (more.take i) hs
  rw [← h3, List.length_take] at hol
  refine jh [rowR b more.length d more] (j_leni (fun _ _ hla => ?_))
  repeat refine s1 ?_
  refine r_iop rfl rfl rfl rfl ?_
  repeat refine s1 ?_
  refine t_condSB rfl (fun hq => ?_) (fun hq => ?_)
  · have hi : i < more.length := by have := of_decide_eq_true hq; omega
    obtain ⟨lb, lo, rfl⟩ := hla (by omega)
    obtain ⟨x, hx⟩ : ∃ x, more[i]? = some x := ⟨_, List.getElem?_eq_getElem hi⟩
    have hat := rpc_at hx
    refine jh [rowR (some ⟨lb, lo, none⟩) more.length d more] ?_
    repeat refine s4 ?_
    refine t_draw [rowR (some ⟨lb, lo, none⟩) more.length d more] [5, 10] mixed (by decide +kernel) ?_
    repeat refine s1 ?_
    refine ix rfl rfl hi ?_
    repeat refine s1 ?_
    refine s_loadBy (v := w64 x.k) rfl (fun w hh => run_loadI (j := i * 2) hh (by omega) hat.1) rfl rfl ?_
    repeat refine s1 ?_
    refine ix rfl rfl hi ?_
    repeat refine s1 ?_
    refine s_loadBy (v := .slice x.a x.v.length x.c) rfl (fun w hh => run_loadI (j := i * 2 + 1) hh (by omega) hat.2) rfl rfl ?_
    repeat refine s1 ?_
    refine cx (rput_c oa oc x out (by omega) Φ) (fun z hz => ?_)
    obtain ⟨o2, a2, c2⟩ := z
    dsimp only at hz ⊢
    repeat refine s1 ?_
    exact j_again (i + 1, o2, a2, c2) ⟨by omega, by dsimp only; rw [hz, h3, puts_snoc hx]⟩ (by dsimp only; omega) ⟨rfl, rfl, rfl, trivial⟩ leD
  · have hi : i = more.length := by have := of_decide_eq_false hq; omega
    subst hi
    rw [List.take_length] at h3
    repeat refine s1 ?_
    exact f1 (out, oa, oc) (hq := h3)
set_option maxHeartbeats 1000000 in
theorem rmove_c (a : Option Addr) (c f t by_ : Nat) (l : List RP) (hs : Srt (kvs l)) (hl : l.length ≤ 400000) (Φ : Base) :
    Sl.Fn Tryz.prog Φ F.casemateref16_Move [.slice a l.length c, w64 f, w64 t, w64 by_] [rowR a l.length c l] (fun z : List RP × Option Addr × Nat => z.1 = putsL ((l.filter (inR f t)).map (mvR by_)) l) (fun z => .slice z.2.1 z.1.length z.2.2) (fun z => [rowR z.2.1 z.1.length z.2.2 z.1]) := by
  refine fo fun F => ?_
  repeat refine s1 ?_
  refine cx (rsome_c a c f t l (by omega) Φ) (fun z hz => ?_)
  obtain ⟨more, b, d⟩ := z
  dsimp only at hz ⊢
  have hml : more.length ≤ l.length := by rw [hz]; exact List.length_filter_le _ _
  rw [← hz]
  clear hz
  repeat refine s1 ?_
  refine t_loop (σ := Nat × List RP × Option Addr × Nat) (fun z => [(11, i64 z.1), (10, .slice z.2.2.1 z.2.1.length z.2.2.2), (9, .slice b more.length d), (3, w64 by_)]) (fun z => rowR z.2.2.1 z.2.1.length z.2.2.2 z.2.1 :: rowR b more.length d more :: F)
    (fun z => z.1 ≤ more.length ∧ z.2.1 = putsL ((more.take z.1).map (mvR by_)) l) (fun z => more.length - z.1) (0, l, a, c) ⟨Nat.zero_le _, rfl⟩ ⟨rfl, rfl, rfl, rfl, trivial⟩ leD ?_
  rintro ⟨i, out, oa, oc⟩ ⟨h1, h3⟩
  dsimp only at h1 h3 ⊢
  have hol := putsL_len ((more.take i).map (mvR by_)) hs
  rw [← h3, List.length_map, List.length_take] at hol
  refine jh [rowR b more.length d more] (j_leni (fun _ _ hla => ?_))
  repeat refine s1 ?_
  refine r_iop rfl rfl rfl rfl ?_
  repeat refine s1 ?_
  refine t_condSB rfl (fun hq => ?_) (fun hq => ?_)
  · have hi : i < more.length := by have := of_decide_eq_true hq; omega
    obtain ⟨lb, lo, rfl⟩ := hla (by omega)
    obtain ⟨x, hx⟩ : ∃ x, more[i]? = some x := ⟨_, List.getElem?_eq_getElem hi⟩
    have hat := rpc_at hx
    refine jh [rowR (some ⟨lb, lo, none⟩) more.length d more] ?_
    repeat refine s4 ?_
    refine t_draw [rowR (some ⟨lb, lo, none⟩) more.length d more] [5, 12] mixed (by decide +kernel) ?_
    repeat refine s1 ?_
    refine ix rfl rfl hi ?_
    repeat refine s1 ?_
    refine s_loadBy (v := w64 x.k) rfl (fun w hh => run_loadI (j := i * 2) hh (by omega) hat.1) rfl rfl ?_
    repeat refine s1 ?_
    refine r_iop (v := w64 ((x.k + by_) % 18446744073709551616)) rfl rfl (by show some (Value.int .u64 (IntKind.u64.wrap ((x.k : Int) + (by_ : Int)))) = _; rw [addU64]) rfl ?_
    repeat refine s1 ?_
    refine ix rfl rfl hi ?_
    repeat refine s1 ?_
    refine s_loadBy (v := .slice x.a x.v.length x.c) rfl (fun w hh => run_loadI (j := i * 2 + 1) hh (by omega) hat.2) rfl rfl ?_
    repeat refine s1 ?_
    refine cx (rput_c oa oc (mvR by_ x) out (by omega) Φ) (fun z hz => ?_)
    obtain ⟨o2, a2, c2⟩ := z
    dsimp only at hz ⊢
    repeat refine s1 ?_
    exact j_again (i + 1, o2, a2, c2) ⟨by omega, by dsimp only; rw [hz, h3, List.map_take, List.map_take, puts_snoc (x := mvR by_ x) (by rw [List.getElem?_map, hx]; rfl)]⟩ (by dsimp only; omega) ⟨rfl, rfl, rfl, rfl, trivial⟩ leD
  · have hi : i = more.length := by have := of_decide_eq_false hq; omega
    subst hi
    rw [List.take_length] at h3
    repeat refine s1 ?_
    exact f1 (out, oa, oc) (hq := h3)
end Go.Proofs.YtcnpkmdooekmgaaGreatDoor
namespace Go.Proofs.YtcnpkmdooekmgaaGreatDoor
open Go Sl
def pairL (k b i : Nat) : Nat × List Nat := ((k + 3 * i) % 18446744073709551616, valL b ((k + 3 * i) % 18446744073709551616))
/-- so many pairs from a key on. -/
def pairsL (k : Nat) (n : Int) (b : Nat) : KV := (List.range (min n.toNat 40)).map (pairL k b)
theorem pairsL_len (k : Nat) (n : Int) (b : Nat) : (pairsL k n b).length = min n.toNat 40 := by simp [pairsL]
theorem pairsL_ok {k b : Nat} (n : Int) (hb : b < 256) : KVok (pairsL k n b) := fun x hx => by
  obtain ⟨i, _, rfl⟩ := List.mem_map.1 hx
  exact ⟨Nat.mod_lt _ (by decide), valL_bytes hb⟩
attribute [local irreducible] cw sw J Exit.then Exit.inBlock Exit.noGoto bodyPost swG swL permL
set_option maxHeartbeats 1000000 in
theorem wpairs_c (k : Nat) (n : Int) (b : Nat) (hb : b < 256) (Φ : Base) :
    Sl.Fn Tryz.prog Φ F.casematelaw16_pairs [w64 k, .int .i64 n, u8 b] [] (fun _ : Option Addr × Nat => True) (fun z => .slice z.1 (pairsL k n b).length z.2) (fun z => [prow z.1 (pairsL k n b).length z.2 (pairsL k n b)]) := by
  refine fo fun F => ?_
  repeat refine s1 ?_
  refine j_ent (Ent.vecNil (E := T.mtree_Pair) (s := 45) _) ?_
  refine t_loop (σ := Nat × Option Addr × Nat) (fun z => [(8, i64 z.1), (7, .slice z.2.1 z.1 z.2.2), (0, w64 k), (1, .int .i64 n), (2, u8 b)]) (fun z => prow z.2.1 z.1 z.2.2 ((List.range z.1).map (pairL k b)) :: F)
    (fun z => z.1 ≤ 40 ∧ z.1 ≤ n.toNat) (fun z => 40 - z.1) (0, none, 0) ⟨Nat.zero_le _, Nat.zero_le _⟩ ⟨rfl, rfl, rfl, rfl, rfl, trivial⟩ (by dsimp only; rw [show (List.range 0).map (pairL k b) = [] from rfl]; exact Ent.refl _) ?_
  rintro ⟨i, oa, oc⟩ ⟨h1, h2⟩
  dsimp only at h1 h2 ⊢
  repeat refine s1 ?_
  refine r_icmp rfl rfl rfl rfl ?_
  by_cases hi : (i : Int) < n
  · rw [decide_eq_true hi]
    repeat refine s1 ?_
    refine r_icmp rfl rfl rfl rfl ?_
    by_cases hi4 : i < 40
    · rw [decide_eq_true (show (i : Int) < 40 by omega)]
      repeat refine s1 ?_
      refine r_mulN (m := 3) (n := i) rfl rfl (by omega) rfl ?_
      repeat refine s1 ?_
      rw [show IntKind.u64.wrap ((3 * i : Nat) : Int) = ((3 * i : Nat) : Int) from wrapU64 (by omega)]
      refine r_iop (v := w64 ((k + 3 * i) % 18446744073709551616)) rfl rfl (by show some (Value.int .u64 (IntKind.u64.wrap ((k : Int) + ((3 * i : Nat) : Int)))) = _; rw [addU64]) rfl ?_
      repeat refine s1 ?_
      refine cl (val_c b ((k + 3 * i) % 18446744073709551616) Φ) ?_
      have hv : (valL b ((k + 3 * i) % 18446744073709551616)).length = 44 := (valL_bytes hb).1
      refine r_build (cells := pcell (pairL k b i)) rfl (by simp [fillL, hv, Value.cells, pairL]) rfl ?_
      refine r_buildA1 (v := pcell (pairL k b i)) rfl (by simp [pairL, hv]) (by decide) (fun bv => ?_)
      refine r_append (n := i) (m := 1) (s := 45) (xs := ((List.range i).map (pairL k b)).flatMap pcell) (ys := pcell (pairL k b i)) rfl rfl (by decide) (by rfl) (by simp [Value.oneCell']) (by omega) (by omega) rfl rfl (fun oa' oc' _ => ?_)
      rw [show ((List.range i).map (pairL k b)).flatMap pcell ++ pcell (pairL k b i) = ((List.range (i + 1)).map (pairL k b)).flatMap pcell by rw [List.range_succ, List.map_append, List.flatMap_append]; simp]
      repeat refine s1 ?_
      exact j_again (i + 1, oa', oc') ⟨by dsimp only; omega, by dsimp only; omega⟩ (by dsimp only; omega) ⟨rfl, rfl, rfl, rfl, rfl, trivial⟩ leD
    · rw [decide_eq_false (show ¬ (i : Int) < 40 by omega)]
      repeat refine s1 ?_
      have hlen := pairsL_len k n b
      rw [show i = (pairsL k n b).length by omega, show (List.range (pairsL k n b).length).map (pairL k b) = pairsL k n b by rw [hlen]; rfl]
      exact f1 (oa, oc)
  · rw [decide_eq_false hi]
    repeat refine s1 ?_
    have hlen := pairsL_len k n b
    rw [show i = (pairsL k n b).length by omega, show (List.range (pairsL k n b).length).map (pairL k b) = pairsL k n b by rw [hlen]; rfl]
    exact f1 (oa, oc)
end Go.Proofs.YtcnpkmdooekmgaaGreatDoor
namespace Go.Proofs.YtcnpkmdooekmgaaGreatDoor
open Go Sl
theorem wrap64_nonneg (v : Int) : 0 ≤ IntKind.u64.wrap v ∧ IntKind.u64.wrap v < 18446744073709551616 := by
  simp only [IntKind.wrap, IntKind.signed, IntKind.bits, Bool.false_and, Bool.false_eq_true, if_false]
  exact ⟨Int.emod_nonneg _ (by decide), Int.emod_lt_of_pos _ (by decide)⟩
structure Op2 where
  kind : Int
  key : Nat
  to : Nat
  n : Int
  by_ : Nat
structure Op2.wt (o : Op2) : Prop where
  key : o.key < 18446744073709551616
  to : o.to < 18446744073709551616
  by_ : o.by_ < 256
abbrev o2cells (o : Op2) : List Value := [.int .i64 o.kind, w64 o.key, w64 o.to, .int .i64 o.n, u8 o.by_]
def Op2.far (o : Op2) : Nat := (IntKind.u64.wrap o.n).toNat
theorem Op2.far_lt (o : Op2) : o.far < 18446744073709551616 := by
  have h1 := wrap64_nonneg o.n
  unfold Op2.far
  omega
theorem Op2.far_eq (o : Op2) : IntKind.u64.wrap o.n = (o.far : Int) := by
  have h1 := wrap64_nonneg o.n
  unfold Op2.far
  omega
def stepW (o : Op2) (len : Nat) (kv : KV) : KV :=
  if o.kind = 0 then ins o.key (valL o.by_ o.key) kv
  else if o.kind = 1 then delAll (rngK o.key o.to kv) kv
  else if o.kind = 2 then insAll (pairsL o.key o.n o.by_) kv
  else if o.kind = 3 ∧ len ≤ 300 ∧ o.far ≠ 0 then insAll ((rngK o.key o.to kv).map (mvK o.far)) kv else kv
def needW (o : Op2) (kv : KV) : Nat := if o.kind = 0 then 1 else if o.kind = 2 then (pairsL o.key o.n o.by_).length else (rngK o.key o.to kv).length
/-- there is room for a change of many. -/
def Roomy (n : Nat) (A B : List Tre) (t : Tre) (m : Nat) : Prop := sumL (A ++ t :: B) + (t.kv.length + m + 2) + 3 * (2 * Nat.log2 (t.kv.length + m) + 4) < 3 * n
structure Do2Q (pd pl n : Nat) (D : Dk) (A B : List Tre) (t : Tre) (kl : KV) (o : Op2) (z : Bool × (List RP × Option Addr × Nat) × Option Rf × St × Dk × KV) : Prop where
  kvs : kvs z.2.1.1 = stepW o kl.length kl
  lv : Lv pd pl n z.2.2.2.1 z.2.2.2.2.1 (A ++ ⟨t.p, z.2.2.1, z.2.2.2.2.2⟩ :: B)
  kv : z.2.2.2.2.2 = t.kv ∨ z.2.2.2.2.2 = stepW o kl.length t.kv
  waits : z.2.2.2.2.1.waits.length ≤ D.waits.length + 70 * (t.kv.length + 40)
  good : Roomy n A B t (needW o t.kv) → kl = t.kv → z.1 = true ∧ z.2.2.2.2.2 = stepW o kl.length t.kv
theorem Lv.wh {pd pl n m : Nat} {S : St} {D : Dk} {A B : List Tre} {t : Tre} {kv' : KV} {x : Nat × Option Rf × St × Dk × KV} (h : Lv pd pl n S D (A ++ t :: B)) (q : WhQ m S D A B t kv' x) (hm : m ≤ t.kv.length + 40) :
    Lv pd pl n x.2.2.1 x.2.2.2.1 (A ++ ⟨t.p, x.2.1, x.2.2.2.2⟩ :: B) ∧ (x.2.2.2.2 = t.kv ∨ x.2.2.2.2 = kv') ∧ x.2.2.2.1.waits.length ≤ D.waits.length + 70 * (t.kv.length + 40) ∧ (Roomy n A B t m → x.1 = 0) ∧ (x.1 = 0 → x.2.2.2.2 = kv') := by
  refine ⟨h.whole q, ?_, by have := q.waits; omega, fun hr => ?_, q.done⟩
  · by_cases h0 : x.1 = 0
    · exact .inr (q.done h0)
    · exact .inl (q.er h0).2.1
  · by_cases h0 : x.1 = 0
    · exact h0
    · have := (h.full q h0).2.2.2
      unfold Roomy at hr
      omega
theorem rvals_map (b : Nat) (l : List RP) (L : List Assn) : Ent (rvals l :: L) (rvals (l.map (mvR b)) :: L) := by
  intro im h s
  obtain ⟨h1, h2, h3, h4, h5, hx, h7⟩ := s
  refine ⟨h1, h2, h3, h4, h5, fun x hx' => ?_, h7⟩
  obtain ⟨y, hy, rfl⟩ := List.mem_map.1 hx'
  exact hx y hy
theorem insAll_rng_len {a b by_ : Nat} {kv : KV} : (insAll ((rngK a b kv).map (mvK by_)) kv).length ≤ 2 * kv.length := by
  have h1 := insAll_len ((rngK a b kv).map (mvK by_)) kv
  have h2 := rngK_len (a := a) (b := b) (kv := kv)
  rw [List.length_map] at h1
  omega
theorem stepW_len (o : Op2) (len : Nat) (kv : KV) : (stepW o len kv).length ≤ 2 * kv.length + 40 := by
  unfold stepW
  split
  · have := (ins_len (k := o.key) (v := valL o.by_ o.key) kv).2; omega
  · split
    · have := delRng_len o.key o.to kv; omega
    · split
      · have h1 := insAll_len (pairsL o.key o.n o.by_) kv
        have h2 := pairsL_len o.key o.n o.by_
        omega
      · split
        · have := insAll_rng_len (a := o.key) (b := o.to) (by_ := o.far) (kv := kv); omega
        · omega
theorem stepW_srt (o : Op2) (len : Nat) {kv : KV} (h : Srt kv) : Srt (stepW o len kv) := by
  unfold stepW
  split
  · exact ins_srt h
  · split
    · rw [delAll_filter]; exact h.sublist List.filter_sublist
    · split
      · exact insAll_srt _ h
      · split
        · exact insAll_srt _ h
        · exact h
theorem TrQ.whole {S : St} {D : Dk} {A B : List Tre} {t : Tre} {kv' : KV} {x : Nat × Option Rf × St × Dk} (q : TrQ S D A B t kv' False x) (h : TsOk S (A ++ t :: B)) (ha : Agr S D) (hl : kv'.length ≤ t.kv.length + 1) :
    WhQ 1 S D A B t kv' (x.1, x.2.1, x.2.2.1, x.2.2.2, if x.1 = 0 then kv' else t.kv) := by
  have q1 := (AllQ.begin h ha t.kv 0 rfl).step (p := t.p) (kv := t.kv) (o1 := t.rt) (e2 := x.1) (o2 := x.2.1) (S2 := x.2.2.1) (D2 := x.2.2.2) (kv2 := kv') (Y := False) q hl (fun h4 => ?_) kv' (fun _ => rfl)
  · refine ⟨q1.pd, q1.pl, q1.frm, q1.cnt, q1.agr, q1.plan, q1.size, q1.up, q1.waits, q1.ok, fun h0 => q1.done h0, fun h0 => ⟨(q.er h0).1, if_neg h0, ?_⟩⟩
    rcases q1.er h0 with ⟨h1, h2⟩ | h1
    · refine .inl ⟨h1, ?_⟩
      have := sumL_mid A B t
      rw [Nat.zero_add] at h2
      omega
    · exact .inr h1
  · rcases (q.er (by omega)).2.2.2 with ⟨h5, _⟩ | ⟨h5, _⟩ | ⟨_, h5⟩
    · omega
    · omega
    · exact h5
attribute [local irreducible] cw sw J Exit.then Exit.inBlock Exit.noGoto bodyPost swG swL permL
theorem move_z (ps pd pl N a b : Nat) (S : St) (D : Dk) (t : Tre) (ht : TOk S.g t) (hS : S.wf) (ha : Agr S D) (hN : N ≤ 600000000) (hkv : t.kv.length ≤ 1000000) (hpd : S.pd = pd) (hpl : S.pl = pl) (Φ : Base) :
    Sl.Fn Tryz.prog Φ F.walk_Move [ptr t.p, w64 a, w64 b, w64 0] [tree t.p ps t.rt, store ps S, disk pd D, hlog pl N] (fun _ : Unit => True) (fun _ => .tuple #[i64 0, i64 1]) (fun _ => [tree t.p ps t.rt, store ps S, disk pd D, hlog pl (N + 200)]) := by
  refine fo fun F => ?_
  repeat refine s1 ?_
  refine cl (istree_c ps pd pl N S D t ht hS ha hN hkv hpd hpl Φ) ?_
  repeat refine s2 ?_
  exact f2 ()
set_option maxHeartbeats 1000000 in
theorem do2_c (ps pd pl n N : Nat) (S : St) (D : Dk) (A B : List Tre) (t : Tre) (a : Option Addr) (c : Nat) (l : List RP) (o : Op2) (ho : o.wt) (hs : Srt (kvs l)) (hl : l.length ≤ 20000) (hv : Lv pd pl n S D (A ++ t :: B)) (hAB : (A ++ t :: B).length ≤ 1000) (hN : N ≤ 100000000) (hwt : D.waits.length ≤ 100000000) (hkv : t.kv.length ≤ 20000) (Φ : Base) (hT : Tab Φ) :
    Sl.Fn Tryz.prog Φ F.casematelaw16_Do [ptr t.p, .slice a l.length c, .agg (o2cells o).toArray] [rowR a l.length c l, rvals l, tree t.p ps t.rt, store ps S, disk pd D, hlog pl N] (Do2Q pd pl n D A B t (kvs l) o) (fun z => .tuple #[.slice z.2.1.2.1 z.2.1.1.length z.2.1.2.2, .bool z.1])
      (fun z => [rowR z.2.1.2.1 z.2.1.1.length z.2.1.2.2 z.2.1.1, rvals z.2.1.1, tree t.p ps z.2.2.1, store ps z.2.2.2.1, disk pd z.2.2.2.2.1, hlog pl (N + 300 * t.kv.length + 9000)]) := by
  obtain ⟨kind, key, to, m, by_⟩ := o
  obtain ⟨hk, hto, hby⟩ := ho
  dsimp only at hk hto hby
  have ht := hv.ok.each t (by simp)
  have hll : (kvs l).length = l.length := by simp [kvs]
  refine fo fun F => ?_
  repeat refine s1 ?_
  refine r_box (cs := o2cells ⟨kind, key, to, m, by_⟩) rfl rfl rfl rfl (fun t5 => ?_)
  repeat refine s1 ?_
  refine r_icmp rfl rfl rfl rfl ?_
  by_cases k0 : kind = 0
  · subst k0
    rw [decide_eq_true rfl]
    repeat refine s1 ?_
    refine cl (val_c by_ key Φ) ?_
    refine al (cs := z44.map u8) (fun t8 => ?_)
    refine r_storeW (vs := (valL by_ key).map u8) rfl rfl (by rfl) (by rfl) (by simp [Value.oneCell']) rfl ?_
    repeat refine s1 ?_
    refine t_draw [pt t5 (.cells (o2cells ⟨0, key, to, m, by_⟩).toArray T.casematelaw16_Op (0, 0)), pt t8 (.cells ((valL by_ key).map u8).toArray T.a44_uint8 (0, 0))] [2, 7, 8] mixed (by decide +kernel) ?_
    repeat refine s1 ?_
    refine cx (rput_c a c (mkq key (valL by_ key) t8) l (by omega) Φ) (fun z1 hz1 => ?_)
    obtain ⟨l1, a1, c1⟩ := z1
    dsimp only at hz1 ⊢
    repeat refine s1 ?_
    refine cx (tput_c ps pd pl N key (valL by_ key) S D A B t hk (valL_bytes hby) hv.ok hv.agr (by omega) (by omega) (by omega) (by omega) hv.pd hv.pl Φ hT) (fun x hx => ?_)
    have hx1 := hx.whole hv.ok hv.agr (by have := (ins_len (k := key) (v := valL by_ key) t.kv).2; omega)
    obtain ⟨l2, l3, l4, l5, l6⟩ := hv.wh hx1 (by omega)
    obtain ⟨e2, o2, S2, D2⟩ := x
    dsimp only at l2 l3 l4 l5 l6 ⊢
    have hst : ∀ kv, stepW ⟨0, key, to, m, by_⟩ (kvs l).length kv = ins key (valL by_ key) kv := fun _ => rfl
    obtain ⟨bb, hb⟩ : ∃ bb, decide ((e2 : Int) = 0) = bb := ⟨_, rfl⟩
    refine r_icmp rfl rfl rfl rfl ?_
    rw [hb]
    repeat refine s1 ?_
    refine j_freeze t8 ?_
    refine j_ent (imm_isl (n := (valL by_ key).length) (cap := 44) (E := T.uint8) (s := 1) (by simp) (by simp [valL]) _) ?_
    refine js [valA (mkq key (valL by_ key) t8)] (B := rvals [mkq key (valL by_ key) t8]) (fun L => rvals_one _ L) ?_
    refine js [rvals [mkq key (valL by_ key) t8], rvals l] (B := rvals ([mkq key (valL by_ key) t8] ++ l)) (fun L => rvals_app _ _ L) ?_
    refine jh [rvals ([mkq key (valL by_ key) t8] ++ l)] (j_ent (rvals_sub (m := l1) (fun y hy => by
      rw [hz1] at hy
      rcases putL_mem hy with rfl | hy
      · simp
      · simp [hy]) _) ?_)
    refine jh [hlog pl (N + 200)] (j_ent (hlogUp (N' := N + 300 * t.kv.length + 9000) (by omega) _) ?_)
    exact f2 (bb, (l1, a1, c1), o2, S2, D2, if e2 = 0 then ins key (valL by_ key) t.kv else t.kv) (hq := ⟨by rw [hz1, put_ins hs, hst], l2, l3, l4, fun hr _ => by
      have := l5 hr
      subst this
      exact ⟨by rw [← hb]; rfl, by rw [hst]; dsimp only; rw [if_pos rfl]⟩⟩)
  · rw [decide_eq_false k0]
    repeat refine s1 ?_
    refine r_icmp rfl rfl rfl rfl ?_
    by_cases k1 : kind = 1
    · subst k1
      rw [decide_eq_true rfl]
      have hst : ∀ kv, stepW ⟨1, key, to, m, by_⟩ (kvs l).length kv = delAll (rngK key to kv) kv := fun _ => rfl
      have hnd : needW ⟨1, key, to, m, by_⟩ t.kv = (rngK key to t.kv).length := rfl
      have hrl := rngK_len (a := key) (b := to) (kv := t.kv)
      repeat refine s1 ?_
      refine cx (delRange_c ps pd pl N key to S D A B t hv.ok hv.agr hv.up (by omega) (by omega) (by omega) (by omega) hv.pd hv.pl Φ hT) (fun x hx => ?_)
      obtain ⟨l2, l3, l4, l5, l6⟩ := hv.wh hx (by omega)
      obtain ⟨e2, o2, S2, D2, kv2⟩ := x
      dsimp only at l2 l3 l4 l5 l6 ⊢
      repeat refine s1 ?_
      refine cx (rdelr_c a c key to l (by omega) Φ) (fun z1 hz1 => ?_)
      obtain ⟨l1, a1, c1⟩ := z1
      dsimp only at hz1 ⊢
      have hk1 : kvs l1 = delAll (rngK key to (kvs l)) (kvs l) := by
        rw [delRng, hz1, show inR key to = fun x : RP => (fun k => decide (key ≤ k) && decide (k ≤ to)) x.k from rfl, kvs_filter fun k => !(decide (key ≤ k) && decide (k ≤ to))]
      refine jh [rvals l] (j_ent (rvals_sub (m := l1) (fun y hy => by rw [hz1] at hy; exact (List.mem_filter.1 hy).1) _) ?_)
      refine jh [hlog pl (N + 300 * t.kv.length + 300)] (j_ent (hlogUp (N' := N + 300 * t.kv.length + 9000) (by omega) _) ?_)
      by_cases he : e2 = 0
      · subst he
        rw [if_pos rfl]
        repeat refine s2 ?_
        refine cx (rsome_c a c key to l (by omega) Φ) (fun z2 hz2 => ?_)
        obtain ⟨l7, a7, c7⟩ := z2
        dsimp only at hz2 ⊢
        obtain ⟨bb, hb⟩ : ∃ bb, decide (((rngK key to t.kv).length : Int) = (l7.length : Int)) = bb := ⟨_, rfl⟩
        repeat refine s1 ?_
        refine r_icmp rfl rfl rfl rfl ?_
        rw [hb]
        repeat refine s1 ?_
        exact f2 (bb, (l1, a1, c1), o2, S2, D2, kv2) (hq := ⟨by rw [hst]; exact hk1, l2, l3, l4, fun _ hkl => ⟨by
          have := congrArg List.length (inR_rngK key to l)
          rw [← hb, hz2, decide_eq_true_eq, ← hkl, ← this]
          simp [kvs], l6 rfl⟩⟩)
      · repeat refine s1 ?_
        refine r_icmp rfl rfl rfl rfl ?_
        rw [decide_eq_false (show ¬ (e2 : Int) = 0 by omega)]
        repeat refine s2 ?_
        exact f2 (false, (l1, a1, c1), o2, S2, D2, kv2) (hq := ⟨by rw [hst]; exact hk1, l2, l3, l4, fun hr _ => absurd (l5 hr) he⟩)
    · rw [decide_eq_false k1]
      repeat refine s1 ?_
      refine r_icmp rfl rfl rfl rfl ?_
      by_cases k2 : kind = 2
      · subst k2
        rw [decide_eq_true rfl]
        have hst : ∀ kv, stepW ⟨2, key, to, m, by_⟩ (kvs l).length kv = insAll (pairsL key m by_) kv := fun _ => rfl
        have hnd : needW ⟨2, key, to, m, by_⟩ t.kv = (pairsL key m by_).length := rfl
        have hpl := pairsL_len key m by_
        have hpo : KVok (pairsL key m by_) := pairsL_ok m hby
        repeat refine s1 ?_
        refine cx (wpairs_c key m by_ hby Φ) (fun x _ => ?_)
        obtain ⟨pa, pc⟩ := x
        dsimp only
        refine jh [prow pa (pairsL key m by_).length pc (pairsL key m by_)] (fz ?_)
        repeat refine s1 ?_
        refine cx (as_c pa pc (pairsL key m by_) (by omega) (fun x hx => (hpo x hx).2.1) Φ) (fun z1 hz1 => ?_)
        obtain ⟨l1, a1, c1⟩ := z1
        dsimp only at hz1 ⊢
        have hl1 : l1.length = (pairsL key m by_).length := by have := congrArg List.length hz1; simpa [kvs] using this
        repeat refine s1 ?_
        refine cx (rputall_c a c l a1 c1 l1 hs (by omega) Φ) (fun z2 hz2 => ?_)
        obtain ⟨l3', a3, c3⟩ := z2
        dsimp only at hz2 ⊢
        repeat refine s1 ?_
        refine cx (putAll_c ps pd pl N pa pc (pairsL key m by_) S D A B t hpo hv.ok hv.agr (by omega) (by omega) (by omega) (by omega) hv.pd hv.pl Φ hT) (fun x hx => ?_)
        obtain ⟨l2, l3, l4, l5, l6⟩ := hv.wh hx (by omega)
        obtain ⟨e2, o2, S2, D2, kv2⟩ := x
        dsimp only at l2 l3 l4 l5 l6 ⊢
        obtain ⟨bb, hb⟩ : ∃ bb, decide ((e2 : Int) = 0) = bb := ⟨_, rfl⟩
        repeat refine s1 ?_
        refine r_icmp rfl rfl rfl rfl ?_
        rw [hb]
        repeat refine s1 ?_
        refine js [rvals l1, rvals l] (B := rvals (l1 ++ l)) (fun L => rvals_app _ _ L) ?_
        refine jh [rvals (l1 ++ l)] (j_ent (rvals_sub (m := l3') (fun y hy => by
          rw [hz2] at hy
          exact List.mem_append.2 (putsL_mem l1 hy)) _) ?_)
        refine jh [hlog pl (N + 200 + 200 * (pairsL key m by_).length)] (j_ent (hlogUp (N' := N + 300 * t.kv.length + 9000) (by omega) _) ?_)
        exact f2 (bb, (l3', a3, c3), o2, S2, D2, kv2) (hq := ⟨by rw [hst, hz2, putsL_kvs l1 hs, hz1], l2, l3, l4, fun hr _ => by
          rw [hnd] at hr
          have h0 := l5 hr
          exact ⟨by rw [← hb, h0]; rfl, (l6 h0).trans (hst _).symm⟩⟩)
      · rw [decide_eq_false k2]
        repeat refine s1 ?_
        refine r_icmp rfl rfl rfl rfl ?_
        have hsame : stepW ⟨kind, key, to, m, by_⟩ (kvs l).length t.kv = t.kv → stepW ⟨kind, key, to, m, by_⟩ (kvs l).length (kvs l) = kvs l → Do2Q pd pl n D A B t (kvs l) ⟨kind, key, to, m, by_⟩ (true, (l, a, c), t.rt, S, D, t.kv) := fun h h' => ⟨h'.symm, hv, .inl rfl, Nat.le_add_right _ _, fun _ _ => ⟨rfl, h.symm⟩⟩
        by_cases k3 : kind = 3
        · subst k3
          rw [decide_eq_true rfl]
          repeat refine s1 ?_
          refine r_icmp rfl rfl rfl rfl ?_
          by_cases h3 : 300 < l.length
          · rw [decide_eq_true (show (l.length : Int) > 300 by omega)]
            have hst : ∀ kv, stepW ⟨3, key, to, m, by_⟩ (kvs l).length kv = kv := fun _ => by
              simp only [stepW]
              rw [if_neg (by decide), if_neg (by decide), if_neg (by decide), if_neg (by omega)]
            repeat refine s1 ?_
            refine jh [hlog pl N] (j_ent (hlogUp (N' := N + 300 * t.kv.length + 9000) (by omega) _) ?_)
            exact f2 (true, (l, a, c), t.rt, S, D, t.kv) (hq := hsame (hst _) (hst _))
          · rw [decide_eq_false (show ¬ (l.length : Int) > 300 by omega)]
            have hfl := (Op2.mk 3 key to m by_).far_lt
            have hfe := (Op2.mk 3 key to m by_).far_eq
            have hst : ∀ kv, (Op2.mk 3 key to m by_).far ≠ 0 → stepW ⟨3, key, to, m, by_⟩ (kvs l).length kv = insAll ((rngK key to kv).map (mvK (Op2.mk 3 key to m by_).far)) kv := fun kv h0 => by
              simp only [stepW]
              rw [if_neg (by decide), if_neg (by decide), if_neg (by decide), if_pos ⟨trivial, by omega, h0⟩]
            have hst0 : ∀ kv, (Op2.mk 3 key to m by_).far = 0 → stepW ⟨3, key, to, m, by_⟩ (kvs l).length kv = kv := fun kv h0 => by
              simp only [stepW]
              rw [if_neg (by decide), if_neg (by decide), if_neg (by decide), if_neg (fun h => h.2.2 h0)]
            generalize (Op2.mk 3 key to m by_).far = by2 at hfl hfe hst hst0
            repeat refine s1 ?_
            rw [hfe]
            repeat refine s1 ?_
            by_cases hz : by2 = 0
            · subst hz
              refine cx (move_z ps pd pl N key to S D t ht hv.ok.ok hv.agr (by omega) (by omega) hv.pd hv.pl Φ) (fun _ _ => ?_)
              repeat refine s2 ?_
              refine jh [hlog pl (N + 200)] (j_ent (hlogUp (N' := N + 300 * t.kv.length + 9000) (by omega) _) ?_)
              exact f2 (true, (l, a, c), t.rt, S, D, t.kv) (hq := hsame (hst0 _ rfl) (hst0 _ rfl))
            · have hrl := rngK_len (a := key) (b := to) (kv := t.kv)
              have hnd : needW ⟨3, key, to, m, by_⟩ t.kv = (rngK key to t.kv).length := rfl
              refine cx (move_c ps pd pl N key to by2 S D A B t hfl hz hv.ok hv.agr hv.up (by omega) (by omega) (by omega) (by omega) hv.pd hv.pl Φ hT) (fun x hx => ?_)
              obtain ⟨l2, l3, l4, l5, l6⟩ := hv.wh hx (by omega)
              obtain ⟨e2, o2, S2, D2, kv2⟩ := x
              dsimp only at l2 l3 l4 l5 l6 ⊢
              repeat refine s1 ?_
              refine r_icmp rfl rfl rfl rfl ?_
              rw [decide_eq_false (show ¬ (by2 : Int) = 0 by omega)]
              repeat refine s1 ?_
              refine cx (rmove_c a c key to by2 l hs (by omega) Φ) (fun z1 hz1 => ?_)
              obtain ⟨l1, a1, c1⟩ := z1
              dsimp only at hz1 ⊢
              have hk1 : kvs l1 = insAll ((rngK key to (kvs l)).map (mvK by2)) (kvs l) := by
                rw [hz1, putsL_kvs _ hs, mvR_kvs, inR_rngK]
              refine jh [rvals l] (j_ent (rvals_sub (m := l.filter (inR key to)) (fun y hy => (List.mem_filter.1 hy).1) _) ?_)
              refine js [rvals (l.filter (inR key to))] (B := rvals ((l.filter (inR key to)).map (mvR by2))) (fun L => rvals_map by2 _ L) ?_
              refine js [rvals ((l.filter (inR key to)).map (mvR by2)), rvals l] (B := rvals ((l.filter (inR key to)).map (mvR by2) ++ l)) (fun L => rvals_app _ _ L) ?_
              refine jh [rvals ((l.filter (inR key to)).map (mvR by2) ++ l)] (j_ent (rvals_sub (m := l1) (fun y hy => by
                rw [hz1] at hy
                exact List.mem_append.2 (putsL_mem _ hy)) _) ?_)
              refine jh [hlog pl (N + 300 * t.kv.length + 700)] (j_ent (hlogUp (N' := N + 300 * t.kv.length + 9000) (by omega) _) ?_)
              by_cases he : e2 = 0
              · subst he
                rw [if_pos rfl]
                repeat refine s2 ?_
                refine cx (rsome_c a c key to l (by omega) Φ) (fun z2 hz2 => ?_)
                obtain ⟨l7, a7, c7⟩ := z2
                dsimp only at hz2 ⊢
                obtain ⟨bb, hb⟩ : ∃ bb, decide (((rngK key to t.kv).length : Int) = (l7.length : Int)) = bb := ⟨_, rfl⟩
                repeat refine s1 ?_
                refine r_icmp rfl rfl rfl rfl ?_
                rw [hb]
                repeat refine s1 ?_
                exact f2 (bb, (l1, a1, c1), o2, S2, D2, kv2) (hq := ⟨by rw [hst _ hz]; exact hk1, l2, by rw [hst _ hz]; exact l3, l4, fun _ hkl => ⟨by
                  have := congrArg List.length (inR_rngK key to l)
                  rw [← hb, hz2, decide_eq_true_eq, ← hkl, ← this]
                  simp [kvs], by rw [hst _ hz]; exact l6 rfl⟩⟩)
              · repeat refine s1 ?_
                refine r_icmp rfl rfl rfl rfl ?_
                rw [decide_eq_false (show ¬ (e2 : Int) = 0 by omega)]
                repeat refine s2 ?_
                exact f2 (false, (l1, a1, c1), o2, S2, D2, kv2) (hq := ⟨by rw [hst _ hz]; exact hk1, l2, by rw [hst _ hz]; exact l3, l4, fun hr _ => absurd (l5 hr) he⟩)
        · rw [decide_eq_false k3]
          have hst : ∀ kv, stepW ⟨kind, key, to, m, by_⟩ (kvs l).length kv = kv := fun _ => by simp [stepW, k0, k1, k2, k3]
          repeat refine s1 ?_
          refine jh [hlog pl N] (j_ent (hlogUp (N' := N + 300 * t.kv.length + 9000) (by omega) _) ?_)
          exact f2 (true, (l, a, c), t.rt, S, D, t.kv) (hq := hsame (hst _) (hst _))
end Go.Proofs.YtcnpkmdooekmgaaGreatDoor
namespace Go.Proofs.YtcnpkmdooekmgaaGreatDoor
open Sl
theorem be_cong : ∀ {n a b : Nat}, a < 256 ^ n → b < 256 ^ n → be n a = be n b → a = b
  | 0, a, b, ha, hb, _ => by simp at ha hb; omega
  | n + 1, a, b, ha, hb, h => by
    rw [be_succ, be_succ] at h
    obtain ⟨h1, h2⟩ := List.append_inj h (by rw [be_len, be_len])
    rw [Nat.pow_succ] at ha hb
    have h3 := be_cong (n := n) (Nat.div_lt_of_lt_mul (by omega)) (Nat.div_lt_of_lt_mul (by omega)) h1
    have h4 := (List.cons.inj h2).1
    omega
theorem enc_first {m : Nd} (h : m.right) {k : Nat} (hk : m.keys.head? = some k) : (m.enc.drop 8).take 8 = be 8 k := by
  obtain ⟨leaf, keys, vals, kids⟩ := m
  obtain ⟨_, hl, hi⟩ := h
  dsimp only at hk hl hi
  obtain ⟨ks, rfl⟩ : ∃ ks, keys = k :: ks := by
    rcases keys with _ | ⟨k', ks⟩
    · cases hk
    · simp only [List.head?_cons, Option.some.injEq] at hk
      subst hk; exact ⟨ks, rfl⟩
  have key : ∀ x y : List Nat, (((Nd.head ⟨leaf, k :: ks, vals, kids⟩ ++ (be 8 k ++ x)) ++ y).drop 8).take 8 = be 8 k := fun x y => by
    rw [List.append_assoc, List.drop_left' (by rfl), List.append_assoc, List.take_left' (be_len 8 k)]
  unfold Nd.enc padTo
  rcases leaf with _ | _
  · obtain ⟨_, _, h3, _⟩ := hi rfl
    rcases kids with _ | ⟨r, rs⟩
    · simp at h3
    · simp only [Nd.rows, Bool.false_eq_true, if_false, List.zipWith_cons_cons, List.flatten_cons, List.append_assoc]
      have := key (r.enc ++ (List.zipWith (fun k (r : Rf) => be 8 k ++ r.enc) ks rs).flatten)
      simp only [List.append_assoc] at this
      exact this _
  · obtain ⟨_, _, h3, _⟩ := hl rfl
    rcases vals with _ | ⟨v, vs⟩
    · simp at h3
    · simp only [Nd.rows, if_true, List.zipWith_cons_cons, List.flatten_cons, List.append_assoc]
      have := key (v ++ (List.zipWith (fun k v => be 8 k ++ v) ks vs).flatten)
      simp only [List.append_assoc] at this
      exact this _
/-- a node's text begins with a key of its tree. -/
def Fk (g : Gd) (kv : KV) (s : Nat) : Prop := ∃ x ∈ kv, x.1 < 18446744073709551616 ∧ ((g.sec s).drop 8).take 8 = be 8 x.1
theorem sh_fk {g : Gd} : ∀ {h : Nat} {lo : Nat} {r : Rf} {kv : KV} {U : List Nat}, Sh g lo h r kv U → ∀ s ∈ U, Fk g kv s := by
  intro h
  induction h with
  | zero =>
    intro lo r kv U hs s hU
    obtain ⟨_, m, V, hn, hr, _, he, _, _, rfl⟩ := hs
    have hV : V = [] := hn.2.1
    subst hV
    obtain rfl := List.mem_singleton.1 hU
    have hok := nsh_ok hn
    have hf := nsh_fst hn
    rcases kv with _ | ⟨x, kv⟩
    · exfalso
      have h1 := hr.pos
      have : m.keys = [] := List.head?_eq_none_iff.1 hf
      rw [this] at h1; simp at h1
    · exact ⟨x, by simp, (hok x (by simp)).1, by rw [he]; exact enc_first hr hf⟩
  | succ h ih =>
    intro lo r kv U hs s hU
    obtain ⟨_, m, V, hn, hr, _, he, _, _, rfl⟩ := hs
    have hok := nsh_ok hn
    have hf := nsh_fst hn
    rcases List.mem_cons.1 hU with rfl | hU
    · rcases kv with _ | ⟨x, kv⟩
      · exfalso
        have h1 := hr.pos
        have : m.keys = [] := List.head?_eq_none_iff.1 hf
        rw [this] at h1; simp at h1
      · exact ⟨x, by simp, (hok x (by simp)).1, by rw [he]; exact enc_first hr hf⟩
    · obtain ⟨cs, _, rfl, rfl, hc⟩ := nsh_succ.1 hn
      obtain ⟨c, hcm, hsU⟩ := List.mem_flatMap.1 hU
      obtain ⟨x, hx, h1, h2⟩ := ih (hc c hcm).2 s hsU
      exact ⟨x, List.mem_flatMap.2 ⟨c, hcm, hx⟩, h1, h2⟩
theorem srt_apart {A B : KV} (h : Srt (A ++ B)) : ∀ x ∈ A, ∀ y ∈ B, x.1 ≠ y.1 := fun x hx y hy e => by
  have := (List.pairwise_append.1 h).2.2 x hx y hy
  omega
theorem kids_nodup {g : Gd} : ∀ {cs : List Ch}, (∀ c ∈ cs, c.U.Nodup ∧ ∀ s ∈ c.U, Fk g c.kv s) → Srt (cs.flatMap (·.kv)) → (cs.flatMap (·.U)).Nodup
  | [], _, _ => List.nodup_nil
  | c :: cs, h, hs => by
    rw [List.flatMap_cons] at hs ⊢
    have h2 := (List.pairwise_append.1 hs).2.1
    refine List.nodup_append.2 ⟨(h c (by simp)).1, kids_nodup (fun c' hc' => h c' (by simp [hc'])) h2, fun a ha b hb e => ?_⟩
    subst e
    obtain ⟨x, hx, x1, x2⟩ := (h c (by simp)).2 a ha
    obtain ⟨c', hc', hac⟩ := List.mem_flatMap.1 hb
    obtain ⟨y, hy, y1, y2⟩ := (h c' (by simp [hc'])).2 a hac
    rw [x2] at y2
    exact srt_apart hs x hx y (List.mem_flatMap.2 ⟨c', hc', hy⟩) (be_cong (by simpa using x1) (by simpa using y1) y2)
theorem sh_below {g : Gd} {rk : Nat → Nat} (hrk : ∀ p ks, g.K p = some ks → ∀ k ∈ ks, rk k < rk p) : ∀ {h : Nat} {lo : Nat} {r : Rf} {kv : KV} {U : List Nat}, Sh g lo h r kv U → ∃ V, U = r.sec :: V ∧ ∀ s ∈ V, rk s < rk r.sec := by
  intro h
  induction h with
  | zero =>
    intro lo r kv U hs
    obtain ⟨_, m, V, hn, _, _, _, _, _, rfl⟩ := hs
    have hV : V = [] := hn.2.1
    exact ⟨V, rfl, by rw [hV]; simp⟩
  | succ h ih =>
    intro lo r kv U hs
    obtain ⟨_, m, V, hn, _, _, _, _, hk, rfl⟩ := hs
    refine ⟨V, rfl, fun s hV => ?_⟩
    obtain ⟨cs, rfl, _, rfl, hc⟩ := nsh_succ.1 hn
    obtain ⟨c, hcm, hsU⟩ := List.mem_flatMap.1 hV
    obtain ⟨W, hW, hlt⟩ := ih (hc c hcm).2
    have h1 : rk c.rf.sec < rk r.sec := hrk _ _ hk _ (by simp only [inner, List.map_map]; exact List.mem_map.2 ⟨c, hcm, rfl⟩)
    rw [hW] at hsU
    rcases List.mem_cons.1 hsU with rfl | hsU
    · exact h1
    · have := hlt s hsU; omega
theorem sh_nodup {g : Gd} {rk : Nat → Nat} (hrk : ∀ p ks, g.K p = some ks → ∀ k ∈ ks, rk k < rk p) : ∀ {h : Nat} {lo : Nat} {r : Rf} {kv : KV} {U : List Nat}, Sh g lo h r kv U → Srt kv → U.Nodup := by
  intro h
  induction h with
  | zero =>
    intro lo r kv U hs _
    obtain ⟨_, m, V, hn, _, _, _, _, _, rfl⟩ := hs
    have hV : V = [] := hn.2.1
    rw [hV]; simp
  | succ h ih =>
    intro lo r kv U hs hsr
    obtain ⟨V', hV', hlt⟩ := sh_below hrk hs
    obtain ⟨_, m, V, hn, _, _, _, _, _, rfl⟩ := hs
    obtain rfl := (List.cons.inj hV').2
    obtain ⟨cs, _, rfl, rfl, hc⟩ := nsh_succ.1 hn
    refine List.nodup_cons.2 ⟨fun hm => by have := hlt _ hm; omega, kids_nodup (g := g) (fun c hcm => ⟨ih (hc c hcm).2 ?_, sh_fk (hc c hcm).2⟩) hsr⟩
    obtain ⟨a, b, rfl⟩ := List.append_of_mem hcm
    rw [List.flatMap_append, List.flatMap_cons] at hsr
    exact (List.pairwise_append.1 (List.pairwise_append.1 hsr).2.1).1
/-- one tree alone on its store: as many nodes are kept as it has. -/
theorem one_nodes {S : St} {t : Tre} {r : Rf} {h : Nat} {U : List Nat} (hok : TsOk S [t]) (hr : t.rt = some r) (hs : Sh S.g 1 h r t.kv U) : card S.K = U.length := by
  obtain ⟨rk, hrk⟩ := hok.ok.rk
  obtain ⟨l, hl⟩ := hok.ok.fin
  have hnd := sh_nodup (g := S.g) hrk hs (hok.each t (by simp)).srt
  have h1 : ∀ s, S.K s ≠ none → s ∈ U := cover hok.ok hok.tight (· ∈ U) (fun s h0 => by
    rw [hok.E] at h0
    obtain ⟨t', ht, r', hr', rfl⟩ := hold_pos h0
    obtain rfl := List.mem_singleton.1 ht
    rw [hr] at hr'
    cases hr'
    exact sh_root hs) (fun s ks hU hk k hkk => by
      obtain ⟨ks', e, hh⟩ := sh_known hs s hU
      rw [show S.g.K s = S.K s from rfl, hk] at e
      cases e
      exact hh k hkk)
  have h2 : ∀ s ∈ U, S.K s ≠ none := fun s hU => by
    obtain ⟨ks, e, _⟩ := sh_known hs s hU
    rw [show S.K s = S.g.K s from rfl, e]; simp
  refine Nat.le_antisymm (card_cover ⟨l, hl⟩ h1) ?_
  rw [card_rep hl]
  have := sub_len hnd (b := l.map Prod.fst) (fun s hU => (rep_keys hl s).2 (h2 s hU))
  simpa using this
theorem no_nodes {S : St} {t : Tre} (hok : TsOk S [t]) (hr : t.rt = none) : card S.K = 0 := by
  have := card_cover hok.ok.fin (U := []) (cover hok.ok hok.tight (· ∈ []) (fun s h0 => by
    rw [hok.E] at h0
    obtain ⟨t', ht, r', hr', rfl⟩ := hold_pos h0
    obtain rfl := List.mem_singleton.1 ht
    rw [hr] at hr'; cases hr') (fun s ks hU => by simp at hU))
  simpa using this
end Go.Proofs.YtcnpkmdooekmgaaGreatDoor
namespace Go.Proofs.YtcnpkmdooekmgaaGreatDoor
open Go Sl
theorem o2cells_at {os : List Op2} {i : Nat} {o : Op2} (h : os[i]? = some o) : ∀ (j : Nat) (v : Value), (o2cells o)[j]? = some v → (os.flatMap o2cells)[i * 5 + j]? = some v := fun j v hv => by
  rw [flat_in (f := o2cells) (c := 5) (l := os) (fun _ _ => rfl) h (by have := (List.getElem?_eq_some_iff.1 hv).1; simpa using this)]
  exact hv
def LbO (i n : Nat) : Prop := n + 40 ≤ 40 * 2 ^ i
def WbO (i w : Nat) : Prop := w ≤ 800000 * i
def NbO (i : Nat) : Nat := 4000000 * i
theorem wb_step {i w w2 k p : Nat} (h : WbO i w) (h2 : w2 ≤ w + 70 * (k + 40)) (h3 : k + 40 ≤ 40 * p) (h4 : p ≤ 256) : WbO (i + 1) w2 := by
  unfold WbO at *
  rw [Nat.mul_succ]
  exact Nat.le_trans h2 (Nat.add_le_add h (Nat.le_trans (Nat.mul_le_mul_left 70 (Nat.le_trans h3 (Nat.mul_le_mul_left 40 h4))) (by decide)))
/-- what a tree's shape says of it. -/
structure ShpO (S : St) (t : Tre) (z : Nat × Nat × Nat) : Prop where
  nd : z.2.1 = card S.K
  four : z.2.2 ≤ 1 ∨ 4 * z.2.2 ≤ t.kv.length
  nine : t.kv.length ≤ 9 * z.2.2
  deep : z.1 = 0 ↔ t.kv.length = 0
  le : z.2.2 ≤ z.2.1
theorem ShpQ.one {S : St} {t : Tre} {z : Nat × Nat × Nat} (h : ShpQ S t z) (hok : TsOk S [t]) : ShpO S t z := by
  have ht := hok.each t (by simp)
  rcases hr : t.rt with _ | r
  · obtain rfl := h.no hr
    have hk := ht.nil hr
    exact ⟨(no_nodes hok hr).symm, .inl (by simp), by rw [hk]; simp, by rw [hk]; simp, Nat.le_refl _⟩
  · obtain ⟨hh, U, hs, h1, h2, h3⟩ := h.yes r hr
    have hne := (ht.sh hr).2.1
    have hl : 0 < t.kv.length := List.length_pos_iff.2 hne
    exact ⟨h2.trans (one_nodes hok hr hs).symm, h3.one.imp (fun e => by omega) id, h3.most, by omega, by rw [h2]; exact h3.le⟩
attribute [local irreducible] cw sw J Exit.then Exit.inBlock Exit.noGoto bodyPost swG swL permL
set_option maxHeartbeats 2000000 in
theorem worder_l (a : Option Addr) (c : Nat) (os : List Op2) (ho : ∀ o ∈ os, o.wt) (a2 : Option Addr) (c2 : Nat) (ms : List Opn) (hm : ∀ o ∈ ms, o.wt) (Φ : Base) (hT : Tab Φ) :
    Sl.Fn Tryz.prog Φ F.casematelaw16_WalkOrder [.slice a os.length c, .slice a2 ms.length c2] [isl a os.length c T.casematelaw16_Op 5 (os.flatMap o2cells), isl a2 ms.length c2 T.casematelaw15_Op 5 (ms.flatMap ocells)] (fun _ : Unit => True) (fun _ => .bool true) (fun _ => []) := by
  refine fo fun F => ?_
  repeat refine s1 ?_
  refine cx (begin_c 800 (by decide) (by decide) Φ) (fun z _ => ?_)
  obtain ⟨pd, ps, pl⟩ := z
  dsimp only
  repeat refine s1 ?_
  refine cx (tnew_c ps Φ) (fun tp _ => ?_)
  repeat refine s3 ?_
  refine j_ent (rvals_nil _) ?_
  refine j_ent (rowV_nil _) (fz ?_)
  refine jh [hlog pl 0] (j_ent (hlogUp (N' := NbO 0) (Nat.zero_le _) _) ?_)
  refine t_meet (σ := Nat × Option Rf × St × Dk × KV) (fun z => [(8, ptr tp), (1, .slice a2 ms.length c2), (6, ptr ps)])
    (fun z => tree tp ps z.2.1 :: store ps z.2.2.1 :: disk pd z.2.2.2.1 :: hlog pl (NbO z.1) :: isl a2 ms.length c2 T.casematelaw15_Op 5 (ms.flatMap ocells) :: F)
    (fun z => z.1 ≤ 8 ∧ Lv pd pl 800 z.2.2.1 z.2.2.2.1 ([] ++ ⟨tp, z.2.1, z.2.2.2.2⟩ :: []) ∧ LbO z.1 z.2.2.2.2.length ∧ WbO z.1 z.2.2.2.1.waits.length) ?_ ?_
  · refine t_block ?_
    repeat refine s1 ?_
    refine t_loop (σ := Nat × (List RP × Option Addr × Nat) × Option Rf × St × Dk × KV) (fun z => [(10, i64 z.1), (9, .slice z.2.1.2.1 z.2.1.1.length z.2.1.2.2), (8, ptr tp), (0, .slice a os.length c), (1, .slice a2 ms.length c2), (6, ptr ps)])
      (fun z => rowR z.2.1.2.1 z.2.1.1.length z.2.1.2.2 z.2.1.1 :: rvals z.2.1.1 :: tree tp ps z.2.2.1 :: store ps z.2.2.2.1 :: disk pd z.2.2.2.2.1 :: hlog pl (NbO z.1) :: isl a os.length c T.casematelaw16_Op 5 (os.flatMap o2cells) :: isl a2 ms.length c2 T.casematelaw15_Op 5 (ms.flatMap ocells) :: F)
      (fun z => z.1 ≤ os.length ∧ z.1 ≤ 8 ∧ Srt (kvs z.2.1.1) ∧ Lv pd pl 800 z.2.2.2.1 z.2.2.2.2.1 ([] ++ ⟨tp, z.2.2.1, z.2.2.2.2.2⟩ :: []) ∧ LbO z.1 z.2.1.1.length ∧ LbO z.1 z.2.2.2.2.2.length ∧ WbO z.1 z.2.2.2.2.1.waits.length) (fun z => os.length - z.1)
      (0, ([], none, 0), none, St0 pd pl 3 800, Dk0 803, []) ⟨Nat.zero_le _, Nat.zero_le _, List.Pairwise.nil, Lv.begin pd pl 800 tp, by simp [LbO], by simp [LbO], Nat.zero_le _⟩ ⟨rfl, rfl, rfl, rfl, rfl, rfl, trivial⟩ leD ?_
    rintro ⟨i, ⟨l, la, lc⟩, rt, S, D, kv⟩ ⟨h1, h2, h3, h4, h5, h6, h7⟩
    dsimp only at h1 h2 h3 h4 h5 h6 h7 ⊢
    have j5 := h5
    have j6 := h6
    unfold LbO at j5 j6
    have h8 : 2 ^ i ≤ 256 := Nat.pow_le_pow_right (show 0 < 2 by omega) h2
    refine jh [isl a os.length c T.casematelaw16_Op 5 (os.flatMap o2cells)] (j_leni (fun _ _ hoa => ?_))
    repeat refine s1 ?_
    refine r_iop rfl rfl rfl rfl ?_
    rcases (show (i < os.length ∧ i < 8) ∨ ¬ (i < os.length ∧ i < 8) from Decidable.em _) with ⟨hi, hi3⟩ | hi
    · rw [decide_eq_true (show (i : Int) < (os.length : Int) by omega)]
      repeat refine s1 ?_
      refine r_iop rfl rfl rfl rfl ?_
      rw [decide_eq_true (show (i : Int) < 8 by omega)]
      obtain ⟨ob, oo, rfl⟩ := hoa (by omega)
      obtain ⟨o, hox⟩ : ∃ o, os[i]? = some o := ⟨_, List.getElem?_eq_getElem hi⟩
      have how := ho o (List.mem_of_getElem? hox)
      repeat refine s1 ?_
      refine ix rfl rfl hi ?_
      refine r_loadIA (off := oo) (n := os.length) (cap := c) (E := T.casematelaw16_Op) (s := 5) (xs := os.flatMap o2cells) (vs := o2cells o) rfl (j := i * 5) (by omega) (by rfl) (o2cells_at hox) rfl rfl ?_
      refine cx (do2_c ps pd pl 800 (NbO i) S D [] [] ⟨tp, rt, kv⟩ la lc l o how h3 (by omega) h4 (by simp) (by unfold NbO; omega) (by unfold WbO at h7; omega) (by dsimp only; omega) Φ hT) (fun z hz => ?_)
      obtain ⟨bb, ⟨l2, a2', c2'⟩, rt2, S2, D2, kv2⟩ := z
      obtain ⟨hz1, hz2, hz3, hz4, _⟩ := hz
      dsimp only at hz1 hz2 hz3 hz4 ⊢
      have q3 : WbO (i + 1) D2.waits.length := wb_step h7 hz4 j6 h8
      have hkl : (kvs l).length = l.length := by simp [kvs]
      have hl2 : l2.length = (stepW o (kvs l).length (kvs l)).length := by have := congrArg List.length hz1; simpa [kvs] using this
      have hb1 := stepW_len o (kvs l).length (kvs l)
      have hb2 : kv2.length ≤ 2 * kv.length + 40 := by
        rcases hz3 with rfl | rfl
        · omega
        · exact stepW_len o _ kv
      have h9 : 2 ^ (i + 1) = 2 * 2 ^ i := by rw [Nat.pow_succ]; omega
      have q0 : Srt (kvs l2) := by rw [hz1]; exact stepW_srt o _ h3
      have q1 : LbO (i + 1) l2.length := by unfold LbO at *; omega
      have q2 : LbO (i + 1) kv2.length := by unfold LbO at *; omega
      repeat refine s1 ?_
      refine jh [hlog pl (NbO i + 300 * kv.length + 9000)] (j_ent (hlogUp (N' := NbO (i + 1)) (by unfold NbO; omega) _) ?_)
      exact j_again (i + 1, (l2, a2', c2'), rt2, S2, D2, kv2) ⟨hi, hi3, q0, hz2, q1, q2, q3⟩ (show os.length - (i + 1) < os.length - i by omega) ⟨rfl, rfl, rfl, rfl, rfl, rfl, trivial⟩ leD
    · by_cases hi1 : i < os.length
      · rw [decide_eq_true (show (i : Int) < (os.length : Int) by omega)]
        repeat refine s1 ?_
        refine r_iop rfl rfl rfl rfl ?_
        rw [decide_eq_false (show ¬ (i : Int) < 8 by omega)]
        repeat refine s1 ?_
        exact j_meet (i, rt, S, D, kv) ⟨h2, h4, h6, h7⟩ ⟨rfl, rfl, rfl, trivial⟩ leD
      · rw [decide_eq_false (show ¬ (i : Int) < (os.length : Int) by omega)]
        repeat refine s1 ?_
        exact j_meet (i, rt, S, D, kv) ⟨h2, h4, h6, h7⟩ ⟨rfl, rfl, rfl, trivial⟩ leD
  rintro ⟨i0, rt, S, D, kv⟩ ⟨g1, g2, g3, g4⟩
  dsimp only at g1 g2 g3 g4 ⊢
  unfold WbO at g4
  unfold LbO at g3
  have g5 : 2 ^ i0 ≤ 256 := Nat.pow_le_pow_right (show 0 < 2 by omega) g1
  refine jh [hlog pl (NbO i0)] (j_ent (hlogUp (N' := 32000000 + 200 * 0) (by unfold NbO; omega) _) ?_)
  repeat refine s3 ?_
  refine t_meet (σ := Nat × Option Rf × St × Dk × KV) (fun z => [(8, ptr tp), (6, ptr ps)])
    (fun z => tree tp ps z.2.1 :: store ps z.2.2.1 :: disk pd z.2.2.2.1 :: hlog pl (32000000 + 200 * z.1) :: F)
    (fun z => z.1 ≤ 150 ∧ Lv pd pl 800 z.2.2.1 z.2.2.2.1 ([] ++ ⟨tp, z.2.1, z.2.2.2.2⟩ :: []) ∧ z.2.2.2.2.length ≤ 10240 + z.1 ∧ z.2.2.2.1.waits.length ≤ 6400000 + 70 * z.1) ?_ ?_
  · refine t_block ?_
    repeat refine s1 ?_
    refine t_loop (σ := Nat × Option Rf × St × Dk × KV) (fun z => [(11, i64 z.1), (8, ptr tp), (1, .slice a2 ms.length c2), (6, ptr ps)])
      (fun z => tree tp ps z.2.1 :: store ps z.2.2.1 :: disk pd z.2.2.2.1 :: hlog pl (32000000 + 200 * z.1) :: isl a2 ms.length c2 T.casematelaw15_Op 5 (ms.flatMap ocells) :: F)
      (fun z => z.1 ≤ ms.length ∧ z.1 ≤ 150 ∧ Lv pd pl 800 z.2.2.1 z.2.2.2.1 ([] ++ ⟨tp, z.2.1, z.2.2.2.2⟩ :: []) ∧ z.2.2.2.2.length ≤ 10240 + z.1 ∧ z.2.2.2.1.waits.length ≤ 6400000 + 70 * z.1) (fun z => ms.length - z.1)
      (0, rt, S, D, kv) ⟨Nat.zero_le _, Nat.zero_le _, g2, (by dsimp only; omega), (by dsimp only; omega)⟩ ⟨rfl, rfl, rfl, rfl, trivial⟩ leD ?_
    rintro ⟨i, rt1, S1, D1, kv1⟩ ⟨h1, h2, h4, h5, h6⟩
    dsimp only at h1 h2 h4 h5 h6 ⊢
    refine jh [isl a2 ms.length c2 T.casematelaw15_Op 5 (ms.flatMap ocells)] (j_leni (fun _ _ hoa => ?_))
    repeat refine s1 ?_
    refine r_iop rfl rfl rfl rfl ?_
    rcases (show (i < ms.length ∧ i < 150) ∨ ¬ (i < ms.length ∧ i < 150) from Decidable.em _) with ⟨hi, hi3⟩ | hi
    · rw [decide_eq_true (show (i : Int) < (ms.length : Int) by omega)]
      repeat refine s1 ?_
      refine r_iop rfl rfl rfl rfl ?_
      rw [decide_eq_true (show (i : Int) < 150 by omega)]
      obtain ⟨ob, oo, rfl⟩ := hoa (by omega)
      obtain ⟨o, hox⟩ : ∃ o, ms[i]? = some o := ⟨_, List.getElem?_eq_getElem hi⟩
      have how := hm o (List.mem_of_getElem? hox)
      refine jh [isl (some ⟨ob, oo, none⟩) ms.length c2 T.casematelaw15_Op 5 (ms.flatMap ocells)] ?_
      repeat refine s1 ?_
      refine ix rfl rfl hi ?_
      repeat refine s1 ?_
      refine r_loadI (off := oo) (n := ms.length) (cap := c2) (E := T.casematelaw15_Op) (s := 5) (xs := ms.flatMap ocells) (v := .int .i64 o.kind) rfl (j := i * 5) (by omega) (ocells_at hox 0 _ rfl) rfl rfl ?_
      repeat refine s1 ?_
      refine r_icmp rfl rfl rfl rfl ?_
      by_cases hk : o.kind = 1
      · rw [decide_eq_true hk]
        repeat refine s1 ?_
        refine ix rfl rfl hi ?_
        repeat refine s1 ?_
        refine r_loadI (off := oo) (n := ms.length) (cap := c2) (E := T.casematelaw15_Op) (s := 5) (xs := ms.flatMap ocells) (v := w64 o.key) rfl (j := i * 5 + 1) (by omega) (ocells_at hox 1 _ rfl) rfl rfl ?_
        repeat refine s1 ?_
        refine cx (tdel_c ps pd pl (32000000 + 200 * i) o.key S1 D1 [] [] ⟨tp, rt1, kv1⟩ how.key h4.ok h4.agr (by omega) (by omega) (by dsimp only; omega) (by simp) h4.pd h4.pl Φ hT) (fun x hx => ?_)
        obtain ⟨kv3, g4, g5, g6⟩ := h4.step hx.1 (m := kv1.length + 1) (Nat.le_succ _) (Nat.le_trans del_le (Nat.le_succ _))
        have q1 : kv3.length ≤ 10240 + (i + 1) := by omega
        have q3 : x.2.2.2.waits.length ≤ 6400000 + 70 * (i + 1) := by omega
        repeat refine s1 ?_
        refine jh [hlog pl (32000000 + 200 * i + 200)] (j_ent (hlogUp (N' := 32000000 + 200 * (i + 1)) (by omega) _) ?_)
        exact j_again (i + 1, x.2.1, x.2.2.1, x.2.2.2, kv3) ⟨by omega, by omega, g4, q1, q3⟩ (show ms.length - (i + 1) < ms.length - i by omega) ⟨rfl, rfl, rfl, rfl, trivial⟩ leD
      · rw [decide_eq_false hk]
        repeat refine s1 ?_
        refine t_draw [isl (some ⟨ob, oo, none⟩) ms.length c2 T.casematelaw15_Op 5 (ms.flatMap ocells)] [5, 10] mixed (by decide +kernel) ?_
        repeat refine s1 ?_
        refine ix rfl rfl hi ?_
        repeat refine s1 ?_
        refine s_loadBy (v := w64 o.key) rfl (fun w hh => run_loadI (j := i * 5 + 1) hh (by omega) (ocells_at hox 1 _ rfl)) rfl rfl ?_
        repeat refine s1 ?_
        refine ix rfl rfl hi ?_
        repeat refine s1 ?_
        refine s_loadBy (v := u8 o.by_) rfl (fun w hh => run_loadI (j := i * 5 + 3) hh (by omega) (ocells_at hox 3 _ rfl)) rfl rfl ?_
        repeat refine s1 ?_
        refine cl (val_c o.by_ 1 Φ) ?_
        repeat refine s1 ?_
        refine cx (tput_c ps pd pl (32000000 + 200 * i) o.key (valL o.by_ 1) S1 D1 [] [] ⟨tp, rt1, kv1⟩ how.key (valL_bytes how.by_) h4.ok h4.agr (by omega) (by omega) (by dsimp only; omega) (by simp) h4.pd h4.pl Φ hT) (fun x hx => ?_)
        obtain ⟨kv3, g4, g5, g6⟩ := h4.step hx (m := kv1.length + 1) (Nat.le_succ _) (ins_len kv1).2
        have q1 : kv3.length ≤ 10240 + (i + 1) := by omega
        have q3 : x.2.2.2.waits.length ≤ 6400000 + 70 * (i + 1) := by omega
        repeat refine s1 ?_
        refine jh [hlog pl (32000000 + 200 * i + 200)] (j_ent (hlogUp (N' := 32000000 + 200 * (i + 1)) (by omega) _) ?_)
        exact j_again (i + 1, x.2.1, x.2.2.1, x.2.2.2, kv3) ⟨by omega, by omega, g4, q1, q3⟩ (show ms.length - (i + 1) < ms.length - i by omega) ⟨rfl, rfl, rfl, rfl, trivial⟩ leD
    · by_cases hi1 : i < ms.length
      · rw [decide_eq_true (show (i : Int) < (ms.length : Int) by omega)]
        repeat refine s1 ?_
        refine r_iop rfl rfl rfl rfl ?_
        rw [decide_eq_false (show ¬ (i : Int) < 150 by omega)]
        repeat refine s1 ?_
        exact j_meet (i, rt1, S1, D1, kv1) ⟨h2, h4, h5, h6⟩ ⟨rfl, rfl, trivial⟩ leD
      · rw [decide_eq_false (show ¬ (i : Int) < (ms.length : Int) by omega)]
        repeat refine s1 ?_
        exact j_meet (i, rt1, S1, D1, kv1) ⟨h2, h4, h5, h6⟩ ⟨rfl, rfl, trivial⟩ leD
  rintro ⟨i1, rt1, S1, D1, kv1⟩ ⟨f1', f2', f3', f4'⟩
  dsimp only at f1' f2' f3' f4' ⊢
  have ht := f2'.ok.each (⟨tp, rt1, kv1⟩ : Tre) (by simp)
  repeat refine s1 ?_
  refine cx (look_c ps pd pl (32000000 + 200 * i1) S1 D1 ⟨tp, rt1, kv1⟩ ht f2'.ok.ok f2'.agr f2'.up (by dsimp only; omega) (by dsimp only; omega) f2'.pd f2'.pl Φ) (fun z hz => ?_)
  have ho1 := hz.one f2'.ok
  obtain ⟨dp, nd, lf⟩ := z
  obtain ⟨o1, o2, o3, o4, o5⟩ := ho1
  dsimp only at o1 o2 o3 o4 o5 ⊢
  repeat refine s1 ?_
  refine al (cs := shpL (0, 0, 0) 0) (fun t12 => ?_)
  refine r_storeW (vs := shpL (dp, nd, lf) kv1.length) rfl rfl (by rfl) (by rfl) (by simp [Value.oneCell']) rfl ?_
  repeat refine s1 ?_
  refine cx (all_c ps pd pl (32000000 + 200 * i1 + 13 * kv1.length + 300) S1 D1 ⟨tp, rt1, kv1⟩ ht f2'.ok.ok f2'.agr (by omega) (by dsimp only; omega) f2'.pd f2'.pl Φ) (fun z hz => ?_)
  obtain ⟨lw, aw, cw⟩ := z
  have hkw : kvs lw = kv1 := hz (.inl f2'.up)
  have hlw : lw.length = kv1.length := by have := congrArg List.length hkw; simpa [kvs] using this
  rw [decide_eq_true (show D1.down = false ∨ Tre.rt ⟨tp, rt1, kv1⟩ = none from .inl f2'.up)]
  dsimp only
  repeat refine s1 ?_
  refine t_draw [pt t12 (.cells (shpL (dp, nd, lf) kv1.length).toArray T.walk_Shape (0, 0))] [8, 15] mixed (by decide +kernel) ?_
  repeat refine s2 ?_
  refine r_icmp rfl rfl rfl rfl ?_
  rw [hlw, show (!decide ((kv1.length : Int) = (kv1.length : Int))) = false by simp]
  repeat refine s1 ?_
  refine cl (sused_c ps S1 noδ Φ) ?_
  repeat refine s1 ?_
  refine r_icmp rfl rfl rfl rfl ?_
  rw [o1, show (!decide ((card S1.K : Int) = (card S1.K : Int))) = false by simp]
  repeat refine s1 ?_
  refine cl (alive2_c Φ hT) ?_
  repeat refine s1 ?_
  refine r_icmp rfl rfl rfl rfl ?_
  have hlf : lf ≤ 20000 := by omega
  by_cases h1 : lf ≤ 1
  · rw [decide_eq_true (show (lf : Int) ≤ 1 by omega)]
    repeat refine s1 ?_
    refine r_mulN (m := 9) (n := lf) rfl rfl (by omega) rfl ?_
    repeat refine s1 ?_
    refine r_icmp rfl rfl rfl rfl ?_
    rw [decide_eq_true (show (kv1.length : Int) ≤ ((9 * lf : Nat) : Int) by omega)]
    repeat refine s1 ?_
    refine r_icmp rfl rfl rfl rfl ?_
    repeat refine s1 ?_
    refine r_icmp rfl rfl rfl rfl ?_
    repeat refine s1 ?_
    refine r_beq rfl rfl rfl ?_
    rw [show (decide ((dp : Int) = 0) == decide ((kv1.length : Int) = 0)) = true by
      rw [beq_iff_eq, decide_eq_decide]; omega]
    repeat refine s1 ?_
    refine r_icmp rfl rfl rfl rfl ?_
    rw [decide_eq_true (show (card S1.K : Int) ≥ (lf : Int) by omega)]
    repeat refine s1 ?_
    exact f1 ()
  · rw [decide_eq_false (show ¬ (lf : Int) ≤ 1 by omega)]
    repeat refine s1 ?_
    refine r_mulN (m := 4) (n := lf) rfl rfl (by omega) rfl ?_
    repeat refine s1 ?_
    refine r_icmp rfl rfl rfl rfl ?_
    rw [decide_eq_true (show (kv1.length : Int) ≥ ((4 * lf : Nat) : Int) by omega)]
    repeat refine s1 ?_
    refine r_mulN (m := 9) (n := lf) rfl rfl (by omega) rfl ?_
    repeat refine s1 ?_
    refine r_icmp rfl rfl rfl rfl ?_
    rw [decide_eq_true (show (kv1.length : Int) ≤ ((9 * lf : Nat) : Int) by omega)]
    repeat refine s1 ?_
    refine r_icmp rfl rfl rfl rfl ?_
    repeat refine s1 ?_
    refine r_icmp rfl rfl rfl rfl ?_
    repeat refine s1 ?_
    refine r_beq rfl rfl rfl ?_
    rw [show (decide ((dp : Int) = 0) == decide ((kv1.length : Int) = 0)) = true by
      rw [beq_iff_eq, decide_eq_decide]; omega]
    repeat refine s1 ?_
    refine r_icmp rfl rfl rfl rfl ?_
    rw [decide_eq_true (show (card S1.K : Int) ≥ (lf : Int) by omega)]
    repeat refine s1 ?_
    exact f1 ()
end Go.Proofs.YtcnpkmdooekmgaaGreatDoor
