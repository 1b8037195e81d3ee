/-
  The contracts of the functions on replies. For each input.
-/
import Derived.Test.YtbecjgikhfplmaaReq4
namespace Go.Proofs.Ytbecjgikhfplmaa
open Go Sl
attribute [local irreducible] cw sw J Exit.then Exit.inBlock Exit.noGoto bodyPost swG swL permL
/-- a reply of bytes: its error, its number, its data. -/
def repDec (b : List Nat) : Option (Nat × Nat × List Nat) :=
  if b.length < 6 then none else if 2147483647 < num ((b.drop 2).take 4) ∨ 4096 < (b.drop 6).length then none else some (num (b.take 2), num ((b.drop 2).take 4), b.drop 6)
theorem repDecode_c (a : Option Addr) (n cap : Nat) (b : List Nat) (hn : b.length = n) (hb : n ≤ 140737488355328) (hx : ∀ x ∈ b, x < 256) (Φ : Base) :
    Sl.Fn Try.prog Φ F.reply_Decode [.slice a n cap] [brow a n cap b] (fun _ : Option Addr => True)
      (fun q => match repDec b with
        | none => .tuple #[.agg #[i64 0, i64 0, .slice none 0 0], i64 3]
        | some r => .tuple #[.agg #[i64 r.1, i64 r.2.1, .slice q r.2.2.length r.2.2.length], i64 0])
      (fun q => match repDec b with
        | none => []
        | some r => [brow q r.2.2.length r.2.2.length r.2.2]) := by
  refine fn_of rfl rfl (fun F => ?_)
  dsimp only [argEnv, List.cons_append, List.nil_append, Nat.zero_add, Nat.reduceAdd]
  repeat refine s1 ?_
  refine r_alloc rfl rfl rfl (fun b2 => ?_)
  repeat refine s1 ?_
  refine r_call rfl (blt_some rfl) rfl (read_c a n cap b hb hn Φ) ?_
  intro p _
  dsimp only [bnd, List.cons_append, List.nil_append]
  repeat refine s1 ?_
  refine r_call rfl (blt_some rfl) rfl (U16_c p (some b) (fun bs h => by cases h; exact hx) Φ) ?_
  intro _ _; dsimp only [bnd, List.cons_append, List.nil_append]
  repeat refine s1 ?_
  have hs0 : ∀ bs, some b = some bs → ∀ x ∈ bs, x < 256 := fun bs h => by cases h; exact hx
  have l1 : (rdU 2 (some b)).1 < 65536 := rdU_lt (w := 2) hs0
  rw [i64_nat (n := (rdU 2 (some b)).1) (by omega)]
  refine r_call rfl (blt_some rfl) rfl (U32_c p (rdU 2 (some b)).2 (rdU_bytes hs0) Φ) ?_
  intro _ _; dsimp only [bnd, List.cons_append, List.nil_append]
  have l2 : (rdU 4 (rdU 2 (some b)).2).1 < 4294967296 := rdU_lt (w := 4) (rdU_bytes hs0)
  repeat refine s1 ?_
  rw [i64_nat (n := (rdU 4 (rdU 2 (some b)).2).1) (by omega)]
  refine r_build (cells := [i64 (rdU 2 (some b)).1, i64 (rdU 4 (rdU 2 (some b)).2).1, .slice none 0 0]) rfl rfl rfl ?_
  refine r_alloc rfl rfl rfl (fun b5 => ?_)
  refine r_storeW rfl rfl (by rfl) (by rfl) (by simp [Value.oneCell']) rfl ?_
  repeat refine s1 ?_
  refine r_call rfl (blt_some rfl) rfl (restX_c p (rdU 4 (rdU 2 (some b)).2).2 (by have h1 := left_le 4 (rdU 2 (some b)).2; have h2 := left_le 2 (some b); have h3 : (left (some b)).length = n := hn; omega) Φ) ?_
  intro q _
  dsimp only [bnd, List.cons_append, List.nil_append]
  repeat refine s1 ?_
  refine r_store1 rfl rfl (by simp) rfl rfl ?_
  repeat refine s1 ?_
  by_cases h6 : n < 6
  · have hd : repDec b = none := by unfold repDec; rw [if_pos (by omega)]
    rw [hd]
    refine r_cmpT rfl rfl rfl (by simp; omega) rfl ?_
    repeat refine s1 ?_
    refine r_build (cells := [i64 0, i64 0, .slice none 0 0]) rfl rfl rfl ?_
    refine r_storeW rfl rfl (by rfl) (by rfl) (by simp [Value.oneCell']) rfl ?_
    repeat refine s1 ?_
    refine j_fin rfl (.cons (rv_agg (U := 50) (fr := (0, 0)) rfl (by rfl)) (.cons (rv_tmp rfl) .nil)) none (by rfl) (by trivial)
  · have e1 : rdU 2 (some b) = (num (b.take 2), some (b.drop 2)) := by simp only [rdU]; rw [if_pos (by omega)]
    have e2 : rdU 4 (some (b.drop 2)) = (num ((b.drop 2).take 4), some (b.drop 6)) := by simp only [rdU]; rw [if_pos (by simp; omega), List.drop_drop]
    rw [e1] at *
    dsimp only at *
    rw [e2] at *
    dsimp only [left] at *
    refine r_cmpF rfl rfl rfl (by simp; omega) rfl ?_
    repeat refine s1 ?_
    have hlen : (b.drop 6).length = n - 6 := by simp [hn]
    by_cases hN : 2147483647 < num ((b.drop 2).take 4)
    · have hd : repDec b = none := by unfold repDec; rw [if_neg (by omega), if_pos (.inl hN)]
      rw [hd]
      refine r_cmpT rfl rfl rfl (by simp; omega) rfl ?_
      repeat refine s1 ?_
      refine r_build (cells := [i64 0, i64 0, .slice none 0 0]) rfl rfl rfl ?_
      refine r_storeW rfl rfl (by rfl) (by rfl) (by simp [Value.oneCell']) rfl ?_
      repeat refine s1 ?_
      refine j_fin rfl (.cons (rv_agg (U := 50) (fr := (0, 0)) rfl (by rfl)) (.cons (rv_tmp rfl) .nil)) none (by rfl) (by trivial)
    · refine r_cmpF rfl rfl rfl (by simp; omega) rfl ?_
      repeat refine s1 ?_
      by_cases hD : 4096 < (b.drop 6).length
      · have hd : repDec b = none := by unfold repDec; rw [if_neg (by omega), if_pos (.inr hD)]
        rw [hd]
        refine r_cmpT rfl rfl rfl (by simp; omega) rfl ?_
        repeat refine s1 ?_
        refine r_build (cells := [i64 0, i64 0, .slice none 0 0]) rfl rfl rfl ?_
        refine r_storeW rfl rfl (by rfl) (by rfl) (by simp [Value.oneCell']) rfl ?_
        repeat refine s1 ?_
        refine j_fin rfl (.cons (rv_agg (U := 50) (fr := (0, 0)) rfl (by rfl)) (.cons (rv_tmp rfl) .nil)) none (by rfl) (by trivial)
      · have hd : repDec b = some (num (b.take 2), num ((b.drop 2).take 4), b.drop 6) := by unfold repDec; rw [if_neg (by omega), if_neg (fun h => h.elim hN hD)]
        rw [hd]
        refine r_cmpF rfl rfl rfl (by simp; omega) rfl ?_
        repeat refine s1 ?_
        refine r_storeW rfl rfl (by rfl) (by rfl) (by simp [Value.oneCell']) rfl ?_
        repeat refine s1 ?_
        refine j_fin rfl (.cons (rv_agg (U := 50) (fr := (0, 0)) rfl (by rfl)) (.cons (rv_tmp rfl) .nil)) q (by rfl) (by trivial)
/-- a reply as bytes. -/
def repOut (e n : Int) (d : List Nat) : List Nat := be 2 e.toNat ++ be 4 n.toNat ++ d
def repEnc (e n : Int) (d : List Nat) : Option (List Nat) :=
  if e < 0 then none else if 65535 < e then none else if n < 0 then none else if 2147483647 < n then none else if 4096 < d.length then none else some (repOut e n d)
theorem repEncode_c (e n : Int) (a : Option Addr) (l cap : Nat) (d : List Nat) (hl : d.length = l) (Φ : Base) :
    Sl.Fn Try.prog Φ F.reply_Encode [.agg #[.int .i64 e, .int .i64 n, .slice a l cap]] [brow a l cap d] (fun _ : Option Addr × Nat => True)
      (fun q => match repEnc e n d with
        | none => .tuple #[.slice none 0 0, i64 3]
        | some r => .tuple #[.slice q.1 r.length q.2, i64 0])
      (fun q => match repEnc e n d with
        | none => []
        | some r => [vec q.1 r.length q.2 T.uint8 1 (r.map u8)]) := by
  refine fn_of rfl rfl (fun F => ?_)
  dsimp only [argEnv, List.cons_append, List.nil_append, Nat.zero_add, Nat.reduceAdd]
  repeat refine s1 ?_
  refine r_box (cs := [.int .i64 e, .int .i64 n, .slice a l cap]) rfl rfl rfl rfl (fun p => ?_)
  repeat' (first | refine r_nil ?_ | (refine k_move ?_; refine r_move rfl rfl ?_) | (refine k_assign ?_; refine r_assign rfl rfl ?_) | (refine k_nck ?_; first | refine r_nck rfl rfl ?_ | refine r_nckf rfl rfl ?_) | (refine k_fld ?_; first | refine r_fld0 rfl rfl ?_ | refine r_fld rfl rfl ?_) | (refine k_load ?_; first | refine r_load1L rfl rfl rfl ?_ | refine s_load1L rfl rfl rfl ?_ | refine r_load1 rfl rfl rfl rfl ?_ | refine r_loadW rfl rfl rfl rfl ?_ | refine s_loadW rfl rfl rfl rfl ?_) | (refine k_ext ?_; first | refine r_extL rfl rfl ?_ | refine r_ext rfl rfl rfl ?_) | (refine k_len ?_; refine r_lenS rfl rfl ?_) | (refine k_un ?_; first | refine r_notT rfl (by with_reducible rfl) rfl ?_ | refine r_notF rfl (by with_reducible rfl) rfl ?_ | refine r_not rfl rfl ?_) | (refine k_sl0 ?_; refine r_sliceA rfl (by decide) rfl ?_) | (refine k_conv ?_; refine r_conv rfl rfl ?_) | (refine k_pick ?_; first | refine r_pickT rfl (by with_reducible rfl) rfl rfl ?_ | refine r_pickF rfl (by with_reducible rfl) rfl rfl ?_) | (refine k_inc ?_; refine r_inc rfl (by omega) rfl ?_) | (refine k_bin ?_; first | refine r_icmpT rfl rfl rfl rfl ?_ | refine r_icmpF rfl rfl rfl rfl ?_ | refine r_icmp rfl rfl rfl rfl ?_) | (refine k_eql ?_; first | refine r_peqS rfl rfl rfl ?_ | refine r_peqN rfl rfl rfl ?_ | refine r_meqS rfl rfl rfl ?_ | refine r_meqN rfl rfl rfl ?_ | refine r_peq rfl rfl rfl ?_) | (refine k_neq ?_; first | refine r_pneS rfl rfl rfl ?_ | refine r_pneN rfl rfl rfl ?_ | refine r_mneS rfl rfl rfl ?_ | refine r_mneN rfl rfl rfl ?_ | refine r_pne rfl rfl rfl ?_) | (refine g_mark ?_; first | refine gg_pass rfl rfl (by with_reducible rfl) ?_ | refine gg_skipT rfl rfl (by with_reducible rfl) (blt_any rfl) ?_ | refine gg_skipF rfl rfl (by with_reducible rfl) (blt_any rfl) ?_ | refine gg_skipU rfl rfl (by with_reducible rfl) (blt_any rfl) ?_ | refine gg_splitD rfl rfl (fun _ => ?_) (fun _ => ?_) | refine gg_splitN rfl rfl (fun _ => ?_) (fun _ => ?_) | refine gg_split rfl rfl (fun _ => ?_) (fun _ => ?_)) | refine t_seq ?_ | refine t_perm rfl ?_ | refine t_permE ?_ | refine j_then ?_ | refine t_region ?_ | refine t_draw [] [] mixed (by decide +kernel) ?_ | (refine k_cond ?_; first | refine t_condT rfl (by with_reducible rfl) ?_ | refine t_condF rfl (by with_reducible rfl) ?_ | refine t_condS rfl (fun _ => ?_) (fun _ => ?_) | refine t_condSN rfl (fun _ => ?_) (fun _ => ?_) | refine t_condSB rfl (fun _ => ?_) (fun _ => ?_)) | refine t_block ?_ | refine j_in ?_ | refine t_skip ?_ | refine t_ret ?_ | refine j_then_ret ?_ | refine j_in_ret ?_ | refine t_exit ?_ | refine j_then_exit ?_ | refine j_in_exit ?_ | refine j_in_other rfl ?_ | refine t_scope ?_ | refine t_label ?_ | refine j_ng ?_ | refine j_ng_ret ?_ | refine j_ng_exit ?_)
  all_goals try (
    have hd : repEnc e n d = none := by (unfold repEnc; simp [*] <;> omega)
    rw [hd]
    refine j_fin rfl (.cons (rv_tmp rfl) (.cons (rv_tmp rfl) .nil)) (none, 0) (by rfl) (by trivial))
  have hd : repEnc e n d = some (repOut e n d) := by (unfold repEnc; simp [*] <;> omega)
  rw [hd]
  dsimp only
  rw [wrapI16]
  refine r_call rfl (blt_some rfl) rfl (put16_c (e % 65536).toNat (by omega) Φ) ?_
  intro b1 _
  dsimp only [bnd, List.cons_append, List.nil_append]
  repeat refine s1 ?_
  have hw : IntKind.u32.wrap n = (n.toNat : Int) := by simp [IntKind.wrap, IntKind.signed, IntKind.bits]; omega
  rw [hw]
  refine r_call rfl (blt_some rfl) rfl (put32_c n.toNat (by omega) Φ) ?_
  intro b2 _
  dsimp only [bnd, List.cons_append, List.nil_append]
  refine r_appB (be 2 (e % 65536).toNat) (be 4 n.toNat) rfl rfl (be_len _ _) (be_len _ _) rfl rfl (by decide) (by decide) rfl rfl (fun a1 c1 => ?_)
  repeat refine s1 ?_
  refine r_appB (be 2 (e % 65536).toNat ++ be 4 n.toNat) d rfl rfl rfl hl rfl rfl (by simp [be_len]; omega) (by simp [be_len]; omega) rfl rfl (fun a2 c2 => ?_)
  repeat refine s1 ?_
  have he : be 2 (e % 65536).toNat ++ be 4 n.toNat ++ d = repOut e n d := by rw [repOut, show e % 65536 = e by omega]
  rw [he]
  refine j_fin rfl (.cons (rv_tmp rfl) (.cons (rv_tmp rfl) .nil)) (a2, c2) (by rfl) (by trivial)
theorem repSame_c (e1 n1 e2 n2 : Int) (a a2 : Option Addr) (l cap l2 cap2 : Nat) (xs ys : List Nat) (hx : ∀ x ∈ xs, x < 256) (hy : ∀ y ∈ ys, y < 256) (Φ : Base) :
    Sl.Fn Try.prog Φ F.reply_Same [.agg #[.int .i64 e1, .int .i64 n1, .slice a l cap], .agg #[.int .i64 e2, .int .i64 n2, .slice a2 l2 cap2]] [brow a l cap xs, brow a2 l2 cap2 ys] (fun _ : Unit => True) (fun _ => .bool (decide (e1 = e2 ∧ n1 = n2 ∧ xs = ys))) (fun _ => []) := by
  refine fn_of rfl rfl (fun F => ?_)
  dsimp only [argEnv, List.cons_append, List.nil_append, Nat.zero_add, Nat.reduceAdd]
  repeat refine s1 ?_
  refine r_box (cs := [.int .i64 e1, .int .i64 n1, .slice a l cap]) rfl rfl rfl rfl (fun p => ?_)
  refine r_box (cs := [.int .i64 e2, .int .i64 n2, .slice a2 l2 cap2]) rfl rfl rfl rfl (fun p2 => ?_)
  repeat' (first | refine r_nil ?_ | (refine k_move ?_; refine r_move rfl rfl ?_) | (refine k_assign ?_; refine r_assign rfl rfl ?_) | (refine k_nck ?_; first | refine r_nck rfl rfl ?_ | refine r_nckf rfl rfl ?_) | (refine k_fld ?_; first | refine r_fld0 rfl rfl ?_ | refine r_fld rfl rfl ?_) | (refine k_load ?_; first | refine r_load1L rfl rfl rfl ?_ | refine s_load1L rfl rfl rfl ?_ | refine r_load1 rfl rfl rfl rfl ?_ | refine r_loadW rfl rfl rfl rfl ?_ | refine s_loadW rfl rfl rfl rfl ?_) | (refine k_ext ?_; first | refine r_extL rfl rfl ?_ | refine r_ext rfl rfl rfl ?_) | (refine k_len ?_; refine r_lenS rfl rfl ?_) | (refine k_un ?_; first | refine r_notT rfl (by with_reducible rfl) rfl ?_ | refine r_notF rfl (by with_reducible rfl) rfl ?_ | refine r_not rfl rfl ?_) | (refine k_sl0 ?_; refine r_sliceA rfl (by decide) rfl ?_) | (refine k_conv ?_; refine r_conv rfl rfl ?_) | (refine k_pick ?_; first | refine r_pickT rfl (by with_reducible rfl) rfl rfl ?_ | refine r_pickF rfl (by with_reducible rfl) rfl rfl ?_) | (refine k_inc ?_; refine r_inc rfl (by omega) rfl ?_) | (refine k_bin ?_; first | refine r_icmpT rfl rfl rfl rfl ?_ | refine r_icmpF rfl rfl rfl rfl ?_ | refine r_icmp rfl rfl rfl rfl ?_) | (refine k_eql ?_; first | refine r_peqS rfl rfl rfl ?_ | refine r_peqN rfl rfl rfl ?_ | refine r_meqS rfl rfl rfl ?_ | refine r_meqN rfl rfl rfl ?_ | refine r_peq rfl rfl rfl ?_) | (refine k_neq ?_; first | refine r_pneS rfl rfl rfl ?_ | refine r_pneN rfl rfl rfl ?_ | refine r_mneS rfl rfl rfl ?_ | refine r_mneN rfl rfl rfl ?_ | refine r_pne rfl rfl rfl ?_) | (refine g_mark ?_; first | refine gg_pass rfl rfl (by with_reducible rfl) ?_ | refine gg_skipT rfl rfl (by with_reducible rfl) (blt_any rfl) ?_ | refine gg_skipF rfl rfl (by with_reducible rfl) (blt_any rfl) ?_ | refine gg_skipU rfl rfl (by with_reducible rfl) (blt_any rfl) ?_ | refine gg_splitD rfl rfl (fun _ => ?_) (fun _ => ?_) | refine gg_splitN rfl rfl (fun _ => ?_) (fun _ => ?_) | refine gg_split rfl rfl (fun _ => ?_) (fun _ => ?_)) | refine t_seq ?_ | refine t_perm rfl ?_ | refine t_permE ?_ | refine j_then ?_ | refine t_region ?_ | refine t_draw [] [] mixed (by decide +kernel) ?_ | (refine k_cond ?_; first | refine t_condT rfl (by with_reducible rfl) ?_ | refine t_condF rfl (by with_reducible rfl) ?_ | refine t_condS rfl (fun _ => ?_) (fun _ => ?_) | refine t_condSN rfl (fun _ => ?_) (fun _ => ?_) | refine t_condSB rfl (fun _ => ?_) (fun _ => ?_)) | refine t_block ?_ | refine j_in ?_ | refine t_skip ?_ | refine t_ret ?_ | refine j_then_ret ?_ | refine j_in_ret ?_ | refine t_exit ?_ | refine j_then_exit ?_ | refine j_in_exit ?_ | refine j_in_other rfl ?_ | refine t_scope ?_ | refine t_label ?_ | refine j_ng ?_ | refine j_ng_ret ?_ | refine j_ng_exit ?_)
  · refine r_call rfl (blt_some rfl) rfl (equal_c a a2 l cap l2 cap2 xs ys hx hy Φ) ?_
    intro _ _; dsimp only [bnd, List.cons_append, List.nil_append]
    repeat refine s1 ?_
    refine j_fin rfl (.cons (rv_tmp rfl) .nil) () (by simp [pack, *]) (by trivial)
  · refine j_fin rfl (.cons (rv_tmp rfl) .nil) () (by simp [pack, *]) (by trivial)
  · refine j_fin rfl (.cons (rv_tmp rfl) .nil) () (by simp [pack, *]) (by trivial)
/-- whole numbers as words; none: one may not be. -/
def wordsM : List Int → Option (List Nat)
  | [] => some []
  | x :: xs => if x < 0 ∨ 65535 < x then none else (wordsM xs).map (be 2 x.toNat ++ ·)
theorem wordsM_lt : ∀ (xs : List Int) (r : List Nat), wordsM xs = some r → r.length = 2 * xs.length ∧ ∀ x ∈ r, x < 256
  | [], r, h => by cases h; exact ⟨rfl, fun x hx => by cases hx⟩
  | x :: xs, r, h => by
    simp only [wordsM] at h
    split at h
    · cases h
    · obtain ⟨r', h1, rfl⟩ := Option.map_eq_some_iff.1 h
      obtain ⟨h2, h3⟩ := wordsM_lt xs r' h1
      refine ⟨by simp [be_len, h2]; omega, fun y hy => ?_⟩
      rcases List.mem_append.1 hy with hy | hy
      · exact be_lt _ _ y hy
      · exact h3 y hy
abbrev irow (a : Option Addr) (n cap : Nat) (xs : List Int) : Assn := isl a n cap T.int 1 (xs.map (Value.int .i64))
theorem words_c (a : Option Addr) (n cap : Nat) (xs : List Int) (hn : xs.length = n) (hb : n ≤ 1000000) (Φ : Base) :
    Sl.Fn Try.prog Φ F.reply_words [.slice a n cap] [irow a n cap xs] (fun _ : Option Addr × Nat => True)
      (fun q => match wordsM xs with
        | none => .tuple #[.slice none 0 0, .bool false]
        | some r => .tuple #[.slice q.1 r.length q.2, .bool true])
      (fun q => match wordsM xs with
        | none => []
        | some r => [vec q.1 r.length q.2 T.uint8 1 (r.map u8)]) := by
  refine fn_of rfl rfl (fun F => ?_)
  dsimp only [argEnv, List.cons_append, List.nil_append, Nat.zero_add, Nat.reduceAdd]
  refine j_leni (fun hl hc ha => ?_)
  repeat refine s1 ?_
  refine j_ent (Ent.vecNil (E := T.uint8) (s := 1) _) ?_
  refine t_loop (σ := Nat × List Nat × Option Addr × Nat) (fun s => [(9, i64 s.1), (8, i64 n), (7, .slice a n cap), (4, .slice s.2.2.1 s.2.1.length s.2.2.2)])
    (fun s => vec s.2.2.1 s.2.1.length s.2.2.2 T.uint8 1 (s.2.1.map u8) :: irow a n cap xs :: F)
    (fun s => s.1 ≤ n ∧ s.2.1.length = 2 * s.1 ∧ wordsM xs = (wordsM (xs.drop s.1)).map (s.2.1 ++ ·)) (fun s => n - s.1)
    (0, [], none, 0) ⟨Nat.zero_le _, rfl, by simp⟩ ⟨rfl, rfl, rfl, rfl, trivial⟩ (Ent.refl _) ?_
  rintro ⟨i, out, oa, oc⟩ ⟨hi, ho, hw⟩
  dsimp only at hi ho hw ⊢
  repeat refine s1 ?_
  refine r_icmp rfl rfl rfl rfl ?_
  repeat refine s1 ?_
  refine t_condS rfl (fun h => ?_) (fun h => ?_)
  · have hlt : i < n := by omega
    obtain ⟨b, off, rfl⟩ := ha (by omega)
    have hix : i < xs.length := by omega
    rw [List.drop_eq_getElem_cons hix, wordsM] at hw
    have hxi : (xs.map (Value.int .i64))[i]? = some (.int .i64 xs[i]) := by simp [hix]
    generalize xs[i] = x at hw hxi
    repeat refine s1 ?_
    refine r_idx rfl rfl (by omega) (by omega) rfl ?_
    refine r_loadI (off := off) (n := n) (cap := cap) (E := T.int) (s := 1) (xs := xs.map (Value.int .i64)) (j := i) rfl (by simp) hxi rfl rfl ?_
    repeat' (first | refine r_nil ?_ | (refine k_move ?_; refine r_move rfl rfl ?_) | (refine k_assign ?_; refine r_assign rfl rfl ?_) | (refine k_nck ?_; first | refine r_nck rfl rfl ?_ | refine r_nckf rfl rfl ?_) | (refine k_fld ?_; first | refine r_fld0 rfl rfl ?_ | refine r_fld rfl rfl ?_) | (refine k_load ?_; first | refine r_load1L rfl rfl rfl ?_ | refine s_load1L rfl rfl rfl ?_ | refine r_load1 rfl rfl rfl rfl ?_ | refine r_loadW rfl rfl rfl rfl ?_ | refine s_loadW rfl rfl rfl rfl ?_) | (refine k_ext ?_; first | refine r_extL rfl rfl ?_ | refine r_ext rfl rfl rfl ?_) | (refine k_len ?_; refine r_lenS rfl rfl ?_) | (refine k_un ?_; first | refine r_notT rfl (by with_reducible rfl) rfl ?_ | refine r_notF rfl (by with_reducible rfl) rfl ?_ | refine r_not rfl rfl ?_) | (refine k_sl0 ?_; refine r_sliceA rfl (by decide) rfl ?_) | (refine k_conv ?_; refine r_conv rfl rfl ?_) | (refine k_pick ?_; first | refine r_pickT rfl (by with_reducible rfl) rfl rfl ?_ | refine r_pickF rfl (by with_reducible rfl) rfl rfl ?_) | (refine k_inc ?_; refine r_inc rfl (by omega) rfl ?_) | (refine k_bin ?_; first | refine r_icmpT rfl rfl rfl rfl ?_ | refine r_icmpF rfl rfl rfl rfl ?_ | refine r_icmp rfl rfl rfl rfl ?_) | (refine k_eql ?_; first | refine r_peqS rfl rfl rfl ?_ | refine r_peqN rfl rfl rfl ?_ | refine r_meqS rfl rfl rfl ?_ | refine r_meqN rfl rfl rfl ?_ | refine r_peq rfl rfl rfl ?_) | (refine k_neq ?_; first | refine r_pneS rfl rfl rfl ?_ | refine r_pneN rfl rfl rfl ?_ | refine r_mneS rfl rfl rfl ?_ | refine r_mneN rfl rfl rfl ?_ | refine r_pne rfl rfl rfl ?_) | (refine g_mark ?_; first | refine gg_pass rfl rfl (by with_reducible rfl) ?_ | refine gg_skipT rfl rfl (by with_reducible rfl) (blt_any rfl) ?_ | refine gg_skipF rfl rfl (by with_reducible rfl) (blt_any rfl) ?_ | refine gg_skipU rfl rfl (by with_reducible rfl) (blt_any rfl) ?_ | refine gg_splitD rfl rfl (fun _ => ?_) (fun _ => ?_) | refine gg_splitN rfl rfl (fun _ => ?_) (fun _ => ?_) | refine gg_split rfl rfl (fun _ => ?_) (fun _ => ?_)) | refine t_seq ?_ | refine t_perm rfl ?_ | refine t_permE ?_ | refine j_then ?_ | refine t_region ?_ | refine t_draw [] [] mixed (by decide +kernel) ?_ | (refine k_cond ?_; first | refine t_condT rfl (by with_reducible rfl) ?_ | refine t_condF rfl (by with_reducible rfl) ?_ | refine t_condS rfl (fun _ => ?_) (fun _ => ?_) | refine t_condSN rfl (fun _ => ?_) (fun _ => ?_) | refine t_condSB rfl (fun _ => ?_) (fun _ => ?_)) | refine t_block ?_ | refine j_in ?_ | refine t_skip ?_ | refine t_ret ?_ | refine j_then_ret ?_ | refine j_in_ret ?_ | refine t_exit ?_ | refine j_then_exit ?_ | refine j_in_exit ?_ | refine j_in_other rfl ?_ | refine t_scope ?_ | refine t_label ?_ | refine j_ng ?_ | refine j_ng_ret ?_ | refine j_ng_exit ?_)
    · rw [if_pos (.inl ‹_›)] at hw
      have hw : wordsM xs = none := hw
      rw [hw]
      refine j_fin rfl (.cons (rv_tmp rfl) (.cons (rv_tmp rfl) .nil)) (none, 0) (by rfl) (by trivial)
    · rw [if_pos (.inr ‹_›)] at hw
      have hw : wordsM xs = none := hw
      rw [hw]
      refine j_fin rfl (.cons (rv_tmp rfl) (.cons (rv_tmp rfl) .nil)) (none, 0) (by rfl) (by trivial)
    rw [if_neg (by omega)] at hw
    rw [wrapI16]
    refine r_call rfl (blt_some rfl) rfl (put16_c (x % 65536).toNat (by omega) Φ) ?_
    intro b1 _
    dsimp only [bnd, List.cons_append, List.nil_append]
    refine r_appB out (be 2 (x % 65536).toNat) rfl rfl rfl (be_len _ _) rfl rfl (by omega) (by omega) rfl rfl (fun a1 c1 => ?_)
    repeat refine s1 ?_
    refine j_again (i + 1, out ++ be 2 (x % 65536).toNat, a1, c1) ⟨by omega, by (simp [be_len, ho] <;> omega), ?_⟩ (by dsimp only; omega) ⟨rfl, rfl, rfl, rfl, trivial⟩ (by dsimp only; exact Le.ent)
    rw [hw, Option.map_map, show x % 65536 = x by omega]
    congr 1
    funext r
    simp
  · have hni : i = n := by omega
    rw [hni, List.drop_eq_nil_of_le (by omega)] at hw
    have hw : wordsM xs = some out := by rw [hw]; simp [wordsM]
    rw [hw]
    repeat refine s1 ?_
    refine j_fin rfl (.cons (rv_tmp rfl) (.cons (rv_tmp rfl) .nil)) (oa, oc) (by rfl) (by trivial)
theorem clip_c (a : Option Addr) (n cap : Nat) (vs : List Value) (Φ : Base) :
    Sl.Fn Try.prog Φ F.slices_Clip_byte_byte [.slice a n cap] [isl a n cap T.uint8 1 vs] (fun _ : Unit => True) (fun _ => .slice a n n) (fun _ => [isl a n n T.uint8 1 vs]) := by
  refine fn_of rfl rfl (fun F => ?_)
  dsimp only [argEnv, List.cons_append, List.nil_append, Nat.zero_add, Nat.reduceAdd]
  refine j_leni (fun hl hc ha => ?_)
  repeat refine s1 ?_
  refine r_piece 0 n n rfl (.inl ⟨rfl, rfl⟩) (.inr ⟨.i64, rfl⟩) (.inr ⟨.i64, rfl⟩) (by omega) (by omega) hc rfl ?_
  repeat refine s1 ?_
  have P1 := Ent.piece (a := a) (n := n) (cap := cap) (lo := 0) (hi := n) (mx := n) (E := T.uint8) (s := 1) (xs := vs) (by omega) (Nat.le_refl _) (Nat.le_refl _) rfl
  have e1 : (if n = 0 then a else a.map (·.add (0 * 1))) = a := by
    split
    · rfl
    · cases a with
      | none => rfl
      | some ad => obtain ⟨b, o, sp⟩ := ad; (simp [Addr.add] <;> split <;> simp_all)
  have e2 : (vs.drop (0 * 1)).take ((n - 0) * 1) = vs := by rw [Nat.zero_mul, List.drop_zero, List.take_of_length_le (by omega)]
  rw [e1, e2] at P1
  rw [e1]
  refine j_ent (P1 _) ?_
  simp only [Nat.sub_zero]
  refine j_fin rfl (.cons (rv_tmp rfl) .nil) () (by rfl) (by trivial)
/-- what a status' bytes are of. -/
def statL (cs : List Int) : List Int := [cs.getD 0 0, cs.getD 1 0, cs.getD 2 0] ++ (List.range 8).flatMap fun i => [cs.getD (3 + i) 0, cs.getD (11 + i) 0]
theorem status_c (cs : List Int) (hn : cs.length = 19) (Φ : Base) :
    Sl.Fn Try.prog Φ F.reply_WriteStatus [.agg (cs.map (Value.int .i64)).toArray] [] (fun _ : Option Addr => True)
      (fun q => match wordsM (statL cs) with
        | none => .tuple #[.slice none 0 0, i64 3]
        | some r => .tuple #[.slice q r.length r.length, i64 0])
      (fun q => match wordsM (statL cs) with
        | none => []
        | some r => [brow q r.length r.length r]) := by
  refine fn_of rfl rfl (fun F => ?_)
  dsimp only [argEnv, List.cons_append, List.nil_append, Nat.zero_add, Nat.reduceAdd]
  repeat refine s1 ?_
  refine r_box (cs := cs.map (Value.int .i64)) rfl rfl rfl rfl (fun p => ?_)
  have hat : ∀ i, i < 19 → (cs.map (Value.int .i64)).toArray[i]? = some (.int .i64 (cs.getD i 0)) := fun i hi => by
    rw [List.getElem?_toArray, List.getElem?_map, List.getD_eq_getElem?_getD, List.getElem?_eq_getElem (by omega)]
    rfl
  repeat refine s1 ?_
  refine r_load1 rfl (hat 0 (by decide)) rfl rfl ?_
  repeat refine s1 ?_
  refine r_load1 rfl (hat 1 (by decide)) rfl rfl ?_
  repeat refine s1 ?_
  refine r_load1 rfl (hat 2 (by decide)) rfl rfl ?_
  refine r_build1s [.tmp 9, .tmp 11, .tmp 13] ([cs.getD 0 0, cs.getD 1 0, cs.getD 2 0].map (Value.int .i64)) rfl rfl (by simp [Value.oneCell']) (by simp) rfl rfl rfl (fun b => ?_)
  repeat refine s1 ?_
  refine j_freeze p ?_
  refine t_loop (σ := Nat × List Int × Option Addr × Nat) (fun s => [(15, i64 s.1), (1, .pointer (some ⟨p, 0, none⟩)), (4, .slice s.2.2.1 s.2.1.length s.2.2.2)])
    (fun s => vec s.2.2.1 s.2.1.length s.2.2.2 T.int 1 (s.2.1.map (Value.int .i64)) :: imm p (.cells (cs.map (Value.int .i64)).toArray T.reply_Status (0, 0)) :: F)
    (fun s => s.1 ≤ 8 ∧ s.2.1.length = 3 + 2 * s.1 ∧ s.2.1 = [cs.getD 0 0, cs.getD 1 0, cs.getD 2 0] ++ (List.range s.1).flatMap fun i => [cs.getD (3 + i) 0, cs.getD (11 + i) 0]) (fun s => 8 - s.1)
    (0, [cs.getD 0 0, cs.getD 1 0, cs.getD 2 0], some ⟨b, 0, none⟩, 3) ⟨Nat.zero_le _, rfl, by simp⟩ ⟨rfl, rfl, rfl, trivial⟩ (by dsimp only; exact Le.ent) ?_
  rintro ⟨i, out, oa, oc⟩ ⟨hi, ho, hout⟩
  dsimp only at hi ho hout ⊢
  repeat refine s1 ?_
  refine r_icmp rfl rfl rfl rfl ?_
  repeat refine s1 ?_
  refine t_condS rfl (fun h => ?_) (fun h => ?_)
  · have hlt : i < 8 := by omega
    repeat refine s1 ?_
    repeat refine s1 ?_
    refine r_idxA rfl rfl (by omega) (by omega) rfl ?_
    refine r_load1 rfl (by rw [show 3 + ((i : Int)).toNat * 1 = 3 + i by simp]; exact hat (3 + i) (by omega)) rfl rfl ?_
    repeat refine s1 ?_
    refine r_idxA rfl rfl (by omega) (by omega) rfl ?_
    refine r_load1 rfl (by rw [show 11 + ((i : Int)).toNat * 1 = 11 + i by simp]; exact hat (11 + i) (by omega)) rfl rfl ?_
    refine r_build1s [.tmp 22, .tmp 26] ([cs.getD (3 + i) 0, cs.getD (11 + i) 0].map (Value.int .i64)) rfl rfl (by simp [Value.oneCell']) (by simp) rfl rfl rfl (fun b2 => ?_)
    refine r_append (s := 1) (xs := out.map (Value.int .i64)) (ys := [cs.getD (3 + i) 0, cs.getD (11 + i) 0].map (Value.int .i64)) rfl rfl (by decide) (by rfl) (by simp [Value.oneCell']) (by omega) (by omega) rfl rfl (fun a1 c1 _ => ?_)
    repeat refine s1 ?_
    rw [← List.map_append, show out.length + 2 = (out ++ [cs.getD (3 + i) 0, cs.getD (11 + i) 0]).length by simp]
    refine j_again (i + 1, out ++ [cs.getD (3 + i) 0, cs.getD (11 + i) 0], a1, c1) ⟨by omega, by (simp [ho] <;> omega), ?_⟩ (by dsimp only; omega) ⟨rfl, rfl, rfl, trivial⟩ (by dsimp only; exact Le.ent)
    dsimp only
    rw [List.range_succ, List.flatMap_append, hout]
    simp
  · have hi8 : i = 8 := by omega
    subst hi8
    have hst : out = statL cs := hout
    subst hst
    repeat refine s1 ?_
    refine j_freezeV oa (statL cs).length oc T.int 1 ((statL cs).map (Value.int .i64)) ?_
    refine r_call rfl (blt_some rfl) rfl (words_c oa (statL cs).length oc (statL cs) rfl (by omega) Φ) ?_
    rintro ⟨wa, wc⟩ _
    dsimp only [bnd]
    rcases hw : wordsM (statL cs) with _ | w
    · dsimp only [List.cons_append, List.nil_append]
      repeat refine s1 ?_
      refine j_fin rfl (.cons (rv_tmp rfl) (.cons (rv_tmp rfl) .nil)) none (by rfl) (by trivial)
    · dsimp only [List.cons_append, List.nil_append]
      repeat refine s1 ?_
      refine j_freezeV wa w.length wc T.uint8 1 (w.map u8) ?_
      refine r_call rfl (blt_some rfl) rfl (clip_c wa w.length wc (w.map u8) Φ) ?_
      intro _ _; dsimp only [bnd, List.cons_append, List.nil_append]
      repeat refine s1 ?_
      refine j_fin rfl (.cons (rv_tmp rfl) (.cons (rv_tmp rfl) .nil)) wa (by rfl) (by trivial)
end Go.Proofs.Ytbecjgikhfplmaa
