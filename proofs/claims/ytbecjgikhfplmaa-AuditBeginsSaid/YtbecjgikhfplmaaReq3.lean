/-
  The contracts of Encode and Decode of requests. For each input.
-/
import Derived.Test.YtbecjgikhfplmaaReq2
namespace Go.Proofs.Ytbecjgikhfplmaa
open Go Sl
attribute [local irreducible] cw sw J Exit.then Exit.inBlock Exit.noGoto bodyPost swG swL permL
theorem wrapI8 (v : Int) : IntKind.u8.wrap v = ((v % 256).toNat : Int) := by
  simp [IntKind.wrap, IntKind.signed, IntKind.bits]; omega
theorem wrapI16 (v : Int) : IntKind.u16.wrap v = ((v % 65536).toNat : Int) := by
  simp [IntKind.wrap, IntKind.signed, IntKind.bits]; omega
def encStep (q : Rq) (c : Nat) : List Nat := match numOf c with
  | some (o, true) => [(q.num o % 256).toNat]
  | some (o, false) => be 2 (q.num o % 65536).toNat
  | none => match keyOf c with
    | some o => q.key o
    | none => []
def encL (q : Rq) : List Nat → List Nat
  | [] => []
  | c :: cs => encStep q c ++ encL q cs
def encOut (q : Rq) (ds : List Nat) : List Nat := [82, (q.num 0 % 256).toNat] ++ encL q (fieldsM (q.num 0)) ++ ds
def encM (q : Rq) (ds : List Nat) : Option (List Nat) := if rightM q ds = true then some (encOut q ds) else none
theorem encStep_len (q : Rq) (c : Nat) : (encStep q c).length ≤ 32 := by
  unfold encStep
  split
  · simp
  · simp [be_len]
  · split
    · rename_i o h; rw [q.key_len (keyOf_le h)]; exact Nat.le_refl _
    · simp
theorem encL_len (q : Rq) : ∀ cs : List Nat, (encL q cs).length ≤ 32 * cs.length
  | [] => Nat.le_refl _
  | c :: cs => by have := encL_len q cs; have := encStep_len q c; simp only [encL, List.length_append, List.length_cons]; omega
theorem fields_len (k : Int) : (fieldsM k).length ≤ 6 := by
  unfold fieldsM
  repeat' split
  all_goals decide
theorem encL_app (q : Rq) : ∀ (cs ds : List Nat), encL q (cs ++ ds) = encL q cs ++ encL q ds
  | [], _ => rfl
  | c :: cs, ds => by simp only [List.cons_append, encL, encL_app q cs ds, List.append_assoc]
theorem encL_take (q : Rq) {cs : List Nat} {i : Nat} (h : i < cs.length) : encL q (cs.take (i + 1)) = encL q (cs.take i) ++ encStep q cs[i] := by
  rw [List.take_add_one, List.getElem?_eq_getElem h, encL_app]
  simp [encL]
theorem encode_c (q : Rq) (a : Option Addr) (n cap : Nat) (ds : List Nat) (hn : ds.length = n) (hb : n ≤ 1000000000) (hds : ∀ x ∈ ds, x < 256) (Φ : Base) :
    Sl.Fn Try.prog Φ F.req_Encode [.agg (q.cells (.slice a n cap)).toArray] [brow a n cap ds] (fun _ : Option Addr × Nat => True)
      (fun r => match encM q ds with
        | none => .tuple #[.slice none 0 0, i64 3]
        | some w => .tuple #[.slice r.1 w.length r.2, i64 0])
      (fun r => match encM q ds with
        | none => []
        | some w => [vec r.1 w.length r.2 T.uint8 1 (w.map u8)]) := by
  refine fn_of rfl rfl (fun F => ?_)
  dsimp only [argEnv, List.cons_append, List.nil_append, Nat.zero_add, Nat.reduceAdd]
  repeat refine s1 ?_
  refine r_box (cs := q.cells (.slice a n cap)) rfl rfl rfl rfl (fun p1 => ?_)
  repeat refine s1 ?_
  refine r_loadW rfl (q.len _) rfl rfl ?_
  refine r_call rfl (blt_some rfl) rfl (right_c q a n cap ds hn (by omega) hds Φ) ?_
  intro _ _; dsimp only [bnd, List.cons_append, List.nil_append]
  by_cases hr : rightM q ds = true
  rotate_left
  · have hr := eq_false_of_ne_true hr
    rw [hr]
    repeat refine s1 ?_
    have he : encM q ds = none := by rw [encM, if_neg (by rw [hr]; decide)]
    rw [he]
    refine j_fin rfl (.cons (rv_tmp rfl) (.cons (rv_tmp rfl) .nil)) (none, 0) (by rfl) (by trivial)
  rw [hr]
  have he : encM q ds = some (encOut q ds) := by rw [encM, if_pos hr]
  rw [he]
  dsimp only
  repeat refine s1 ?_
  rw [wrapI8]
  refine r_build1s [.const (.int .u8 82), .tmp 14] ([82, (q.num 0 % 256).toNat].map u8) rfl rfl (by simp [Value.oneCell']) (by simp) rfl rfl rfl (fun b => ?_)
  repeat refine s1 ?_
  refine r_call rfl (blt_some rfl) rfl (fields_c (q.num 0) Φ) ?_
  intro _ _; dsimp only [bnd, List.cons_append, List.nil_append]
  repeat refine s1 ?_
  refine r_rangeS rfl rfl rfl (fun it => ?_)
  refine j_freeze p1 ?_
  repeat refine s1 ?_
  refine t_loop (σ := Nat × List Nat × Option Addr × Nat) (fun s => [(19, .pointer (some ⟨it, 0, none⟩)), (1, .pointer (some ⟨p1, 0, none⟩)), (4, .slice s.2.2.1 s.2.1.length s.2.2.2)])
    (fun s => vec s.2.2.1 s.2.1.length s.2.2.2 T.uint8 1 (s.2.1.map u8) :: pt it (.stringIter (bstr (fieldsM (q.num 0))) s.1) :: imm p1 (.cells (q.cells (.slice a n cap)).toArray T.req_Request (0, 0)) :: brow a n cap ds :: F)
    (fun s => s.1 ≤ (fieldsM (q.num 0)).length ∧ s.2.1 = [82, (q.num 0 % 256).toNat] ++ encL q ((fieldsM (q.num 0)).take s.1)) (fun s => (fieldsM (q.num 0)).length - s.1)
    (0, [82, (q.num 0 % 256).toNat], some ⟨b, 0, none⟩, 2) ⟨Nat.zero_le _, by simp [encL]⟩ ⟨rfl, rfl, rfl, trivial⟩ (by dsimp only; exact Le.ent) ?_
  rintro ⟨i, out, oa, oc⟩ ⟨hi, ho⟩
  dsimp only at hi ho ⊢
  have hfl := fields_len (q.num 0)
  have hol : out.length ≤ 200 := by
    have h1 := encL_len q ((fieldsM (q.num 0)).take i)
    have h2 : ((fieldsM (q.num 0)).take i).length ≤ 6 := by rw [List.length_take]; omega
    rw [ho]; simp; omega
  repeat refine s1 ?_
  by_cases hlt : i < (fieldsM (q.num 0)).length
  · have hcl := fields_lt (q.num 0) _ (List.getElem_mem hlt)
    have hnext := encL_take q hlt
    generalize hc : (fieldsM (q.num 0))[i] = c at hcl hnext
    have hci : (fieldsM (q.num 0))[i]? = some c := by rw [List.getElem?_eq_getElem hlt, hc]
    refine r_nextS rfl hci hcl rfl rfl ?_
    repeat refine s1 ?_
    have hct := number_c p1 (c : Int) Φ
    rcases hnum : numOf (c : Int) with _ | ⟨o, small⟩
    · simp only [hnum, Option.map_none, Option.getD_none] at hct
      refine r_call rfl (blt_some rfl) rfl hct ?_
      intro _ _; dsimp only [bnd, List.cons_append, List.nil_append]
      repeat refine s1 ?_
      refine r_call rfl (blt_some rfl) rfl (key_c p1 (c : Int) Φ) ?_
      intro _ _; dsimp only [bnd, List.cons_append, List.nil_append]
      rcases hkey : keyOf (c : Int) with _ | o
      · simp only [kslice, hkey]
        refine j_ent (Ent.brow0 _) ?_
        refine r_appB out [] rfl rfl rfl rfl rfl rfl (by omega) (by omega) rfl rfl (fun a' cap' => ?_)
        repeat refine s1 ?_
        refine j_again (i + 1, out ++ [], a', cap') ⟨by omega, by rw [hnext, encStep]; simp [hnum, hkey, ho]⟩ (by dsimp only; omega) ⟨rfl, rfl, rfl, trivial⟩ (by dsimp only; exact Le.ent)
      · have hko := keyOf_le hkey
        simp only [kslice, hkey]
        refine j_head (imm p1 (.cells (q.cells (.slice a n cap)).toArray T.req_Request (0, 0))) ?_
        refine j_ent (Ent.islOf (off := 9 + o) (n := 32) (cap := 32) (s := 1) (E := T.uint8) (by rw [Rq.len]; omega) (Nat.le_refl _)) ?_
        rw [q.key_cells _ hko]
        refine r_appB out (q.key o) rfl rfl rfl (q.key_len hko) rfl rfl (by omega) (by omega) rfl rfl (fun a' cap' => ?_)
        repeat refine s1 ?_
        refine j_again (i + 1, out ++ q.key o, a', cap') ⟨by omega, by rw [hnext, encStep]; simp [hnum, hkey, ho]⟩ (by dsimp only; omega) ⟨rfl, rfl, rfl, trivial⟩ (by dsimp only; exact Le.ent)
    · simp only [hnum, Option.map_some, Option.getD_some] at hct
      have ho9 := numOf_lt hnum
      dsimp only at ho9
      refine r_call rfl (blt_some rfl) rfl hct ?_
      intro _ _; dsimp only [bnd, List.cons_append, List.nil_append]
      repeat refine s1 ?_
      cases small
      · repeat refine s1 ?_
        refine r_load1 rfl (q.at_numA _ ho9) rfl rfl ?_
        repeat refine s1 ?_
        rw [wrapI16]
        refine r_call rfl (blt_some rfl) rfl (put16_c (q.num o % 65536).toNat (by omega) Φ) ?_
        intro b2 _
        dsimp only [bnd, List.cons_append, List.nil_append]
        refine r_appB out (be 2 (q.num o % 65536).toNat) rfl rfl rfl (be_len _ _) rfl rfl (by omega) (by omega) rfl rfl (fun a' cap' => ?_)
        repeat refine s1 ?_
        refine j_again (i + 1, out ++ be 2 (q.num o % 65536).toNat, a', cap') ⟨by omega, by rw [hnext, encStep]; simp [hnum, ho]⟩ (by dsimp only; omega) ⟨rfl, rfl, rfl, trivial⟩ (by dsimp only; exact Le.ent)
      · repeat refine s1 ?_
        refine r_load1 rfl (q.at_numA _ ho9) rfl rfl ?_
        repeat refine s1 ?_
        rw [wrapI8]
        refine r_build1s [.tmp 35] ([(q.num o % 256).toNat].map u8) rfl rfl (by simp [Value.oneCell']) (by simp) rfl rfl rfl (fun b2 => ?_)
        refine r_appB out [(q.num o % 256).toNat] rfl rfl rfl rfl rfl rfl (by omega) (by omega) rfl rfl (fun a' cap' => ?_)
        repeat refine s1 ?_
        refine j_again (i + 1, out ++ [(q.num o % 256).toNat], a', cap') ⟨by omega, by rw [hnext, encStep]; simp [hnum, ho]⟩ (by dsimp only; omega) ⟨rfl, rfl, rfl, trivial⟩ (by dsimp only; exact Le.ent)
  · refine r_nextE rfl (by omega) rfl rfl ?_
    repeat refine s1 ?_
    have hil : i = (fieldsM (q.num 0)).length := by omega
    rw [hil, List.take_length] at ho
    refine r_appB out ds rfl rfl rfl hn rfl rfl (by omega) (by omega) rfl rfl (fun a' cap' => ?_)
    repeat refine s1 ?_
    have e : out ++ ds = encOut q ds := by rw [ho]; rfl
    rw [e]
    refine j_fin rfl (.cons (rv_tmp rfl) (.cons (rv_tmp rfl) .nil)) (a', cap') (by rfl) (by trivial)
/-- the next n bytes, and what is left. -/
def rdB (k : Nat) : Option (List Nat) → Option (List Nat) × Option (List Nat)
  | none => (none, none)
  | some bs => if k ≤ bs.length then (some (bs.take k), some (bs.drop k)) else (none, none)
theorem bytesX_c (p k : Nat) (s : Option (List Nat)) (Φ : Base) :
    Sl.Fn Try.prog Φ F.octet_Reader_Bytes [.pointer (some ⟨p, 0, none⟩), i64 k] [rdr p s] (fun _ : Option Addr => True)
      (fun a => match (rdB k s).1 with | some _ => .slice a k k | none => .slice none 0 0)
      (fun a => rdr p (rdB k s).2 :: match (rdB k s).1 with | some r => [brow a k k r] | none => []) := by
  cases s with
  | none => exact (bytesN_c p k Φ).conseq (fun _ => Ent.refl _) (fun _ _ => ⟨none, trivial, rfl, fun F => Ent.refl _⟩)
  | some bs =>
    by_cases h : k ≤ bs.length
    · simp only [rdB, h, if_true]
      exact bytes_c p k bs h Φ
    · simp only [rdB, h, if_false]
      exact (bytesS_c p k bs (by omega) Φ).conseq (fun _ => Ent.refl _) (fun _ _ => ⟨none, trivial, rfl, fun F => Ent.refl _⟩)
theorem rdU_bytes {w : Nat} {s : Option (List Nat)} (hs : ∀ bs, s = some bs → ∀ x ∈ bs, x < 256) : ∀ bs, (rdU w s).2 = some bs → ∀ x ∈ bs, x < 256 := by
  intro bs h x hx
  cases s with
  | none => cases h
  | some b =>
    simp only [rdU] at h
    split at h
    · cases h; exact hs b rfl x (List.mem_of_mem_drop hx)
    · cases h
theorem rdU_lt {w : Nat} {s : Option (List Nat)} (hs : ∀ bs, s = some bs → ∀ x ∈ bs, x < 256) : (rdU w s).1 < 256 ^ w := by
  cases s with
  | none => exact Nat.pow_pos (by decide)
  | some b =>
    simp only [rdU]
    split
    · rename_i h
      exact num_lt w _ (by simp; omega) (fun x hx => hs b rfl x (List.mem_of_mem_take hx))
    · exact Nat.pow_pos (by decide)
def left : Option (List Nat) → List Nat
  | none => []
  | some bs => bs
theorem left_le (w : Nat) (s : Option (List Nat)) : (left (rdU w s).2).length ≤ (left s).length := by
  cases s with
  | none => exact Nat.le_refl _
  | some b => simp only [rdU]; split <;> simp [left]
/-- what 'Rest' leaves. -/
def rdR : Option (List Nat) → Option (List Nat)
  | none => none
  | some _ => some []
theorem restX_c (p : Nat) (s : Option (List Nat)) (hb : (left s).length ≤ 9223372036854775807) (Φ : Base) :
    Sl.Fn Try.prog Φ F.octet_Reader_Rest [.pointer (some ⟨p, 0, none⟩)] [rdr p s] (fun _ : Option Addr => True) (fun a => .slice a (left s).length (left s).length) (fun a => [rdr p (rdR s), brow a (left s).length (left s).length (left s)]) := by
  cases s with
  | none => exact (restN_c p Φ).conseq (fun _ => Ent.refl _) (fun _ _ => ⟨none, trivial, rfl, fun F => (Ent.brow0 _).trans (Ent.swap _ _ _)⟩)
  | some bs => exact rest_c p bs hb Φ
def dstep (s : Option (List Nat) × Rq × List Nat) (c : Nat) : Option (List Nat) × Rq × List Nat := match numOf c with
  | some (o, true) => ((rdU 1 s.1).2, s.2.1.setN o (rdU 1 s.1).1, s.2.2)
  | some (o, false) => ((rdU 2 s.1).2, s.2.1.setN o (rdU 2 s.1).1, s.2.2)
  | none => if c = 100 then (rdR s.1, s.2.1, left s.1) else match keyOf c, (rdB 32 s.1).1 with
    | some o, some r => ((rdB 32 s.1).2, s.2.1.setK o r, s.2.2)
    | _, _ => ((rdB 32 s.1).2, s.2.1, s.2.2)
def decSt (b : List Nat) : Option (List Nat) × Rq × List Nat :=
  let s1 := (rdU 1 (some b)).2
  let k : Int := (rdU 1 s1).1
  (fieldsM k).foldl dstep ((rdU 1 s1).2, Rq.zero.setN 0 k, [])
def decM (b : List Nat) : Option (Rq × List Nat) := if encM (decSt b).2.1 (decSt b).2.2 = some b then some (decSt b).2 else none
end Go.Proofs.Ytbecjgikhfplmaa
