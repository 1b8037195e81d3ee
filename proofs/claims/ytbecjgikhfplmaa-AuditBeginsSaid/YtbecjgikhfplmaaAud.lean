/-
  A book of an audit, as an assertion, and the contracts of what copies and counts. For each input.
-/
import Derived.Test.YtbecjgikhfplmaaRep
namespace Go.Proofs.Ytbecjgikhfplmaa
open Go Sl
attribute [local irreducible] cw sw J Exit.then Exit.inBlock Exit.noGoto bodyPost swG swL permL
abbrev Key32 := {l : List Nat // l.length = 32}
instance (priority := 1090) LGet.key (k : Key32) (post : List Value) (j : Nat) (v : Value) [h : LGet post j v] : LGet (k.1.map u8 ++ post) (j + 32) v :=
  ⟨by rw [List.getElem?_append_right (by simp [k.2])]; simp [k.2, h.eq]⟩
instance (priority := 1090) LSet.key (k : Key32) (post post' : List Value) (j : Nat) (v : Value) [h : LSet post j v post'] : LSet (k.1.map u8 ++ post) (j + 32) v (k.1.map u8 ++ post') :=
  ⟨by rw [List.set_append_right _ _ (by simp [k.2])]; simp [k.2, h.eq]⟩
theorem kv_inj : ∀ a b : Int, Value.int .i64 a = Value.int .i64 b → a = b := fun a b h => by cases h; rfl
theorem isInt_mk (n : Int) : isInt .i64 (Value.int .i64 n) := ⟨n, rfl⟩
abbrev mapI (r : Nat) (f : Int → Option Int) : Assn := mapF (Value.int .i64) (Value.int .i64) (isInt .i64) r f
abbrev emI (l : List (Int × Int)) : List (Value × Value) := em (Value.int .i64) (Value.int .i64) l
theorem dup_c (r : Nat) (f : Int → Option Int) (Φ : Base) :
    Sl.Fn Try.prog Φ F.audit_dup_int_int [.map (some r)] [mapI r f] (fun _ : Nat => True) (fun r' => .map (some r')) (fun r' => [mapI r f, mapI r' f]) := by
  refine fn_of rfl rfl (fun F => ?_)
  dsimp only [argEnv, List.cons_append, List.nil_append, Nat.zero_add, Nat.reduceAdd]
  refine j_mapF (fun l hl => ?_)
  repeat refine s1 ?_
  refine r_makeMap (isInt .i64) rfl rfl (fun r2 => ?_)
  refine j_ent (Ent.mapF (κ := Value.int .i64) (ν := Value.int .i64) (l := []) Rep.nil _) ?_
  repeat refine s1 ?_
  refine r_rangeM rfl rfl rfl (fun it => ?_)
  repeat refine s1 ?_
  refine t_loop (σ := List (Int × Int) × (Int → Option Int) × Option (Value × Value)) (fun _ => [(8, .pointer (some ⟨it, 0, none⟩)), (3, .map (some r2))])
    (fun s => mit (isInt .i64) it r (emI l) (emI s.1) s.2.2 :: mapI r2 s.2.1 :: F) (fun s => Cov f s.1 s.2.1) (fun s => s.1.length)
    (l, (fun _ => none), none) hl.cov ⟨rfl, rfl, trivial⟩ (by dsimp only; exact Le.ent) ?_
  rintro ⟨t, g, cur⟩ hc
  dsimp only at hc ⊢
  repeat refine s1 ?_
  refine r_nextM rfl rfl rfl (fun h0 => ?_) (fun l1 p l2 h1 => ?_)
  · repeat refine s1 ?_
    have := em_nil h0
    subst this
    rw [hc.done]
    refine j_ent (Ent.mitEnd.trans (Ent.mapF (κ := Value.int .i64) (ν := Value.int .i64) hl _)) ?_
    refine j_fin rfl (.cons (rv_tmp rfl) .nil) r2 (by rfl) (by trivial)
  · obtain ⟨t1, q, t2, rfl, h2, rfl⟩ := em_split h1
    rw [h2]
    repeat refine s1 ?_
    refine r_entry rfl rfl rfl ?_
    repeat refine s1 ?_
    refine j_head (mapI r2 g) ?_
    refine j_mapF (fun l2 hl2 => ?_)
    refine r_mapUpd rfl rfl rfl (isInt_mk _) rfl ?_
    rw [mset_em kv_inj]
    refine j_ent (Ent.mapF (κ := Value.int .i64) (ν := Value.int .i64) (hl2.set q.1 q.2) _) ?_
    repeat refine s1 ?_
    exact j_again (t1 ++ t2, upd g q.1 (some q.2), some (Value.int .i64 q.1, Value.int .i64 q.2)) hc.step (by simp) ⟨rfl, rfl, trivial⟩ (by dsimp only; exact Le.ent)
/-- volumes: of each number, its blocks, and which write each is. -/
abbrev Vl := Int × Nat × (Int → Option Int)
abbrev Side := Int → Option (Int × (Int → Option Int))
def encV (v : Vl) : Value := .agg #[.int .i64 v.1, .map (some v.2.1)]
def volOf (v : Vl) : Int × (Int → Option Int) := (v.1, v.2.2)
def vols (l : List (Int × Vl)) : List (Int × Int × (Int → Option Int)) := l.map fun e => (e.1, volOf e.2)
abbrev innr (e : Int × Vl) : Assn := mapI e.2.2.1 e.2.2.2
abbrev emV (l : List (Int × Vl)) : List (Value × Value) := em (Value.int .i64) encV l
def side (r : Nat) (s : Side) : Assn := ex fun l : List (Int × Vl) => all [mp (isInt .i64) r (emV l), each l innr, pu (Rep (vols l) s)]
theorem Ent.side {r : Nat} {s : Side} {l : List (Int × Vl)} (h : Rep (vols l) s) (L : List Assn) : Ent (mp (isInt .i64) r (emV l) :: each l innr :: L) (Go.Proofs.Ytbecjgikhfplmaa.side r s :: L) :=
  (Ent.cons _ (Ent.cons _ (Ent.mkPu h))).trans ((Ent.unall [mp (isInt .i64) r (emV l), each l innr, pu (Rep (vols l) s)] L).trans (Ent.mkEx (f := fun l : List (Int × Vl) => all [mp (isInt .i64) r (emV l), each l innr, pu (Rep (vols l) s)]) l))
theorem j_side {X : Cx} {e : Env} {L : List Assn} {G : Act → World → Prop} {r : Nat} {s : Side} (h : ∀ l : List (Int × Vl), Rep (vols l) s → J X e (mp (isInt .i64) r (emV l) :: each l innr :: L) G) : J X e (Go.Proofs.Ytbecjgikhfplmaa.side r s :: L) G :=
  j_ex fun l => j_ent ((Ent.all [mp (isInt .i64) r (emV l), each l innr, pu (Rep (vols l) s)] L).trans (by
    have : Ent ([mp (isInt .i64) r (emV l), each l innr, pu (Rep (vols l) s)] ++ L) (pu (Rep (vols l) s) :: mp (isInt .i64) r (emV l) :: each l innr :: L) := Ent.mid [mp (isInt .i64) r (emV l), each l innr] (pu (Rep (vols l) s)) L
    exact this)) (j_pu fun hr => h l hr)
theorem Ent.sideNil (r : Nat) (L : List Assn) : Ent (mp (isInt .i64) r [] :: L) (Go.Proofs.Ytbecjgikhfplmaa.side r (fun _ => none) :: L) :=
  (Ent.cons _ (Ent.eachNil innr L)).trans (Ent.side (l := []) Rep.nil L)
theorem copy_c (r : Nat) (s : Side) (Φ : Base) :
    Sl.Fn Try.prog Φ F.audit_side_copy [.map (some r)] [side r s] (fun _ : Nat => True) (fun r' => .map (some r')) (fun r' => [side r s, side r' s]) := by
  refine fn_of rfl rfl (fun F => ?_)
  dsimp only [argEnv, List.cons_append, List.nil_append, Nat.zero_add, Nat.reduceAdd]
  refine j_side (fun l hl => ?_)
  repeat refine s1 ?_
  refine r_makeMap (isInt .i64) rfl rfl (fun r2 => ?_)
  refine j_ent (Ent.sideNil r2 _) ?_
  repeat refine s1 ?_
  refine r_rangeM rfl rfl rfl (fun it => ?_)
  repeat refine s1 ?_
  refine t_loop (σ := List (Int × Vl) × Side × Option (Value × Value)) (fun _ => [(8, .pointer (some ⟨it, 0, none⟩)), (3, .map (some r2))])
    (fun s => mit (isInt .i64) it r (emV l) (emV s.1) s.2.2 :: each l innr :: side r2 s.2.1 :: F) (fun p => Cov s (vols p.1) p.2.1 ∧ ∀ e ∈ p.1, e ∈ l) (fun s => s.1.length)
    (l, (fun _ => none), none) ⟨hl.cov, fun _ h => h⟩ ⟨rfl, rfl, trivial⟩ (by dsimp only; exact Le.ent) ?_
  rintro ⟨t, g, cur⟩ ⟨hc, hsub⟩
  dsimp only at hc hsub ⊢
  repeat refine s1 ?_
  refine r_nextM rfl rfl rfl (fun h0 => ?_) (fun l1 p l2 h1 => ?_)
  · repeat refine s1 ?_
    have := em_nil h0
    subst this
    rw [hc.done]
    refine j_ent (Ent.mitEnd.trans (Ent.side hl _)) ?_
    refine j_fin rfl (.cons (rv_tmp rfl) .nil) r2 (by rfl) (by trivial)
  · obtain ⟨t1, q, t2, rfl, h2, rfl⟩ := em_split h1
    rw [h2]
    obtain ⟨m1, m2, hm⟩ := List.append_of_mem (hsub q (by simp))
    repeat refine s1 ?_
    refine r_entry rfl rfl rfl ?_
    repeat refine s1 ?_
    refine r_alloc (cs := [i64 0, .map none]) rfl rfl rfl (fun b5 => ?_)
    repeat refine s1 ?_
    refine r_storeW (vs := [.int .i64 q.2.1, .map (some q.2.2.1)]) rfl rfl (by rfl) (by rfl) (by simp [Value.oneCell']) rfl ?_
    repeat refine s1 ?_
    refine t_draw [pt b5 (.cells [.int .i64 q.2.1, .map (some q.2.2.1)].toArray T.audit_volume (0, 0))] [3, 5] mixed (by kernel_rfl) ?_
    repeat refine s1 ?_
    refine j_head (each l innr) ?_
    rw [hm]
    refine j_ent (Ent.eachMid m1 q m2 innr _) ?_
    refine r_call rfl (blt_some rfl) rfl (dup_c q.2.2.1 q.2.2.2 Φ) ?_
    intro r3 _
    dsimp only [bnd, List.cons_append, List.nil_append]
    refine r_build (cells := [.int .i64 q.2.1, .map (some r3)]) rfl rfl rfl ?_
    refine j_head (side r2 g) ?_
    refine j_side (fun l3 hl3 => ?_)
    refine r_mapUpd (v := encV (q.2.1, r3, q.2.2.2)) rfl rfl rfl (isInt_mk _) rfl ?_
    have hnew : alook l3 q.1 = none := by
      have h5 := hl3.eq q.1
      rw [vols, alook_map, hc.fresh (q.1, volOf q.2) (by simp [vols])] at h5
      simpa using h5
    have hset : Rep (vols (l3 ++ [(q.1, q.2.1, r3, q.2.2.2)])) (upd g q.1 (some (volOf q.2))) := by
      have h6 := Rep.set hl3 q.1 (volOf (q.2.1, r3, q.2.2.2))
      rw [vols, ← aset_map volOf, aset_new hnew] at h6
      exact h6
    rw [mset_em (ν := encV) kv_inj, aset_new hnew]
    refine j_heads [mapI r3 q.2.2.2, each l3 innr] ?_
    dsimp only [List.cons_append, List.nil_append]
    have hun := Ent.eachUnmid l3 (q.1, q.2.1, r3, q.2.2.2) [] innr
    simp only [List.append_nil] at hun
    refine j_ent (hun _) ?_
    refine j_heads [mp (isInt .i64) r2 (emV (l3 ++ [(q.1, q.2.1, r3, q.2.2.2)])), each (l3 ++ [(q.1, q.2.1, r3, q.2.2.2)]) innr] ?_
    dsimp only [List.cons_append, List.nil_append]
    refine j_ent (Ent.side hset _) ?_
    refine j_heads [mapI q.2.2.1 q.2.2.2, each (m1 ++ m2) innr] ?_
    dsimp only [List.cons_append, List.nil_append]
    refine j_ent (Ent.eachUnmid m1 q m2 innr _) ?_
    rw [← hm]
    repeat refine s1 ?_
    have hcs : Cov s (vols (t1 ++ t2)) (upd g q.1 (some (volOf q.2))) := by
      have := hc
      rw [vols, List.map_append, List.map_cons] at this
      have := this.step
      rw [vols, List.map_append]; exact this
    exact j_again (t1 ++ t2, upd g q.1 (some (volOf q.2)), some (Value.int .i64 q.1, encV q.2)) ⟨hcs, fun e he => hsub e (by rcases List.mem_append.1 he with h | h <;> simp [h])⟩ (by simp) ⟨rfl, rfl, trivial⟩ (by dsimp only; exact Le.ent)
end Go.Proofs.Ytbecjgikhfplmaa
