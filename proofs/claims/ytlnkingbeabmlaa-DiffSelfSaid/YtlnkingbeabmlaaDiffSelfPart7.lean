/- Parts of the proofs of the statements of this seat: AmMap, DiffS1, DiffS2, DiffS3, DiffS4, DiffS5, DiffS6, DiffS7, DiffS8, DiffS9, DiffSA, DiffT1, DiffT2, DiffT3, DiffT4. No conditions. -/
import Derived.Test.YtlnkingbeabmlaaDiffSelfPart6
set_option linter.unusedVariables false
set_option linter.unusedSimpArgs false

/- Maps whose keys are whole numbers. -/
set_option linter.unusedVariables false
namespace Go.Am
variable {α : Type}

def mpL (e : α → Value) (L : List (Int × α)) : List (Value × Value) := L.map fun p => (.int .i64 p.1, e p.2)
def lkp : List (Int × α) → Int → Option α
  | [], _ => none
  | (k, a) :: r, x => if k = x then some a else lkp r x
def updL : List (Int × α) → Int → α → List (Int × α)
  | [], x, a => [(x, a)]
  | (k, b) :: r, x, a => if k = x then (x, a) :: r else (k, b) :: updL r x a
def delL : List (Int × α) → Int → List (Int × α)
  | [], _ => []
  | (k, b) :: r, x => if k = x then r else (k, b) :: delL r x

theorem lkp_upd {L : List (Int × α)} {x y : Int} {a : α} : lkp (updL L x a) y = if y = x then some a else lkp L y := by
  induction L with
  | nil => simp only [updL, lkp]; by_cases h : x = y <;> simp [h]; intro e; exact absurd e.symm h
  | cons p r ih =>
    obtain ⟨k, b⟩ := p
    simp only [updL]
    by_cases h : k = x
    · subst h
      simp only [if_true, lkp]
      by_cases g : k = y
      · subst g; simp
      · rw [if_neg g, if_neg (fun e => g e.symm), if_neg g]
    · simp only [h, if_false, lkp]
      by_cases g : k = y
      · subst g; rw [if_pos rfl, if_neg h, if_pos rfl]
      · rw [if_neg g, ih, if_neg g]

theorem findK_mp {e : α → Value} {x : Int} : ∀ (L : List (Int × α)) (i : Nat), (lkp L x = none → findK .int (.int .i64 x) (mpL e L) i = some none ∧ ∀ a, mpL e L ++ [(.int .i64 x, e a)] = mpL e (updL L x a)) ∧
    ∀ a, lkp L x = some a → ∃ j, findK .int (.int .i64 x) (mpL e L) i = some (some (i + j, e a)) ∧ (∀ b, (mpL e L).set j (.int .i64 x, e b) = mpL e (updL L x b)) ∧ (mpL e L).eraseIdx j = mpL e (delL L x)
  | [], i => ⟨fun _ => ⟨rfl, fun a => rfl⟩, fun a h => by simp [lkp] at h⟩
  | (k, b) :: r, i => by
    by_cases h : k = x
    · subst h
      refine ⟨fun h => by simp [lkp] at h, fun a ha => ?_⟩
      simp only [lkp, if_true, Option.some.injEq] at ha
      subst ha
      refine ⟨0, ?_, fun b => ?_, ?_⟩
      · simp [mpL, findK, keyEq]
      · simp [mpL, updL]
      · simp [mpL, delL]
    · have hk : keyEq .int (.int .i64 x) (.int .i64 k) = some false := by simp [keyEq]; exact fun e => h e.symm
      have hf : findK .int (.int .i64 x) (mpL e ((k, b) :: r)) i = findK .int (.int .i64 x) (mpL e r) (i + 1) := by
        show (match keyEq .int (.int .i64 x) (.int .i64 k) with | some true => _ | some false => _ | none => _) = _
        rw [hk]; rfl
      obtain ⟨h1, h2⟩ := findK_mp (e := e) r (i + 1)
      refine ⟨fun hn => ?_, fun a ha => ?_⟩
      · simp only [lkp, h, if_false] at hn
        obtain ⟨g1, g2⟩ := h1 hn
        refine ⟨by rw [hf, g1], fun a => ?_⟩
        simp only [updL, h, if_false]
        show (.int .i64 k, e b) :: (mpL e r ++ _) = _
        rw [g2]; rfl
      · simp only [lkp, h, if_false] at ha
        obtain ⟨j, g1, g2, g3⟩ := h2 a ha
        refine ⟨j + 1, by rw [hf, g1]; congr 3; omega, fun c => ?_, ?_⟩
        · simp only [updL, h, if_false]
          show (.int .i64 k, e b) :: ((mpL e r).set j _) = _
          rw [g2]; rfl
        · simp only [delL, h, if_false]
          show (.int .i64 k, e b) :: ((mpL e r).eraseIdx j) = _
          rw [g3]; rfl

/-- A map that is there. -/
structure Mp (m : Mem) (r : Nat) (e : α → Value) (L : List (Int × α)) : Prop where
  at_ : m.blk r = some (.map (mpL e L))
  lt : r < m.next
theorem Mp.new {m : Mem} {e : α → Value} : Mp (m.new (.map [])) m.next e [] := ⟨by simp [Mem.new, mpL], by simp [Mem.new]⟩
theorem Mp.keep {m m' : Mem} {r : Nat} {e : α → Value} {L : List (Int × α)} (h : Mp m r e L) (hx : Ext m m') : Mp m' r e L := ⟨by rw [hx.same _ h.lt]; exact h.at_, Nat.lt_of_lt_of_le h.lt hx.next⟩
theorem Mp.upd {m m' : Mem} {r : Nat} {e : α → Value} {L : List (Int × α)} {fp : List Nat} (h : Mp m r e L) (hx : Upd m m' fp) (hn : r ∉ fp) : Mp m' r e L := ⟨by rw [hx.same _ h.lt hn]; exact h.at_, Nat.lt_of_lt_of_le h.lt hx.next⟩
theorem Mp.other {m : Mem} {r b : Nat} {e : α → Value} {L : List (Int × α)} {o : Option AObj} (h : Mp m r e L) (hn : r ≠ b) : Mp (m.set b o) r e L := ⟨by simp [Mem.set, hn]; exact h.at_, h.lt⟩
theorem Mp.self {m : Mem} {r : Nat} {e : α → Value} {L L' : List (Int × α)} (h : Mp m r e L) : Mp (m.set r (some (.map (mpL e L')))) r e L' := ⟨by simp [Mem.set], h.lt⟩

theorem Mp.look {m : Mem} {r : Nat} {e : α → Value} {L : List (Int × α)} (h : Mp m r e L) {x : Int} {z : α} : aLook .int (e z) false m (.map (some r)) (.int .i64 x) = some (e ((lkp L x).getD z)) := by
  simp only [aLook, h.at_, Option.bind_some]
  obtain ⟨h1, h2⟩ := findK_mp (e := e) (x := x) L 0
  cases hl : lkp L x with
  | none => rw [(h1 hl).1]; rfl
  | some a =>
    obtain ⟨j, g, -⟩ := h2 a hl
    rw [g]; rfl
theorem Mp.look_ok {m : Mem} {r : Nat} {e : α → Value} {L : List (Int × α)} (h : Mp m r e L) {x : Int} {z : α} : aLook .int (e z) true m (.map (some r)) (.int .i64 x) = some (.tuple #[e ((lkp L x).getD z), .bool (lkp L x).isSome]) := by
  simp only [aLook, h.at_, Option.bind_some]
  obtain ⟨h1, h2⟩ := findK_mp (e := e) (x := x) L 0
  cases hl : lkp L x with
  | none => rw [(h1 hl).1]; rfl
  | some a =>
    obtain ⟨j, g, -⟩ := h2 a hl
    rw [g]; rfl
theorem Mp.put {m : Mem} {r : Nat} {e : α → Value} {L : List (Int × α)} (h : Mp m r e L) {x : Int} {a : α} : aUpd .int m (.map (some r)) (.int .i64 x) (e a) = some (m.set r (some (.map (mpL e (updL L x a))))) := by
  simp only [aUpd, h.at_]
  obtain ⟨h1, h2⟩ := findK_mp (e := e) (x := x) L 0
  cases hl : lkp L x with
  | none => rw [(h1 hl).1]; simp only [Option.map_some]; rw [(h1 hl).2]
  | some b =>
    obtain ⟨j, g, g2, -⟩ := h2 b hl
    rw [g]; simp only [Option.map_some, Nat.zero_add]; rw [g2]
theorem Mp.del {m : Mem} {r : Nat} {e : α → Value} {L : List (Int × α)} (h : Mp m r e L) {x : Int} : ∃ L', L' = (if (lkp L x).isSome then delL L x else L) ∧ ∃ m', aDel .int m (.map (some r)) (.int .i64 x) = some m' ∧ Mp m' r e L' ∧ Upd m m' [r] := by
  refine ⟨_, rfl, ?_⟩
  simp only [aDel, h.at_]
  obtain ⟨h1, h2⟩ := findK_mp (e := e) (x := x) L 0
  cases hl : lkp L x with
  | none => rw [(h1 hl).1]; exact ⟨m, rfl, h, Upd.refl _ _⟩
  | some b =>
    obtain ⟨j, g, -, g3⟩ := h2 b hl
    rw [g]; simp only [Option.map_some, Nat.zero_add]
    rw [g3]
    exact ⟨_, rfl, h.self, Upd.set (by simp)⟩

abbrev vI (n : Int) : Value := .int .i64 n
abbrev vB (b : Bool) : Value := .bool b
end Go.Am


/- Diff: the places of a plan by unit; the units in order. -/
set_option linter.unusedVariables false
set_option linter.unusedSimpArgs false
namespace Go.Am
open Classical
variable {m : Mem}

def eP (e : PE) : Value := .agg (peV e).toArray
def unitE (e : PE) : Int := e.pl.unit
def asMap (l : List PE) : List (Int × PE) := l.map fun e => (unitE e, e)
theorem updL_new {α : Type} {L : List (Int × α)} {x : Int} {a : α} (h : ∀ p ∈ L, p.1 ≠ x) : updL L x a = L ++ [(x, a)] := by
  induction L with
  | nil => rfl
  | cons p r ih =>
    obtain ⟨k, b⟩ := p
    simp only [updL]
    rw [if_neg (h (k, b) (by simp)), ih fun q hq => h q (by simp [hq])]; rfl
theorem asMap_succ {l : List PE} {i : Nat} (hi : i < l.length) (hn : (l.map unitE).Nodup) : updL (asMap (l.take i)) (unitE l[i]) l[i] = asMap (l.take (i + 1)) := by
  rw [updL_new]
  · unfold asMap
    rw [List.take_succ_eq_append_getElem hi, List.map_append]; rfl
  · intro p hp
    unfold asMap at hp
    obtain ⟨e, he, rfl⟩ := List.mem_map.1 hp
    obtain ⟨t, ht, rfl⟩ := List.getElem_of_mem he
    rw [List.getElem_take]
    rw [List.length_take] at ht
    intro e
    have := (List.nodup_iff_pairwise_ne.1 hn)
    rw [List.pairwise_iff_getElem] at this
    exact this t i (by simp; omega) (by simpa using hi) (by omega) (by simpa using e)

/-- A row of places as it lies (kept from plan's texts). -/
structure RowS (m : Mem) (l : List PE) (v : Value) : Prop where
  sl : Sl m 4 l.length (l.flatMap peV) v
  lt : SlLt m v
theorem RowS.keep {m m' : Mem} {l : List PE} {v : Value} (h : RowS m l v) (hx : Ext m m') : RowS m' l v := ⟨h.sl.keep h.lt hx, h.lt.keep hx⟩

set_option maxHeartbeats 4000000 in
theorem places_spec {l : List PE} {f : Int} {c : BitVec 32} {pv : Value} (hs : RowS m l pv) (hl : l.length < 1000000) (hn : (l.map unitE).Nodup) :
    WC R F.diff_places [.agg #[.int .i64 f, u32 c, pv]] m fun r m' => ∃ q, r = .map (some q) ∧ Mp m' q eP (asMap l) ∧ m.next ≤ q ∧ Ext m m' := by
  refine WC.of R.diff_places rfl ?_
  simp only [RC.diff_places, go_sem, Int.reduceBEq, Int.reduceBNe, Int.reduceNeg, reduceCtorEq, Nat.reduceEqDiff, Nat.reduceAdd, Nat.reduceLeDiff, Nat.reduceMul, Nat.reduceSub, Int.reduceToNat, Int.reduceLT, Int.reduceLE, hs.sl.one]
  have hx1 : Ext m (m.new (.cells [.int .i64 f, u32 c, pv] (some 3))) := Ext.new
  have hb1 : Bk (m.new (.cells [.int .i64 f, u32 c, pv] (some 3))) m.next [.int .i64 f, u32 c, pv] 3 := Bk.new
  generalize m.new (.cells [.int .i64 f, u32 c, pv] (some 3)) = m1 at hx1 hb1 ⊢
  have hs1 := hs.keep hx1
  have hbn := hb1.ne
  try simp only [go_sem, Int.reduceBEq, Int.reduceBNe, Int.reduceNeg, reduceCtorEq, Nat.reduceEqDiff, Nat.reduceAdd, Nat.reduceLeDiff, Nat.reduceMul, Nat.reduceSub, Int.reduceToNat, Int.reduceLT, Int.reduceLE, load_w, load_a, store_b, idxS_b, set_blk, new_blk, set_next, new_next, len_s, ldW_c, ldA_c, stB_c, toArr_one, size_one, toList_toArr, size_toArr, List.length_cons, List.length_nil, List.getElem?_cons_zero, List.getElem?_cons_succ, Nat.zero_add, Nat.add_zero, hbn, hb1.at_, hs1.sl.len]
  have hM : Mp (m1.new (.map [])) m1.next eP (asMap ([] : List PE)) := Mp.new
  have hx2 : Ext m1 (m1.new (.map [])) := Ext.new
  generalize m1.new (.map []) = m2 at hM hx2 ⊢
  refine WL.of (fun n e m' => ∃ i : Nat, i ≤ l.length ∧ n = l.length - i ∧ e = [(3, .map (some m1.next)), (8, pv), (9, .int .i64 l.length), (10, .int .i64 i)] ∧ Mp m' m1.next eP (asMap (l.take i)) ∧ Ext m1 m') l.length
    ⟨0, by omega, by omega, by simp only [go_sem, Int.reduceBEq, Int.reduceBNe, Int.reduceNeg, reduceCtorEq, Nat.reduceEqDiff, Nat.reduceAdd, Nat.reduceLeDiff, Nat.reduceMul, Nat.reduceSub, Int.reduceToNat, Int.reduceLT, Int.reduceLE] <;> rfl, hM, hx2⟩ ?_
  rintro _ _ m3 ⟨i, hi, rfl, rfl, hM3, hx3⟩
  have hs3 := hs1.keep hx3
  simp only [RB.diff_places_1, go_sem, Int.reduceBEq, Int.reduceBNe, Int.reduceNeg, reduceCtorEq, Nat.reduceEqDiff, Nat.reduceAdd, Nat.reduceLeDiff, Nat.reduceMul, Nat.reduceSub, Int.reduceToNat, Int.reduceLT, Int.reduceLE]
  refine gT.of (fun h1' => ?_) (fun h1' => ?_) <;> (have h1 := h1'; try simp only [decide_eq_true_eq, decide_eq_false_iff_not, beq_iff_eq, bne_iff_ne, beq_eq_false_iff_ne, ne_eq, Bool.not_eq_true', Bool.not_eq_false', bne_eq_false_iff_eq, Int.not_lt, Int.not_le] at h1)
  · have hil : i < l.length := by omega
    obtain ⟨b, o, a1, a2, a3, a4⟩ := hs3.sl.elem peV_len (k := .i64) (i := i) hil
    have hsu := asMap_succ hil hn
    have s1 := step1 (show i < 1000000 by omega)
    have q1 := l[i].one
    generalize l[i] = x at *
    simp only [peV, plV] at a2
    try simp only [go_sem, Int.reduceBEq, Int.reduceBNe, Int.reduceNeg, reduceCtorEq, Nat.reduceEqDiff, Nat.reduceAdd, Nat.reduceLeDiff, Nat.reduceMul, Nat.reduceSub, Int.reduceToNat, Int.reduceLT, Int.reduceLE, load_w, load_a, store_b, idxS_b, set_blk, new_blk, set_next, new_next, len_s, ldW_c, ldA_c, stB_c, toArr_one, size_one, toList_toArr, size_toArr, List.length_cons, List.length_nil, List.getElem?_cons_zero, List.getElem?_cons_succ, Nat.zero_add, Nat.add_zero, h1', a1, a2, q1]
    have hx4 : Ext m3 (m3.new (.cells [.int .i64 x.pl.unit, .int .i64 x.pl.share, .int .i64 x.pl.core, x.pv] (some 4))) := Ext.new
    have hb4 : Bk (m3.new (.cells [.int .i64 x.pl.unit, .int .i64 x.pl.share, .int .i64 x.pl.core, x.pv] (some 4))) m3.next [.int .i64 x.pl.unit, .int .i64 x.pl.share, .int .i64 x.pl.core, x.pv] 4 := Bk.new
    generalize m3.new (.cells [.int .i64 x.pl.unit, .int .i64 x.pl.share, .int .i64 x.pl.core, x.pv] (some 4)) = m4 at hx4 hb4 ⊢
    have hM4 := hM3.keep hx4
    have hp := hM4.put (x := x.pl.unit) (a := x)
    simp only [eP, peV, plV] at hp
    try simp only [go_sem, Int.reduceBEq, Int.reduceBNe, Int.reduceNeg, reduceCtorEq, Nat.reduceEqDiff, Nat.reduceAdd, Nat.reduceLeDiff, Nat.reduceMul, Nat.reduceSub, Int.reduceToNat, Int.reduceLT, Int.reduceLE, load_w, load_a, store_b, idxS_b, set_blk, new_blk, set_next, new_next, len_s, ldW_c, ldA_c, stB_c, toArr_one, size_one, toList_toArr, size_toArr, List.length_cons, List.length_nil, List.getElem?_cons_zero, List.getElem?_cons_succ, Nat.zero_add, Nat.add_zero, hb4.at_, hp, s1]
    have hn1 := hx1.next
    refine ⟨l.length - (i + 1), by omega, i + 1, by omega, rfl, rfl, ?_, (hx3.trans hx4).set (Nat.le_refl _)⟩
    rw [← hsu]
    exact hM4.self
  · have hil : i = l.length := by omega
    subst hil
    rw [List.take_length] at hM3
    try simp only [go_sem, Int.reduceBEq, Int.reduceBNe, Int.reduceNeg, reduceCtorEq, Nat.reduceEqDiff, Nat.reduceAdd, Nat.reduceLeDiff, Nat.reduceMul, Nat.reduceSub, Int.reduceToNat, Int.reduceLT, Int.reduceLE, load_w, load_a, store_b, idxS_b, set_blk, new_blk, set_next, new_next, len_s, ldW_c, ldA_c, stB_c, toArr_one, size_one, toList_toArr, size_toArr, List.length_cons, List.length_nil, List.getElem?_cons_zero, List.getElem?_cons_succ, Nat.zero_add, Nat.add_zero, h1']
    exact ⟨_, rfl, hM3, hx1.next, hx1.trans hx3⟩
end Go.Am


/- Diff: a map's keys in order. -/
set_option linter.unusedVariables false
set_option linter.unusedSimpArgs false
namespace Go.Am
open Classical
variable {m : Mem}

theorem keyInts_asMap : ∀ {l : List PE}, (∀ e ∈ l, (Lit.int .i64 (unitE e)).wf = true) → keyInts (mpL eP (asMap l)) = some (l.map unitE)
  | [], _ => rfl
  | e :: l, h => by
    simp only [asMap, mpL, List.map_cons, keyInts]
    rw [if_pos (h e (by simp))]
    have := keyInts_asMap (l := l) fun x hx => h x (by simp [hx])
    simp only [asMap, mpL] at this
    rw [this]; rfl

theorem keys_spec {q : Nat} : WC R F.maps_Keys_map_int_api_Place_int_api_Place [.map (some q)] m fun r m' => r = .func (.func F.maps_Keys_map_int_api_Place_int_api_Place_1) #[] #[.pointer (some ⟨m.next, 0, none⟩)] ∧ m' = m.new (.cells [.map (some q)] (some 1)) := by
  refine WC.of R.maps_Keys_map_int_api_Place_int_api_Place rfl ?_
  simp only [RC.maps_Keys_map_int_api_Place_int_api_Place, go_sem, Int.reduceBEq, Int.reduceBNe, Int.reduceNeg, reduceCtorEq, Nat.reduceEqDiff, Nat.reduceAdd, Nat.reduceLeDiff, Nat.reduceMul, Nat.reduceSub, Int.reduceToNat, Int.reduceLT, Int.reduceLE]

theorem ints_one {l : List Int} : oneCells (l.map (.int .i64)) = true := by
  unfold oneCells
  rw [List.all_eq_true]
  intro x hx
  obtain ⟨y, _, rfl⟩ := List.mem_map.1 hx
  rfl

theorem sorted_spec {l : List PE} {b q : Nat} (hb : Bk m b [.map (some q)] 1) (hq : Mp m q eP (asMap l)) (hw : ∀ e ∈ l, (Lit.int .i64 (unitE e)).wf = true) (hn : (l.map unitE).Nodup) (hl : l.length ≤ 1000000) :
    WC R F.slices_Sorted_int [.func (.func F.maps_Keys_map_int_api_Place_int_api_Place_1) #[] #[.pointer (some ⟨b, 0, none⟩)]] m fun r m' => Own m m' 1 l.length (intsZ (sortI (l.map unitE))) r ∧ Ext m m' ∧ Full r := by
  have hg : F.maps_Keys_map_int_api_Place_int_api_Place_1 = 58 := by unfold F.maps_Keys_map_int_api_Place_int_api_Place_1; rfl
  have hk := keyInts_asMap hw
  have hnd := noDup_iff.2 hn
  have hlen : (l.map unitE).length ≤ 1000000 := by rw [List.length_map]; exact hl
  have key : ∃ r m', X.sk [.func (.func 58) #[] #[.pointer (some ⟨b, 0, none⟩)]] m = some (r, m') ∧ Own m m' 1 l.length (intsZ (sortI (l.map unitE))) r ∧ Ext m m' ∧ Full r := by
    cases l with
    | nil =>
      refine ⟨.slice none 0 0, m, ?_, .nil rfl rfl, Ext.refl _, fun a p q e => by cases e; rfl⟩
      have hc : ([58] : List Nat).contains 58 = true := rfl
      have h0 : ((#[] : Array Value).toList) = [] := rfl
      have h1 : ((#[Value.pointer (some ⟨b, 0, none⟩)] : Array Value).toList) = [.pointer (some ⟨b, 0, none⟩)] := rfl
      simp only [X.sk, X.skeys, hc, h0, h1, hb.at_, List.getElem?_cons_zero, hq.at_, hk, Option.bind_some]
      rw [if_pos ⟨hnd, hlen⟩]
      rfl
    | cons e l =>
      refine ⟨.slice (some ⟨m.next, 0, none⟩) (e :: l).length (e :: l).length, m.new (.cells ((sortI ((e :: l).map unitE)).map (.int .i64)) (some 1)), ?_, ?_, Ext.new, fun a p q e => by cases e; rfl⟩
      · have hc : ([58] : List Nat).contains 58 = true := rfl
        have h0 : ((#[] : Array Value).toList) = [] := rfl
        have h1 : ((#[Value.pointer (some ⟨b, 0, none⟩)] : Array Value).toList) = [.pointer (some ⟨b, 0, none⟩)] := rfl
        simp only [X.sk, X.skeys, hc, h0, h1, hb.at_, List.getElem?_cons_zero, hq.at_, hk, Option.bind_some]
        rw [if_pos ⟨hnd, hlen⟩]
        simp only [List.map_cons, List.length_cons, List.length_map]
      · refine .at (all := (sortI ((e :: l).map unitE)).map (.int .i64)) (Nat.le_refl _) (by simp [Mem.new]) (Nat.le_refl _) (by simp [Mem.new]) ?_ ?_ ?_
        · rw [List.length_map, sortI_len, List.length_map, Nat.mul_one]
        · rw [List.take_of_length_le]; rfl
          rw [List.length_map, sortI_len, List.length_map, Nat.mul_one]; exact Nat.le_refl _
        · exact ints_one
  obtain ⟨r, m', h1, h2⟩ := key
  rw [hg]
  exact WC.ext R.slices_Sorted_int h1 h2
end Go.Am


/- Diff: whole numbers sorted in place. -/
set_option linter.unusedVariables false
set_option linter.unusedSimpArgs false
namespace Go.Am
open Classical
variable {m : Mem}

theorem Sort_spec {m0 : Mem} {zs : List Int} {v : Value} (ho : Own m0 m 1 zs.length (intsZ zs) v) (hx : Ext m0 m) (hl : zs.length ≤ 1000000) :
    WC R F.slices_Sort_int_int [v] m fun r m' => r = .tuple #[] ∧ Own m0 m' 1 zs.length (intsZ (sortI zs)) v ∧ Upd m m' (vb v) ∧ Ext m0 m' := by
  cases ho with
  | nil h hc =>
    obtain rfl : zs = [] := List.eq_nil_of_length_eq_zero h
    exact WC.ext R.slices_Sort_int_int (v := .tuple #[]) (m' := m) rfl ⟨rfl, .nil rfl rfl, Upd.refl _ _, hx⟩
  | @«at» b c all hb hb2 hnc hm hal hcs hone =>
    have hall : all.take zs.length = zs.map (.int .i64) := by simpa [intsZ] using hcs
    have key : X.so [.slice (some ⟨b, 0, none⟩) zs.length c] m = some (.tuple #[], m.set b (some (.cells (writeL all 0 ((sortI zs).map (.int .i64))) (some 1)))) := by
      simp only [X.so, X.isort, hm, List.drop_zero]
      rw [if_pos ⟨by omega, hl⟩, hall, cellInts_map]
      rfl
    refine WC.ext R.slices_Sort_int_int key ⟨rfl, ?_, Upd.set (by simp [vb]), hx.set hb⟩
    have hsl : ((sortI zs).map (Value.int .i64)).length = zs.length := by rw [List.length_map, sortI_len]
    have hw : writeL all 0 ((sortI zs).map (Value.int .i64)) = (sortI zs).map (Value.int .i64) ++ all.drop zs.length := by
      unfold writeL
      simp [sortI_len]
    refine .at (all := writeL all 0 ((sortI zs).map (Value.int .i64))) hb (by simpa [Mem.set] using hb2) hnc (by simp [Mem.set]) ?_ ?_ ?_
    · rw [hw, List.length_append, hsl, List.length_drop]; omega
    · rw [hw, Nat.mul_one, List.take_left' hsl]; rfl
    · exact ints_one

def compL : List Int → List Int
  | [] => []
  | [a] => [a]
  | a :: b :: r => if a = b then compL (b :: r) else a :: compL (b :: r)
theorem compL_snoc : ∀ {l : List Int} {x y : Int}, compL (l ++ [x, y]) = compL (l ++ [x]) ++ (if x = y then [] else [y])
  | [], x, y => by
    simp only [List.nil_append, compL]
    by_cases h : x = y
    · simp [h]
    · simp [h]
  | [a], x, y => by
    have ih := compL_snoc (l := []) (x := x) (y := y)
    simp only [List.nil_append] at ih
    simp only [List.cons_append, List.nil_append, compL]
    by_cases h : x = y <;> by_cases g : a = x <;> simp [h, g] 
  | a :: b :: l, x, y => by
    have ih := compL_snoc (l := b :: l) (x := x) (y := y)
    simp only [List.cons_append] at ih ⊢
    simp only [compL]
    by_cases g : a = b
    · simp [g, ih]
    · simp [g, ih]
theorem compL_len : ∀ {l : List Int}, (compL l).length ≤ l.length
  | [] => Nat.le_refl _
  | [a] => Nat.le_refl _
  | a :: b :: r => by
    have ih := compL_len (l := b :: r)
    simp only [compL]
    split
    · simp only [List.length_cons] at ih ⊢; omega
    · simp only [List.length_cons] at ih ⊢; omega
theorem compL_take {l : List Int} {j : Nat} (h : 0 < j) (hj : j < l.length) : compL (l.take (j + 1)) = compL (l.take j) ++ (if l[j - 1] = l[j] then [] else [l[j]]) := by
  obtain ⟨i, rfl⟩ : ∃ i, j = i + 1 := ⟨j - 1, by omega⟩
  have e1 : l.take (i + 1 + 1) = l.take i ++ [l[i], l[i + 1]] := by
    rw [List.take_succ_eq_append_getElem hj, List.take_succ_eq_append_getElem (show i < l.length by omega), List.append_assoc]; rfl
  have e2 : l.take (i + 1) = l.take i ++ [l[i]] := List.take_succ_eq_append_getElem (by omega)
  rw [e1, e2, compL_snoc]; rfl
end Go.Am


/- Diff: whole numbers left out. -/
set_option linter.unusedVariables false
set_option linter.unusedSimpArgs false
namespace Go.Am
open Classical
variable {m : Mem}

theorem intsZ_getq {l : List Int} {i : Nat} (h : i < l.length) : (intsZ l)[i]? = some (.int .i64 l[i]) := by
  unfold intsZ; rw [List.getElem?_map, List.getElem?_eq_getElem h]; rfl
theorem intsZ_len' {l : List Int} : (intsZ l).length = l.length := by unfold intsZ; rw [List.length_map]
theorem Sl.geti {l : List Int} {v : Value} (h : Sl m 1 l.length (intsZ l) v) {i : Nat} (hi : i < l.length) :
    ∃ b o, aIdxS 1 v (.int .i64 i) = some (.pointer (some ⟨b, o, none⟩)) ∧ aLoad false 1 m (.pointer (some ⟨b, o, none⟩)) = some (.int .i64 l[i]) := by
  obtain ⟨b, o, h1, h2, -⟩ := h.cell (k := .i64) hi
  have := h2 0 (by omega)
  rw [Nat.mul_one, Nat.add_zero, Nat.add_zero, intsZ_getq hi] at this
  exact ⟨b, o, h1, this⟩

theorem iIndex {l : List Int} {v fv : Value} {p : Int → Bool} (hs : Sl m 1 l.length (intsZ l) v) (hb : SlLt m v) (hl : l.length ≤ 3000000)
    (hp : ∀ m1 x, Ext m m1 → gV R fv [.int .i64 x] m1 fun r m' => r = .bool (p x) ∧ Ext m1 m') :
    WC R F.slices_IndexFunc_int_int [v, fv] m fun r m' => ((l.any p = false ∧ r = .int .i64 (-1)) ∨ ∃ i : Nat, ∃ h : i < l.length, r = .int .i64 i ∧ p l[i] = true ∧ ∀ j (hj : j < i), p (l[j]'(by omega)) = false) ∧ Ext m m' := by
  refine WC.of R.slices_IndexFunc_int_int rfl ?_
  simp only [RC.slices_IndexFunc_int_int, go_sem, Int.reduceBEq, Int.reduceBNe, Int.reduceNeg, reduceCtorEq, Nat.reduceEqDiff, Nat.reduceAdd, Nat.reduceLeDiff, Nat.reduceMul, Nat.reduceSub, Int.reduceToNat, Int.reduceLT, Int.reduceLE, hs.len]
  refine WL.of (fun n e m' => ∃ i : Nat, i ≤ l.length ∧ n = l.length - i ∧ e = [(0, v), (1, fv), (7, .int .i64 l.length), (8, .int .i64 i)] ∧ (∀ j (hj : j < l.length), j < i → p l[j] = false) ∧ Ext m m') l.length
    ⟨0, by omega, by omega, by simp only [go_sem, Int.reduceBEq, Int.reduceBNe, Int.reduceNeg, reduceCtorEq, Nat.reduceEqDiff, Nat.reduceAdd, Nat.reduceLeDiff, Nat.reduceMul, Nat.reduceSub, Int.reduceToNat, Int.reduceLT, Int.reduceLE] <;> rfl, fun _ _ h => by omega, Ext.refl _⟩ ?_
  rintro _ _ m1 ⟨i, hi, rfl, rfl, hj, hx⟩
  have hs1 := hs.keep hb hx
  simp only [RB.slices_IndexFunc_int_int_1, go_sem, Int.reduceBEq, Int.reduceBNe, Int.reduceNeg, reduceCtorEq, Nat.reduceEqDiff, Nat.reduceAdd, Nat.reduceLeDiff, Nat.reduceMul, Nat.reduceSub, Int.reduceToNat, Int.reduceLT, Int.reduceLE]
  refine gT.of (fun g1' => ?_) (fun g1' => ?_) <;> (have g1 := g1'; try simp only [decide_eq_true_eq, decide_eq_false_iff_not, beq_iff_eq, bne_iff_ne, beq_eq_false_iff_ne, ne_eq, Bool.not_eq_true', Bool.not_eq_false', bne_eq_false_iff_eq, Int.not_lt, Int.not_le] at g1)
  · have hil : i < l.length := by omega
    obtain ⟨b, o, a1, a2⟩ := hs1.geti hil
    simp only [go_sem, Int.reduceBEq, Int.reduceBNe, Int.reduceNeg, reduceCtorEq, Nat.reduceEqDiff, Nat.reduceAdd, Nat.reduceLeDiff, Nat.reduceMul, Nat.reduceSub, Int.reduceToNat, Int.reduceLT, Int.reduceLE, g1', a1, a2]
    refine gV.of (hp m1 l[i] hx) ?_
    rintro _ m2 ⟨rfl, hx2⟩
    simp only [go_sem, Int.reduceBEq, Int.reduceBNe, Int.reduceNeg, reduceCtorEq, Nat.reduceEqDiff, Nat.reduceAdd, Nat.reduceLeDiff, Nat.reduceMul, Nat.reduceSub, Int.reduceToNat, Int.reduceLT, Int.reduceLE]
    refine gT.of (fun g2 => ?_) (fun g2 => ?_)
    · simp only [go_sem, Int.reduceBEq, Int.reduceBNe, Int.reduceNeg, reduceCtorEq, Nat.reduceEqDiff, Nat.reduceAdd, Nat.reduceLeDiff, Nat.reduceMul, Nat.reduceSub, Int.reduceToNat, Int.reduceLT, Int.reduceLE]
      exact ⟨.inr ⟨i, hil, rfl, g2, fun j hj2 => hj j (by omega) hj2⟩, hx.trans hx2⟩
    · have w : IntKind.wrap .i64 ((i : Int) + 1) = ((i + 1 : Nat) : Int) := by rw [wrap_i64 (by omega) (by omega)]; rfl
      simp only [go_sem, Int.reduceBEq, Int.reduceBNe, Int.reduceNeg, reduceCtorEq, Nat.reduceEqDiff, Nat.reduceAdd, Nat.reduceLeDiff, Nat.reduceMul, Nat.reduceSub, Int.reduceToNat, Int.reduceLT, Int.reduceLE, w]
      refine ⟨l.length - (i + 1), by omega, i + 1, by omega, rfl, rfl, fun j h1 h2 => ?_, hx.trans hx2⟩
      by_cases e : j = i
      · subst e; exact g2
      · exact hj j h1 (by omega)
  · have : i = l.length := by omega
    subst this
    simp only [go_sem, Int.reduceBEq, Int.reduceBNe, Int.reduceNeg, reduceCtorEq, Nat.reduceEqDiff, Nat.reduceAdd, Nat.reduceLeDiff, Nat.reduceMul, Nat.reduceSub, Int.reduceToNat, Int.reduceLT, Int.reduceLE, g1']
    refine ⟨.inl ?_, hx⟩
    refine List.any_eq_false.2 fun x hx' => ?_
    obtain ⟨j, h1, rfl⟩ := List.getElem_of_mem hx'
    rw [hj j h1 h1]; simp

theorem iupd {all A B C : List Value} {o : Nat} (h : all = A ++ B ++ C) (ho : A.length = o) {X : List Value} (hl : X.length = B.length) : writeL all o X = A ++ X ++ C := by
  subst h
  unfold writeL
  have e1 : (A ++ B ++ C).take o = A := by rw [List.append_assoc]; exact List.take_left' ho
  have e2 : (A ++ B ++ C).drop (o + X.length) = C := List.drop_left' (by rw [List.length_append, ho, hl])
  rw [e1, e2]
theorem intsZ_one {l : List Int} : oneCells (intsZ l) = true := ints_one
theorem zeros1 {n : Nat} : oneCells (zeros [.int .i64 0] n) = true ∧ (zeros [.int .i64 0] n).length = n := by
  rw [zeros_int]
  exact ⟨intsZ_one, by rw [intsZ_len', List.length_replicate]⟩

/-- The tail of one's own row is cleared, the rest is handed back. -/
theorem tail_cut {M : Mem} {b c n k : Nat} {K mid rest : List Value} (hm : M.blk b = some (.cells (K ++ mid ++ rest) (some 1))) (hK : K.length = k) (hmid : mid.length = n - k) (hkn : k ≤ n) (hnc : n ≤ c) :
    ∃ M', aSub 1 M (.slice (some ⟨b, 0, none⟩) n c) (some (.int .i64 k)) none none = some (.slice (some ⟨b, k, none⟩) (n - k) (c - k)) ∧
      aClr 1 [.int .i64 0] M (.slice (some ⟨b, k, none⟩) (n - k) (c - k)) = some M' ∧ aSub 1 M' (.slice (some ⟨b, 0, none⟩) n c) none (some (.int .i64 k)) none = some (.slice (some ⟨b, 0, none⟩) k c) ∧
      ∃ Z : List Value, Z.length = n - k ∧ M'.blk b = some (.cells (K ++ Z ++ rest) (some 1)) ∧ Upd M M' [b] := by
  have hun : unitOk 1 M b = true := unitOk_own hm
  have cs1 := sub_from (m := M) (b := b) (o := 0) (n := n) (c := c) (u := 1) (k := .i64) (i := k) hun hkn hnc
  rw [Nat.zero_add, Nat.mul_one] at cs1
  by_cases hz : n - k = 0
  · refine ⟨M, cs1, ?_, sub_to (k := .i64) hun (by omega), mid, hmid, hm, Upd.refl _ _⟩
    simp only [aClr]
    rw [if_pos hz]
  · refine ⟨M.set b (some (.cells (K ++ zeros [.int .i64 0] (n - k) ++ rest) (some 1))), cs1, ?_, ?_, zeros [.int .i64 0] (n - k), zeros1.2, by simp [Mem.set], Upd.set (by simp)⟩
    · simp only [aClr]
      rw [if_neg hz, if_pos (show ([.int .i64 0] : List Value).length = 1 from rfl)]
      unfold aWrite
      rw [hm]
      simp only
      rw [if_pos ⟨by rw [zeros1.2]; simp only [List.length_append, hK, hmid]; omega, zeros1.1⟩]
      congr 4
      exact iupd rfl hK (by rw [zeros1.2, hmid])
    · exact sub_to (k := .i64) (unitOk_own (cs := K ++ zeros [.int .i64 0] (n - k) ++ rest) (by simp [Mem.set])) (by omega)
end Go.Am


/- Diff: DeleteFunc at whole numbers. -/
set_option linter.unusedVariables false
set_option linter.unusedSimpArgs false
namespace Go.Am
open Classical
variable {m : Mem}

/-- A store of a whole number into one's own row. -/
theorem istore {M : Mem} {b k : Nat} {A B C : List Value} {x y : Value} (hm : M.blk b = some (.cells (A ++ x :: B) (some 1))) (hA : A.length = k) (hy : y.cells = #[y]) (h1 : y.oneCell' = true) :
    aStore 1 M (.pointer (some ⟨b, k, none⟩)) y = some (M.set b (some (.cells (A ++ y :: B) (some 1)))) := by
  simp only [aStore, hy]
  rw [if_pos (by rfl)]
  unfold aWrite
  rw [hm]
  simp only
  rw [if_pos ⟨by simp [hA], by simp [oneCells, h1]⟩]
  congr 4
  have := iupd (all := A ++ x :: B) (A := A) (B := [x]) (C := B) (o := k) (X := [y]) (by simp) hA rfl
  simpa using this

theorem iDeleteFunc {l : List Int} {v fv : Value} {p : Int → Bool} {m0 : Mem} (ho : Own m0 m 1 l.length (intsZ l) v) (hx0 : Ext m0 m) (hl : l.length ≤ 3000000)
    (hp : ∀ m1 x, Ext m0 m1 → gV R fv [.int .i64 x] m1 fun r m' => r = .bool (p x) ∧ Ext m1 m') :
    WC R F.slices_DeleteFunc_int_int [v, fv] m fun r m' => Own m0 m' 1 (l.filter fun x => !p x).length (intsZ (l.filter fun x => !p x)) r ∧ Ext m0 m' := by
  refine WC.of R.slices_DeleteFunc_int_int rfl ?_
  simp only [RC.slices_DeleteFunc_int_int, go_sem, Int.reduceBEq, Int.reduceBNe, Int.reduceNeg, reduceCtorEq, Nat.reduceEqDiff, Nat.reduceAdd, Nat.reduceLeDiff, Nat.reduceMul, Nat.reduceSub, Int.reduceToNat, Int.reduceLT, Int.reduceLE]
  refine gC.of (iIndex ho.sl ho.lt hl (fun m1 x hx => hp m1 x (hx0.trans hx))) ?_
  rintro _ m1 ⟨⟨h2, rfl⟩ | ⟨i0, hi0, rfl, h2, h3⟩, hx1⟩
  · have e : l.filter (fun x => !p x) = l := by
      rw [List.filter_eq_self]
      intro x hx
      have := List.any_eq_false.1 h2 x hx
      simpa using this
    rw [e]
    simp only [go_sem, Int.reduceBEq, Int.reduceBNe, Int.reduceNeg, reduceCtorEq, Nat.reduceEqDiff, Nat.reduceAdd, Nat.reduceLeDiff, Nat.reduceMul, Nat.reduceSub, Int.reduceToNat, Int.reduceLT, Int.reduceLE]
    exact ⟨ho.keep hx1, hx0.trans hx1⟩
  · have ho1 := ho.keep hx1
    have hx01 := hx0.trans hx1
    clear hx0
    cases ho1 with
    | nil h hc => omega
    | @«at» b c all hb hb2 hnc hm hal hcs hone =>
      have hall : all = intsZ l ++ all.drop l.length := by
        rw [Nat.mul_one] at hcs
        rw [← hcs, List.take_append_drop]
      generalize hrest : all.drop l.length = rest at hall
      have w1 : ∀ k : Nat, k < 3000000 → IntKind.wrap .i64 ((k : Int) + 1) = ((k + 1 : Nat) : Int) := fun k hk => by rw [wrap_i64 (by omega) (by omega)]; rfl
      have ef : ((i0 : Int) == -1) = false := by rw [beq_eq_false_iff_ne]; omega
      simp only [go_sem, Int.reduceBEq, Int.reduceBNe, Int.reduceNeg, reduceCtorEq, Nat.reduceEqDiff, Nat.reduceAdd, Nat.reduceLeDiff, Nat.reduceMul, Nat.reduceSub, Int.reduceToNat, Int.reduceLT, Int.reduceLE, ef, w1 i0 (by omega)]
      have start : (l.take i0).filter (fun x => !p x) = l.take i0 := by
        rw [List.filter_eq_self]
        intro x hx
        obtain ⟨j, hj, rfl⟩ := List.getElem_of_mem hx
        rw [List.length_take] at hj
        rw [List.getElem_take, h3 j (by omega)]; rfl
      have hsplit : ∀ j, j < l.length → intsZ (l.drop j) = .int .i64 l[j]! :: intsZ (l.drop (j + 1)) := fun j hj => by
        rw [List.drop_eq_getElem_cons hj, getElem!_pos l j hj]; rfl
      refine WL.of (fun r e m' => ∃ (j : Nat) (K : List Int) (mid : List Value), r = l.length - j ∧ j ≤ l.length ∧ K = (l.take j).filter (fun x => !p x) ∧ K.length < j ∧ mid.length = j - K.length ∧
          e = [(0, .slice (some ⟨b, 0, none⟩) l.length c), (1, fv), (5, .int .i64 K.length), (6, .int .i64 j)] ∧ m'.blk b = some (.cells (intsZ K ++ mid ++ (intsZ (l.drop j) ++ rest)) (some 1)) ∧ Upd m1 m' [b]) (l.length - (i0 + 1))
        ⟨i0 + 1, l.take i0, [.int .i64 l[i0]], by omega, by omega, ?_, by rw [List.length_take]; omega, by rw [List.length_take]; simp; omega, ?_, ?_, Upd.refl _ _⟩ ?_
      · rw [List.take_succ_eq_append_getElem hi0, List.filter_append, start]; simp [h2]
      · rw [List.length_take, Nat.min_eq_left (by omega)]; simp only [go_sem, Int.reduceBEq, Int.reduceBNe, Int.reduceNeg, reduceCtorEq, Nat.reduceEqDiff, Nat.reduceAdd, Nat.reduceLeDiff, Nat.reduceMul, Nat.reduceSub, Int.reduceToNat, Int.reduceLT, Int.reduceLE] <;> rfl
      · rw [hm, hall]
        congr 2
        have e : intsZ l = intsZ (l.take i0) ++ (.int .i64 l[i0] :: intsZ (l.drop (i0 + 1))) := by
          unfold intsZ
          rw [← List.map_cons, ← List.drop_eq_getElem_cons hi0, ← List.map_append, List.take_append_drop]
        rw [e]; simp only [List.append_assoc, List.cons_append, List.nil_append]
      · rintro r0 _ m2 ⟨j, K, mid, hr, hj, hK, hKj, hmid, rfl, hm2, hu2⟩
        have hx02 : Ext m0 m2 := hu2.ext_of hx01 (by simpa using hb)
        have hKl : K.length < 3000000 := by omega
        have hfK : (intsZ K).length = K.length := intsZ_len'
        have hbn : b < m2.next := Nat.lt_of_lt_of_le hb2 hu2.next
        simp only [RB.slices_DeleteFunc_int_int_1, go_sem, Int.reduceBEq, Int.reduceBNe, Int.reduceNeg, reduceCtorEq, Nat.reduceEqDiff, Nat.reduceAdd, Nat.reduceLeDiff, Nat.reduceMul, Nat.reduceSub, Int.reduceToNat, Int.reduceLT, Int.reduceLE, len_s]
        refine gT.of (fun g1' => ?_) (fun g1' => ?_) <;> (have g1 := g1'; try simp only [decide_eq_true_eq, decide_eq_false_iff_not, beq_iff_eq, bne_iff_ne, beq_eq_false_iff_ne, ne_eq, Bool.not_eq_true', Bool.not_eq_false', bne_eq_false_iff_eq, Int.not_lt, Int.not_le] at g1)
        · have hjl : j < l.length := by omega
          have hd := hsplit j hjl
          rw [getElem!_pos l j hjl] at hd
          rw [hd] at hm2
          have ix : ∀ k : Nat, k < l.length → aIdxS 1 (.slice (some ⟨b, 0, none⟩) l.length c) (.int .i64 k) = some (.pointer (some ⟨b, k, none⟩)) := fun k hk => by
            simp only [aIdxS]
            rw [if_pos (by omega), Nat.zero_add]; simp
          have a2 : aLoad false 1 m2 (.pointer (some ⟨b, j, none⟩)) = some (.int .i64 l[j]) := by
            have hpre : (intsZ K ++ mid).length = j := by rw [List.length_append, hfK, hmid]; omega
            rw [load_w, hm2]
            show (intsZ K ++ mid ++ _)[j]? = _
            rw [List.getElem?_append_right (by omega), hpre, Nat.sub_self]; rfl
          simp only [go_sem, Int.reduceBEq, Int.reduceBNe, Int.reduceNeg, reduceCtorEq, Nat.reduceEqDiff, Nat.reduceAdd, Nat.reduceLeDiff, Nat.reduceMul, Nat.reduceSub, Int.reduceToNat, Int.reduceLT, Int.reduceLE, g1', ix j hjl, a2]
          refine gV.of (hp m2 l[j] hx02) ?_
          rintro _ m4 ⟨rfl, hx4⟩
          have hm4 : m4.blk b = _ := (hx4.same b hbn).trans hm2
          have hu4 : Upd m1 m4 [b] := hu2.trans hx4.upd (fun _ h => h) (fun _ h => .inl h)
          have tk : l.take (j + 1) = l.take j ++ [l[j]] := List.take_succ_eq_append_getElem hjl
          simp only [go_sem, Int.reduceBEq, Int.reduceBNe, Int.reduceNeg, reduceCtorEq, Nat.reduceEqDiff, Nat.reduceAdd, Nat.reduceLeDiff, Nat.reduceMul, Nat.reduceSub, Int.reduceToNat, Int.reduceLT, Int.reduceLE]
          refine gT.of (fun g2 => ?_) (fun g2 => ?_)
          · have g2 : p l[j] = false := by simpa using g2
            obtain ⟨x0, M2, hM⟩ : ∃ x0 M2, mid = x0 :: M2 := by
              cases mid with
              | nil => simp at hmid; omega
              | cons x0 M2 => exact ⟨x0, M2, rfl⟩
            subst hM
            have hw : aStore 1 m4 (.pointer (some ⟨b, K.length, none⟩)) (.int .i64 l[j]) = some (m4.set b (some (.cells (intsZ (K ++ [l[j]]) ++ (M2 ++ [.int .i64 l[j]]) ++ (intsZ (l.drop (j + 1)) ++ rest)) (some 1)))) := by
              rw [istore (C := []) (A := intsZ K) (x := x0) (B := M2 ++ (.int .i64 l[j] :: intsZ (l.drop (j + 1)) ++ rest)) (by rw [hm4]; simp) hfK rfl rfl]
              congr 4
              unfold intsZ
              simp
            have hg2 : (!p l[j]) = true := by rw [g2]; rfl
            simp only [go_sem, Int.reduceBEq, Int.reduceBNe, Int.reduceNeg, reduceCtorEq, Nat.reduceEqDiff, Nat.reduceAdd, Nat.reduceLeDiff, Nat.reduceMul, Nat.reduceSub, Int.reduceToNat, Int.reduceLT, Int.reduceLE, g2, ix K.length (by omega), hw, w1 K.length hKl, w1 j (by omega)]
            refine ⟨l.length - (j + 1), by omega, j + 1, K ++ [l[j]], M2 ++ [.int .i64 l[j]], rfl, by omega, ?_, by simp; omega, ?_, ?_, by simp [Mem.set], hu4.trans (Upd.set (fp := [b]) (by simp)) (fun _ h => h) (fun _ h => .inl h)⟩
            · rw [tk, List.filter_append, ← hK]; simp [g2]
            · simp only [List.length_append, List.length_cons, List.length_nil] at hmid ⊢; omega
            · simp only [List.length_append, List.length_cons, List.length_nil, Nat.zero_add]
          · have g2 : p l[j] = true := by simpa using g2
            simp only [go_sem, Int.reduceBEq, Int.reduceBNe, Int.reduceNeg, reduceCtorEq, Nat.reduceEqDiff, Nat.reduceAdd, Nat.reduceLeDiff, Nat.reduceMul, Nat.reduceSub, Int.reduceToNat, Int.reduceLT, Int.reduceLE, g2, w1 j (by omega)]
            refine ⟨l.length - (j + 1), by omega, j + 1, K, mid ++ [.int .i64 l[j]], rfl, by omega, ?_, by omega, ?_, rfl, ?_, hu4⟩
            · rw [tk, List.filter_append, ← hK]; simp [g2]
            · simp only [List.length_append, List.length_cons, List.length_nil]; omega
            · rw [hm4]; simp only [List.append_assoc, List.cons_append, List.nil_append]
        · have hjl : j = l.length := by omega
          subst hjl
          rw [List.take_length] at hK
          rw [List.drop_length, show intsZ ([] : List Int) = [] from rfl, List.nil_append] at hm2
          obtain ⟨M', c1, c2, c3, Z, z1, z2, z3⟩ := tail_cut (c := c) hm2 hfK (n := l.length) hmid (by omega) hnc
          simp only [go_sem, Int.reduceBEq, Int.reduceBNe, Int.reduceNeg, reduceCtorEq, Nat.reduceEqDiff, Nat.reduceAdd, Nat.reduceLeDiff, Nat.reduceMul, Nat.reduceSub, Int.reduceToNat, Int.reduceLT, Int.reduceLE, g1', c1, c2, c3]
          rw [← hK]
          refine ⟨.at (all := intsZ K ++ Z ++ rest) hb (Nat.lt_of_lt_of_le hbn z3.next) (by omega) z2 ?_ ?_ intsZ_one, z3.ext_of hx02 (by simpa using hb)⟩
          · have : rest.length = all.length - l.length := by rw [← hrest, List.length_drop]
            simp only [List.length_append, hfK, z1, this, hal]; omega
          · rw [Nat.mul_one, List.append_assoc, List.take_left' hfK]
end Go.Am


/- Diff: Compact at whole numbers. -/
set_option linter.unusedVariables false
set_option linter.unusedSimpArgs false
namespace Go.Am
open Classical
variable {m : Mem}

/-- Of a row that is at b: a number in it. -/
theorem iload {M : Mem} {b k : Nat} {A : List Int} {rest : List Value} (hm : M.blk b = some (.cells (intsZ A ++ rest) (some 1))) (hk : k < A.length) : aLoad false 1 M (.pointer (some ⟨b, k, none⟩)) = some (.int .i64 A[k]) := by
  rw [load_w, hm]
  show (intsZ A ++ rest)[k]? = _
  rw [List.getElem?_append_left (by rw [intsZ_len']; exact hk), intsZ_getq hk]

theorem compL_none : ∀ {l : List Int} , (∀ t (h : t + 1 < l.length), l[t] ≠ l[t + 1]) → compL l = l
  | [], _ => rfl
  | [a], _ => rfl
  | a :: b :: r, h => by
    simp only [compL]
    rw [if_neg (show ¬ a = b from h 0 (by simp)), compL_none fun t ht => h (t + 1) (by simpa using ht)]

theorem iidx {b o n c k : Nat} (hk : k < n) : aIdxS 1 (.slice (some ⟨b, o, none⟩) n c) (.int .i64 k) = some (.pointer (some ⟨b, o + k, none⟩)) := by
  simp only [aIdxS]
  rw [if_pos (by omega)]; simp

/-- The inner loop of Compact: what is met again is passed by. -/
theorem compact_inner {M0 : Mem} {l : List Int} {b c k0 : Nat} {rest : List Value} (hk0 : 0 < k0) (hl : l.length ≤ 3000000) (hkl : k0 < l.length) (heq : l[k0 - 1] = l[k0]) (hno : ∀ t (h : t + 1 < k0), l[t]'(by omega) ≠ l[t + 1]'(by omega))
    (hm : M0.blk b = some (.cells (intsZ l ++ rest) (some 1))) :
    WL R [0, 3, 4, 5] RB.slices_Compact_int_int_1 [(0, .slice (some ⟨b, 0, none⟩) l.length c), (3, .int .i64 k0), (4, .slice (some ⟨b, k0, none⟩) (l.length - k0) (c - k0)), (5, .int .i64 1)] M0 fun y e m' =>
      y = .exit 2 ∧ Upd M0 m' [b] ∧ ∃ (mid : List Value) (rs : Env), (compL l).length + mid.length = l.length ∧ m'.blk b = some (.cells (intsZ (compL l) ++ mid ++ rest) (some 1)) ∧ e = (0, .slice (some ⟨b, 0, none⟩) l.length c) :: (3, .int .i64 (compL l).length) :: rs := by
  have w1 : ∀ k : Nat, k < 3000000 → IntKind.wrap .i64 ((k : Int) + 1) = ((k + 1 : Nat) : Int) := fun k hk => by rw [wrap_i64 (by omega) (by omega)]; rfl
  have wm : ∀ k : Nat, 0 < k → k < 3000001 → IntKind.wrap .i64 ((k : Int) - 1) = ((k - 1 : Nat) : Int) := fun k hk h2 => by rw [wrap_i64 (by omega) (by omega)]; omega
  have hstart : compL (l.take (k0 + 1)) = l.take k0 := by
    have := compL_take hk0 hkl
    rw [if_pos heq, List.append_nil] at this
    rw [this]
    refine compL_none fun t ht => ?_
    rw [List.length_take] at ht
    rw [List.getElem_take, List.getElem_take]
    exact hno t (by omega)
  have hsplit : ∀ j (hj : j < l.length), intsZ (l.drop j) = .int .i64 l[j] :: intsZ (l.drop (j + 1)) := fun j hj => by
    rw [List.drop_eq_getElem_cons hj]; rfl
  refine WL.of (fun n e m' => ∃ (j : Nat) (mid : List Value), k0 < j ∧ j ≤ l.length ∧ n = l.length - j ∧ (compL (l.take j)).length + mid.length + 1 = j ∧
      m'.blk b = some (.cells (intsZ (compL (l.take j)) ++ mid ++ (.int .i64 (l[j - 1]!) :: intsZ (l.drop j) ++ rest)) (some 1)) ∧ Upd M0 m' [b] ∧
      e = [(0, .slice (some ⟨b, 0, none⟩) l.length c), (3, .int .i64 (compL (l.take j)).length), (4, .slice (some ⟨b, k0, none⟩) (l.length - k0) (c - k0)), (5, .int .i64 (j - k0 : Nat))]) (l.length - (k0 + 1))
    ⟨k0 + 1, [], by omega, by omega, rfl, ?_, ?_, Upd.refl _ _, ?_⟩ ?_
  · rw [hstart, List.length_take]; simp; omega
  · rw [hm, hstart]
    congr 2
    have e : intsZ l = intsZ (l.take k0) ++ intsZ (l.drop k0) := by unfold intsZ; rw [← List.map_append, List.take_append_drop]
    rw [e, hsplit k0 hkl, show k0 + 1 - 1 = k0 by omega, getElem!_pos l k0 hkl]
    simp
  · rw [hstart, List.length_take, Nat.min_eq_left (by omega), show k0 + 1 - k0 = 1 by omega]; rfl
  rintro _ _ m2 ⟨j, mid, hj0, hj, rfl, hlen, hm2, hu, rfl⟩
  have hlen1 : l[j - 1]! = l[j - 1]'(by omega) := getElem!_pos l (j - 1) (by omega)
  rw [hlen1] at hm2
  simp only [RB.slices_Compact_int_int_1, go_sem, Int.reduceBEq, Int.reduceBNe, Int.reduceNeg, reduceCtorEq, Nat.reduceEqDiff, Nat.reduceAdd, Nat.reduceLeDiff, Nat.reduceMul, Nat.reduceSub, Int.reduceToNat, Int.reduceLT, Int.reduceLE, len_s]
  by_cases g1 : j < l.length
  · have e1 : decide (((j - k0 : Nat) : Int) < ((l.length - k0 : Nat) : Int)) = true := decide_eq_true (by omega)
    have hA : (intsZ (compL (l.take j))).length = (compL (l.take j)).length := intsZ_len'
    have i1 := iidx (b := b) (o := k0) (n := l.length - k0) (c := c - k0) (k := j - k0) (by omega)
    have i2 := iidx (b := b) (o := k0) (n := l.length - k0) (c := c - k0) (k := j - k0 - 1) (by omega)
    rw [show k0 + (j - k0) = j by omega] at i1
    rw [show k0 + (j - k0 - 1) = j - 1 by omega] at i2
    have a1 : aLoad false 1 m2 (.pointer (some ⟨b, j, none⟩)) = some (.int .i64 l[j]) := by
      rw [load_w, hm2, hsplit j g1]
      show (intsZ (compL (l.take j)) ++ mid ++ _)[j]? = _
      rw [List.getElem?_append_right (by rw [List.length_append, hA]; omega), List.length_append, hA, show j - ((compL (l.take j)).length + mid.length) = 1 by omega]; rfl
    have a2 : aLoad false 1 m2 (.pointer (some ⟨b, j - 1, none⟩)) = some (.int .i64 (l[j - 1]'(by omega))) := by
      rw [load_w, hm2]
      show (intsZ (compL (l.take j)) ++ mid ++ _)[j - 1]? = _
      rw [List.getElem?_append_right (by rw [List.length_append, hA]; omega), List.length_append, hA, show j - 1 - ((compL (l.take j)).length + mid.length) = 0 by omega]; rfl
    have ct := compL_take (l := l) (j := j) (by omega) g1
    simp only [go_sem, Int.reduceBEq, Int.reduceBNe, Int.reduceNeg, reduceCtorEq, Nat.reduceEqDiff, Nat.reduceAdd, Nat.reduceLeDiff, Nat.reduceMul, Nat.reduceSub, Int.reduceToNat, Int.reduceLT, Int.reduceLE, e1, i1, a1, wm (j - k0) (by omega) (by omega), i2, a2]
    obtain ⟨x0, M2, hM⟩ : ∃ x0 M2, mid ++ [Value.int .i64 (l[j - 1]'(by omega))] = x0 :: M2 := by
      cases mid with
      | nil => exact ⟨_, _, rfl⟩
      | cons x r => exact ⟨_, _, rfl⟩
    have hMl : M2.length = mid.length := by have := congrArg List.length hM; simp at this; omega
    have hm2' : m2.blk b = some (.cells (intsZ (compL (l.take j)) ++ x0 :: (M2 ++ (.int .i64 l[j] :: intsZ (l.drop (j + 1)) ++ rest))) (some 1)) := by
      rw [hm2, hsplit j g1]
      congr 2
      have : intsZ (compL (l.take j)) ++ mid ++ (Value.int .i64 (l[j - 1]'(by omega)) :: (Value.int .i64 l[j] :: intsZ (l.drop (j + 1))) ++ rest) = intsZ (compL (l.take j)) ++ ((mid ++ [Value.int .i64 (l[j - 1]'(by omega))]) ++ (Value.int .i64 l[j] :: intsZ (l.drop (j + 1)) ++ rest)) := by simp
      rw [this, hM]; rfl
    have hj1 : l[j + 1 - 1]! = l[j] := getElem!_pos l j g1
    have hcl := compL_len (l := l.take j)
    rw [List.length_take] at hcl
    refine gT.of (fun g2 => ?_) (fun g2 => ?_)
    · have hne : l[j - 1]'(by omega) ≠ l[j] := fun e => by rw [bne_iff_ne] at g2; exact g2 e.symm
      rw [if_neg hne] at ct
      have i3 := iidx (b := b) (o := 0) (n := l.length) (c := c) (k := (compL (l.take j)).length) (by omega)
      rw [Nat.zero_add] at i3
      have hw := istore (C := []) (y := .int .i64 l[j]) hm2' hA rfl rfl
      simp only [go_sem, Int.reduceBEq, Int.reduceBNe, Int.reduceNeg, reduceCtorEq, Nat.reduceEqDiff, Nat.reduceAdd, Nat.reduceLeDiff, Nat.reduceMul, Nat.reduceSub, Int.reduceToNat, Int.reduceLT, Int.reduceLE, g2, i1, a1, i3, hw, w1 (compL (l.take j)).length (by omega), w1 (j - k0) (by omega)]
      refine ⟨l.length - (j + 1), by omega, j + 1, M2, by omega, by omega, rfl, ?_, ?_, hu.trans (Upd.set (fp := [b]) (by simp)) (fun _ h => h) (fun _ h => .inl h), ?_⟩
      · rw [ct, List.length_append]; simp; omega
      · simp only [Mem.set, if_true]
        rw [ct, hj1]
        congr 2
        unfold intsZ; simp
      · rw [ct, List.length_append, show j + 1 - k0 = j - k0 + 1 by omega]; rfl
    · have heq2 : l[j - 1]'(by omega) = l[j] := by
        rw [bne_eq_false_iff_eq] at g2; exact g2.symm
      rw [if_pos heq2, List.append_nil] at ct
      simp only [go_sem, Int.reduceBEq, Int.reduceBNe, Int.reduceNeg, reduceCtorEq, Nat.reduceEqDiff, Nat.reduceAdd, Nat.reduceLeDiff, Nat.reduceMul, Nat.reduceSub, Int.reduceToNat, Int.reduceLT, Int.reduceLE, g2, w1 (j - k0) (by omega)]
      refine ⟨l.length - (j + 1), by omega, j + 1, mid ++ [.int .i64 (l[j - 1]'(by omega))], by omega, by omega, rfl, ?_, ?_, hu, ?_⟩
      · rw [ct, List.length_append]; simp; omega
      · rw [hm2, ct, hj1, hsplit j g1]
        congr 2
        simp
      · rw [ct, show j + 1 - k0 = j - k0 + 1 by omega]
  · have e1 : decide (((j - k0 : Nat) : Int) < ((l.length - k0 : Nat) : Int)) = false := decide_eq_false (by omega)
    have hjl : j = l.length := by omega
    subst hjl
    rw [List.take_length] at hm2 hlen ⊢
    rw [List.drop_length] at hm2
    simp only [go_sem, Int.reduceBEq, Int.reduceBNe, Int.reduceNeg, reduceCtorEq, Nat.reduceEqDiff, Nat.reduceAdd, Nat.reduceLeDiff, Nat.reduceMul, Nat.reduceSub, Int.reduceToNat, Int.reduceLT, Int.reduceLE, e1]
    exact ⟨hu, mid ++ [.int .i64 (l[l.length - 1]'(by omega))], _, by simp; omega, by rw [hm2]; simp [intsZ], rfl⟩
end Go.Am


/- Diff: Compact. -/
set_option linter.unusedVariables false
set_option linter.unusedSimpArgs false
namespace Go.Am
open Classical
variable {m : Mem}

set_option maxHeartbeats 4000000 in
theorem Compact_spec {l : List Int} {v : Value} {m0 : Mem} (ho : Own m0 m 1 l.length (intsZ l) v) (hx0 : Ext m0 m) (hl : l.length ≤ 3000000) :
    WC R F.slices_Compact_int_int [v] m fun r m' => Own m0 m' 1 (compL l).length (intsZ (compL l)) r ∧ Ext m0 m' := by
  refine WC.of R.slices_Compact_int_int rfl ?_
  simp only [RC.slices_Compact_int_int, go_sem, Int.reduceBEq, Int.reduceBNe, Int.reduceNeg, reduceCtorEq, Nat.reduceEqDiff, Nat.reduceAdd, Nat.reduceLeDiff, Nat.reduceMul, Nat.reduceSub, Int.reduceToNat, Int.reduceLT, Int.reduceLE, ho.sl.len]
  have short : l.length < 2 → compL l = l := fun h => compL_none fun t ht => by omega
  refine gT.of (fun g0' => ?_) (fun g0' => ?_) <;> (have g0 := g0'; try simp only [decide_eq_true_eq, decide_eq_false_iff_not, beq_iff_eq, bne_iff_ne, beq_eq_false_iff_ne, ne_eq, Bool.not_eq_true', Bool.not_eq_false', bne_eq_false_iff_eq, Int.not_lt, Int.not_le] at g0)
  · simp only [go_sem, Int.reduceBEq, Int.reduceBNe, Int.reduceNeg, reduceCtorEq, Nat.reduceEqDiff, Nat.reduceAdd, Nat.reduceLeDiff, Nat.reduceMul, Nat.reduceSub, Int.reduceToNat, Int.reduceLT, Int.reduceLE, g0']
    rw [short (by omega)]
    exact ⟨ho, hx0⟩
  · simp only [go_sem, Int.reduceBEq, Int.reduceBNe, Int.reduceNeg, reduceCtorEq, Nat.reduceEqDiff, Nat.reduceAdd, Nat.reduceLeDiff, Nat.reduceMul, Nat.reduceSub, Int.reduceToNat, Int.reduceLT, Int.reduceLE, g0']
    cases ho with
    | nil h hc => omega
    | @«at» b c all hb hb2 hnc hm hal hcs hone =>
      have hall : all = intsZ l ++ all.drop l.length := by
        rw [Nat.mul_one] at hcs
        rw [← hcs, List.take_append_drop]
      generalize hrest : all.drop l.length = rest at hall
      have w1 : ∀ k : Nat, k < 3000000 → IntKind.wrap .i64 ((k : Int) + 1) = ((k + 1 : Nat) : Int) := fun k hk => by rw [wrap_i64 (by omega) (by omega)]; rfl
      have wm : ∀ k : Nat, 0 < k → k < 3000001 → IntKind.wrap .i64 ((k : Int) - 1) = ((k - 1 : Nat) : Int) := fun k hk h2 => by rw [wrap_i64 (by omega) (by omega)]; omega
      rw [hall] at hm
      refine WL.of (fun n e m' => ∃ k : Nat, 0 < k ∧ k ≤ l.length ∧ n = l.length - k ∧ m' = m ∧ e = [(0, .slice (some ⟨b, 0, none⟩) l.length c), (3, .int .i64 k)] ∧ ∀ t (h : t + 1 < k) (h2 : k ≤ l.length), l[t]'(by omega) ≠ l[t + 1]'(by omega)) (l.length - 1)
        ⟨1, by omega, by omega, rfl, rfl, by simp only [go_sem, Int.reduceBEq, Int.reduceBNe, Int.reduceNeg, reduceCtorEq, Nat.reduceEqDiff, Nat.reduceAdd, Nat.reduceLeDiff, Nat.reduceMul, Nat.reduceSub, Int.reduceToNat, Int.reduceLT, Int.reduceLE] <;> rfl, fun t h => by omega⟩ ?_
      rintro _ _ _ ⟨k, hk0, hk, rfl, hmm, rfl, hno⟩
      replace hmm := hmm.symm
      subst hmm
      simp only [RB.slices_Compact_int_int_2, go_sem, Int.reduceBEq, Int.reduceBNe, Int.reduceNeg, reduceCtorEq, Nat.reduceEqDiff, Nat.reduceAdd, Nat.reduceLeDiff, Nat.reduceMul, Nat.reduceSub, Int.reduceToNat, Int.reduceLT, Int.reduceLE, len_s]
      by_cases g1 : k < l.length
      · have e1 : decide ((k : Int) < (l.length : Int)) = true := decide_eq_true (by omega)
        have i1 := iidx (b := b) (o := 0) (n := l.length) (c := c) (k := k) g1
        have i2 := iidx (b := b) (o := 0) (n := l.length) (c := c) (k := k - 1) (by omega)
        rw [Nat.zero_add] at i1 i2
        have a1 := iload hm g1
        have a2 := iload (k := k - 1) hm (by omega)
        simp only [go_sem, Int.reduceBEq, Int.reduceBNe, Int.reduceNeg, reduceCtorEq, Nat.reduceEqDiff, Nat.reduceAdd, Nat.reduceLeDiff, Nat.reduceMul, Nat.reduceSub, Int.reduceToNat, Int.reduceLT, Int.reduceLE, e1, i1, a1, wm k hk0 (by omega), i2, a2]
        refine gT.of (fun g2 => ?_) (fun g2 => ?_)
        · have heq : l[k - 1]'(by omega) = l[k] := by rw [beq_iff_eq] at g2; exact g2.symm
          have hun : unitOk 1 m b = true := unitOk_own hm
          have cs1 := sub_from (m := m) (b := b) (o := 0) (n := l.length) (c := c) (u := 1) (k := .i64) (i := k) hun hk hnc
          rw [Nat.zero_add, Nat.mul_one] at cs1
          simp only [go_sem, Int.reduceBEq, Int.reduceBNe, Int.reduceNeg, reduceCtorEq, Nat.reduceEqDiff, Nat.reduceAdd, Nat.reduceLeDiff, Nat.reduceMul, Nat.reduceSub, Int.reduceToNat, Int.reduceLT, Int.reduceLE, g2, cs1]
          refine WL.mono (compact_inner hk0 hl g1 heq (fun t h => hno t h hk) hm) ?_
          rintro _ _ m2 ⟨rfl, hu, mid, rs, hlen, hm2, rfl⟩
          obtain ⟨M', c1, c2, c3, Z, z1, z2, z3⟩ := tail_cut (c := c) (n := l.length) (k := (compL l).length) hm2 intsZ_len' (by omega) (by omega) hnc
          simp only [go_sem, Int.reduceBEq, Int.reduceBNe, Int.reduceNeg, reduceCtorEq, Nat.reduceEqDiff, Nat.reduceAdd, Nat.reduceLeDiff, Nat.reduceMul, Nat.reduceSub, Int.reduceToNat, Int.reduceLT, Int.reduceLE, c1, c2, c3]
          have hx2 : Ext m0 m2 := hu.ext_of hx0 (by simpa using hb)
          refine ⟨.at (all := intsZ (compL l) ++ Z ++ rest) hb (Nat.lt_of_lt_of_le hb2 (Nat.le_trans hu.next z3.next)) (by omega) z2 ?_ ?_ intsZ_one, z3.ext_of hx2 (by simpa using hb)⟩
          · have : rest.length = all.length - l.length := by rw [← hrest, List.length_drop]
            simp only [List.length_append, intsZ_len', z1, this, hal]; omega
          · rw [Nat.mul_one, List.append_assoc, List.take_left' intsZ_len']
        · have hne : l[k - 1]'(by omega) ≠ l[k] := fun e => by rw [beq_eq_false_iff_ne] at g2; exact g2 e.symm
          simp only [go_sem, Int.reduceBEq, Int.reduceBNe, Int.reduceNeg, reduceCtorEq, Nat.reduceEqDiff, Nat.reduceAdd, Nat.reduceLeDiff, Nat.reduceMul, Nat.reduceSub, Int.reduceToNat, Int.reduceLT, Int.reduceLE, g2, w1 k (by omega)]
          refine ⟨l.length - (k + 1), by omega, k + 1, by omega, by omega, rfl, rfl, fun t h h2 => ?_⟩
          by_cases e : t + 1 = k
          · have : t = k - 1 := by omega
            subst this
            have e3 : k - 1 + 1 = k := by omega
            simp only [e3]; exact hne
          · exact hno t (by omega) hk
      · have e1 : decide ((k : Int) < (l.length : Int)) = false := decide_eq_false (by omega)
        have hkl : k = l.length := by omega
        subst hkl
        simp only [go_sem, Int.reduceBEq, Int.reduceBNe, Int.reduceNeg, reduceCtorEq, Nat.reduceEqDiff, Nat.reduceAdd, Nat.reduceLeDiff, Nat.reduceMul, Nat.reduceSub, Int.reduceToNat, Int.reduceLT, Int.reduceLE, e1]
        rw [compL_none fun t h => hno t h (Nat.le_refl _)]
        exact ⟨.at (all := all) hb hb2 hnc (by rw [hm, hall]) hal hcs hone, hx0⟩
end Go.Am


/- Diff: the units of two plans that something holds of. -/
set_option linter.unusedVariables false
set_option linter.unusedSimpArgs false
namespace Go.Am
open Classical
variable {m : Mem}

theorem gV_cap3 {R : Nat → Option FEnt} {m : Mem} {Q : Value → Mem → Prop} {f : Nat} {vs : List Value} {a b c : Value} : gV R (.func (.func f) #[] #[a, b, c]) vs m Q = gC R f (vs ++ [a, b, c]) m Q := by
  refine propext ⟨?_, fun h => ⟨f, #[], #[a, b, c], rfl, by have h : WC R f (vs ++ [a, b, c]) m Q := h; simpa using h⟩⟩
  rintro ⟨_, _, _, h, k⟩
  cases h
  show WC R f (vs ++ [a, b, c]) m Q
  simpa using k

def e0 : PE := ⟨find0, .slice none 0 0, rfl⟩
noncomputable def lkE (l : List PE) (u : Int) : PE := (lkp (asMap l) u).getD e0
def hasE (l : List PE) (u : Int) : Bool := (lkp (asMap l) u).isSome
theorem lkE_mem {l : List PE} {u : Int} : lkE l u ∈ l ∨ lkE l u = e0 := by
  unfold lkE
  cases h : lkp (asMap l) u with
  | none => exact .inr rfl
  | some e =>
    refine .inl ?_
    show e ∈ l
    have : ∀ (L : List PE), lkp (asMap L) u = some e → e ∈ L := by
      intro L
      induction L with
      | nil => intro h; cases h
      | cons a L ih =>
        intro h
        simp only [asMap, List.map_cons, lkp] at h
        split at h
        · cases h; simp
        · exact List.mem_cons_of_mem _ (ih h)
    exact this l h

theorem some1_spec {M : Mem} {l k : List PE} {bl bk bf ql qk : Nat} {fv : Value} {P : PE → PE → Bool → Bool → Bool} {u : Int}
    (h1 : Bk m bl [.map (some ql)] 1) (h2 : Bk m bk [.map (some qk)] 1) (h3 : Bk m bf [fv] 1) (hl : Mp m ql eP (asMap l)) (hk : Mp m qk eP (asMap k)) (hM : Ext M m)
    (hp : ∀ m1 x y a b, Ext M m1 → (x ∈ l ∨ x = e0) → (y ∈ k ∨ y = e0) → gV R fv [eP x, eP y, .bool a, .bool b] m1 fun r m' => r = .bool (P x y a b) ∧ Ext m1 m') :
    WC R F.diff_some_1 [.int .i64 u, .pointer (some ⟨bl, 0, none⟩), .pointer (some ⟨bk, 0, none⟩), .pointer (some ⟨bf, 0, none⟩)] m fun r m' => r = .bool (!P (lkE l u) (lkE k u) (hasE l u) (hasE k u)) ∧ Ext m m' := by
  refine WC.of R.diff_some_1 rfl ?_
  have lk1 := hl.look_ok (x := u) (z := e0)
  change aLook .int (.agg #[.int .i64 0, .int .i64 0, .int .i64 0, .slice none 0 0]) true m _ _ = some (.tuple #[.agg #[.int .i64 (lkE l u).pl.unit, .int .i64 (lkE l u).pl.share, .int .i64 (lkE l u).pl.core, (lkE l u).pv], .bool (hasE l u)]) at lk1
  have o1 := (lkE l u).one
  have o2 := (lkE k u).one
  have hn2 := h2.ne
  have hn3 := h3.ne
  simp only [RC.diff_some_1, go_sem, Int.reduceBEq, Int.reduceBNe, Int.reduceNeg, reduceCtorEq, Nat.reduceEqDiff, Nat.reduceAdd, Nat.reduceLeDiff, Nat.reduceMul, Nat.reduceSub, Int.reduceToNat, Int.reduceLT, Int.reduceLE, load_w, load_a, store_b, idxS_b, set_blk, new_blk, set_next, new_next, len_s, ldW_c, ldA_c, stB_c, toArr_one, size_one, toList_toArr, size_toArr, List.length_cons, List.length_nil, List.getElem?_cons_zero, List.getElem?_cons_succ, Nat.zero_add, Nat.add_zero, h1.at_, lk1, aExt0, aExt1, o1, hn2, h2.at_]
  have hx1 : Ext m (m.new (.cells [.int .i64 (lkE l u).pl.unit, .int .i64 (lkE l u).pl.share, .int .i64 (lkE l u).pl.core, (lkE l u).pv] (some 4))) := Ext.new
  have hb1 : Bk (m.new (.cells [.int .i64 (lkE l u).pl.unit, .int .i64 (lkE l u).pl.share, .int .i64 (lkE l u).pl.core, (lkE l u).pv] (some 4))) m.next [.int .i64 (lkE l u).pl.unit, .int .i64 (lkE l u).pl.share, .int .i64 (lkE l u).pl.core, (lkE l u).pv] 4 := Bk.new
  generalize m.new (.cells [.int .i64 (lkE l u).pl.unit, .int .i64 (lkE l u).pl.share, .int .i64 (lkE l u).pl.core, (lkE l u).pv] (some 4)) = m1 at hx1 hb1 ⊢
  have h21 := h2.keep hx1
  have h31 := h3.keep hx1
  have lk2 := (hk.keep hx1).look_ok (x := u) (z := e0)
  change aLook .int (.agg #[.int .i64 0, .int .i64 0, .int .i64 0, .slice none 0 0]) true m1 _ _ = some (.tuple #[.agg #[.int .i64 (lkE k u).pl.unit, .int .i64 (lkE k u).pl.share, .int .i64 (lkE k u).pl.core, (lkE k u).pv], .bool (hasE k u)]) at lk2
  have hn31 := h31.ne
  have hbn1 := hb1.ne
  try simp only [go_sem, Int.reduceBEq, Int.reduceBNe, Int.reduceNeg, reduceCtorEq, Nat.reduceEqDiff, Nat.reduceAdd, Nat.reduceLeDiff, Nat.reduceMul, Nat.reduceSub, Int.reduceToNat, Int.reduceLT, Int.reduceLE, load_w, load_a, store_b, idxS_b, set_blk, new_blk, set_next, new_next, len_s, ldW_c, ldA_c, stB_c, toArr_one, size_one, toList_toArr, size_toArr, List.length_cons, List.length_nil, List.getElem?_cons_zero, List.getElem?_cons_succ, Nat.zero_add, Nat.add_zero, h21.at_, lk2, aExt0, aExt1, o2, hn31, h31.at_, hbn1, hb1.at_]
  have hx2 : Ext m1 (m1.new (.cells [.int .i64 (lkE k u).pl.unit, .int .i64 (lkE k u).pl.share, .int .i64 (lkE k u).pl.core, (lkE k u).pv] (some 4))) := Ext.new
  have hb2 : Bk (m1.new (.cells [.int .i64 (lkE k u).pl.unit, .int .i64 (lkE k u).pl.share, .int .i64 (lkE k u).pl.core, (lkE k u).pv] (some 4))) m1.next [.int .i64 (lkE k u).pl.unit, .int .i64 (lkE k u).pl.share, .int .i64 (lkE k u).pl.core, (lkE k u).pv] 4 := Bk.new
  generalize m1.new (.cells [.int .i64 (lkE k u).pl.unit, .int .i64 (lkE k u).pl.share, .int .i64 (lkE k u).pl.core, (lkE k u).pv] (some 4)) = m2 at hx2 hb2 ⊢
  have h32 := h31.keep hx2
  have hb12 := hb1.keep hx2
  try simp only [go_sem, Int.reduceBEq, Int.reduceBNe, Int.reduceNeg, reduceCtorEq, Nat.reduceEqDiff, Nat.reduceAdd, Nat.reduceLeDiff, Nat.reduceMul, Nat.reduceSub, Int.reduceToNat, Int.reduceLT, Int.reduceLE, load_w, load_a, store_b, idxS_b, set_blk, new_blk, set_next, new_next, len_s, ldW_c, ldA_c, stB_c, toArr_one, size_one, toList_toArr, size_toArr, List.length_cons, List.length_nil, List.getElem?_cons_zero, List.getElem?_cons_succ, Nat.zero_add, Nat.add_zero, h32.at_, hb12.at_, hb2.at_]
  refine gV.of (hp m2 (lkE l u) (lkE k u) (hasE l u) (hasE k u) ((hM.trans hx1).trans hx2) lkE_mem lkE_mem) ?_
  rintro _ m3 ⟨rfl, hx3⟩
  try simp only [go_sem, Int.reduceBEq, Int.reduceBNe, Int.reduceNeg, reduceCtorEq, Nat.reduceEqDiff, Nat.reduceAdd, Nat.reduceLeDiff, Nat.reduceMul, Nat.reduceSub, Int.reduceToNat, Int.reduceLT, Int.reduceLE, load_w, load_a, store_b, idxS_b, set_blk, new_blk, set_next, new_next, len_s, ldW_c, ldA_c, stB_c, toArr_one, size_one, toList_toArr, size_toArr, List.length_cons, List.length_nil, List.getElem?_cons_zero, List.getElem?_cons_succ, Nat.zero_add, Nat.add_zero]
  exact (hx1.trans hx2).trans hx3
end Go.Am


/- Diff: some. -/
set_option linter.unusedVariables false
set_option linter.unusedSimpArgs false
namespace Go.Am
open Classical
variable {m : Mem}

noncomputable def someL (l k : List PE) (P : PE → PE → Bool → Bool → Bool) : List Int :=
  (compL (sortI (sortI (l.map unitE) ++ sortI (k.map unitE)))).filter fun u => P (lkE l u) (lkE k u) (hasE l u) (hasE k u)

structure OkE (l : List PE) : Prop where
  wf : ∀ e ∈ l, (Lit.int .i64 (unitE e)).wf = true
  nd : (l.map unitE).Nodup
  len : l.length ≤ 1000

set_option maxHeartbeats 4000000 in
theorem some_spec {l k : List PE} {f g : Int} {c d : BitVec 32} {pv kv fv : Value} {P : PE → PE → Bool → Bool → Bool} (hs : RowS m l pv) (hk : RowS m k kv) (ol : OkE l) (ok : OkE k) (hfv : ∃ n, fv = .func (.func n) #[] #[])
    (hp : ∀ m1 x y a b, Ext m m1 → (x ∈ l ∨ x = e0) → (y ∈ k ∨ y = e0) → gV R fv [eP x, eP y, .bool a, .bool b] m1 fun r m' => r = .bool (P x y a b) ∧ Ext m1 m') :
    WC R F.diff_some [.agg #[.int .i64 f, u32 c, pv], .agg #[.int .i64 g, u32 d, kv], fv] m fun r m' => Own m m' 1 (someL l k P).length (intsZ (someL l k P)) r ∧ Ext m m' := by
  refine WC.of R.diff_some rfl ?_
  obtain ⟨fn, rfl⟩ := hfv
  simp only [RC.diff_some, go_sem, Int.reduceBEq, Int.reduceBNe, Int.reduceNeg, reduceCtorEq, Nat.reduceEqDiff, Nat.reduceAdd, Nat.reduceLeDiff, Nat.reduceMul, Nat.reduceSub, Int.reduceToNat, Int.reduceLT, Int.reduceLE, hs.sl.one, hk.sl.one]
  refine ⟨rfl, ?_⟩
  have hx1 : Ext m (m.new (.cells [.int .i64 f, u32 c, pv] (some 3))) := Ext.new
  have hb1 : Bk (m.new (.cells [.int .i64 f, u32 c, pv] (some 3))) m.next [.int .i64 f, u32 c, pv] 3 := Bk.new
  generalize m.new (.cells [.int .i64 f, u32 c, pv] (some 3)) = m1 at hx1 hb1 ⊢
  have hx2 : Ext m1 (m1.new (.cells [.int .i64 g, u32 d, kv] (some 3))) := Ext.new
  have hb2 : Bk (m1.new (.cells [.int .i64 g, u32 d, kv] (some 3))) m1.next [.int .i64 g, u32 d, kv] 3 := Bk.new
  generalize m1.new (.cells [.int .i64 g, u32 d, kv] (some 3)) = m2 at hx2 hb2 ⊢
  have hx3 : Ext m2 (m2.new (.cells [.func (.func fn) #[] #[]] (some 1))) := Ext.new
  have hb3 : Bk (m2.new (.cells [.func (.func fn) #[] #[]] (some 1))) m2.next [.func (.func fn) #[] #[]] 1 := Bk.new
  generalize m2.new (.cells [.func (.func fn) #[] #[]] (some 1)) = m3 at hx3 hb3 ⊢
  have hb13 := (hb1.keep hx2).keep hx3
  have hb23 := hb2.keep hx3
  have hX := (hx1.trans hx2).trans hx3
  have hs3 := hs.keep hX
  have hk3 := hk.keep hX
  try simp only [go_sem, Int.reduceBEq, Int.reduceBNe, Int.reduceNeg, reduceCtorEq, Nat.reduceEqDiff, Nat.reduceAdd, Nat.reduceLeDiff, Nat.reduceMul, Nat.reduceSub, Int.reduceToNat, Int.reduceLT, Int.reduceLE, load_w, load_a, store_b, idxS_b, set_blk, new_blk, set_next, new_next, len_s, ldW_c, ldA_c, stB_c, toArr_one, size_one, toList_toArr, size_toArr, List.length_cons, List.length_nil, List.getElem?_cons_zero, List.getElem?_cons_succ, Nat.zero_add, Nat.add_zero, hb13.at_, hb23.at_]
  have hbu : Ext m3 (m3.bump 8) := Ext.bump
  refine gC.of (places_spec (hs3.keep hbu) (by have := ol.len; omega) ol.nd) ?_
  rintro _ m4 ⟨q1, rfl, hM1, hq1, hx4⟩
  have hx34 := hbu.trans hx4
  have hb24 := hb23.keep hx34
  have hb34 := hb3.keep hx34
  have hkk : m4.blk m1.next = (m3.bump 8).blk m1.next := hx4.same m1.next (by have := hb23.lt; show m1.next < m3.next + 8; omega)
  try simp only [go_sem, Int.reduceBEq, Int.reduceBNe, Int.reduceNeg, reduceCtorEq, Nat.reduceEqDiff, Nat.reduceAdd, Nat.reduceLeDiff, Nat.reduceMul, Nat.reduceSub, Int.reduceToNat, Int.reduceLT, Int.reduceLE, load_w, load_a, store_b, idxS_b, set_blk, new_blk, set_next, new_next, len_s, ldW_c, ldA_c, stB_c, toArr_one, size_one, toList_toArr, size_toArr, List.length_cons, List.length_nil, List.getElem?_cons_zero, List.getElem?_cons_succ, Nat.zero_add, Nat.add_zero, watchOk_cons, watchOk_nil, blkOf_ptr, hkk]
  refine gC.of (places_spec (hk3.keep hx34) (by have := ok.len; omega) ok.nd) ?_
  rintro _ m5 ⟨q2, rfl, hM2, hq2, hx5⟩
  have hbp : (m3.bump 8).next = m3.next + 8 := rfl
  have hn4 := hx4.next
  have hn5 := hx5.next
  have nn : (m3.next = m3.next + 1) = False := eq_false (by omega)
  have nn2 : (m3.next + 1 = m3.next) = False := eq_false (by omega)
  have nn3 : (m3.next + 4 = m3.next + 5) = False := eq_false (by omega)
  have nn4 : (m3.next + 5 = m3.next + 4) = False := eq_false (by omega)
  try simp only [go_sem, Int.reduceBEq, Int.reduceBNe, Int.reduceNeg, reduceCtorEq, Nat.reduceEqDiff, Nat.reduceAdd, Nat.reduceLeDiff, Nat.reduceMul, Nat.reduceSub, Int.reduceToNat, Int.reduceLT, Int.reduceLE, load_w, load_a, store_b, idxS_b, set_blk, new_blk, set_next, new_next, len_s, ldW_c, ldA_c, stB_c, toArr_one, size_one, toList_toArr, size_toArr, List.length_cons, List.length_nil, List.getElem?_cons_zero, List.getElem?_cons_succ, Nat.zero_add, Nat.add_zero, nn, nn2, nn3, nn4]
  have hb35 := hb34.keep hx5
  have hx05 : Ext m m5 := hX.trans (hx34.trans hx5)
  have hU6 : Upd m5 ((((m5.set (m3.next + 4) (some (.cells [.map none] (some 1)))).set (m3.next + 5) (some (.cells [.map none] (some 1)))).set (m3.next + 4) (some (.cells [.map (some q1)] (some 1)))).set (m3.next + 5) (some (.cells [.map (some q2)] (some 1)))) [m3.next + 4, m3.next + 5] := by
    have tr : ∀ {a b c : Mem}, Upd a b [m3.next + 4, m3.next + 5] → Upd b c [m3.next + 4, m3.next + 5] → Upd a c [m3.next + 4, m3.next + 5] := fun h k => h.trans k (fun _ h => h) (fun _ h => .inl h)
    exact tr (tr (tr (Upd.set (by simp)) (Upd.set (by simp))) (Upd.set (by simp))) (Upd.set (by simp))
  have hd6 : Bk ((((m5.set (m3.next + 4) (some (.cells [.map none] (some 1)))).set (m3.next + 5) (some (.cells [.map none] (some 1)))).set (m3.next + 4) (some (.cells [.map (some q1)] (some 1)))).set (m3.next + 5) (some (.cells [.map (some q2)] (some 1)))) (m3.next + 4) [.map (some q1)] 1 := ⟨by simp [Mem.set], by simp [Mem.set]; omega⟩
  have he6 : Bk ((((m5.set (m3.next + 4) (some (.cells [.map none] (some 1)))).set (m3.next + 5) (some (.cells [.map none] (some 1)))).set (m3.next + 4) (some (.cells [.map (some q1)] (some 1)))).set (m3.next + 5) (some (.cells [.map (some q2)] (some 1)))) (m3.next + 5) [.map (some q2)] 1 := ⟨by simp [Mem.set], by simp [Mem.set]; omega⟩
  generalize (((m5.set (m3.next + 4) (some (.cells [.map none] (some 1)))).set (m3.next + 5) (some (.cells [.map none] (some 1)))).set (m3.next + 4) (some (.cells [.map (some q1)] (some 1)))).set (m3.next + 5) (some (.cells [.map (some q2)] (some 1))) = m6 at hU6 hd6 he6 ⊢
  have hb3l := hb3.lt
  have hb36 := hb35.upd hU6 (by simp; omega)
  have hM16 := (hM1.keep hx5).upd hU6 (by simp; omega)
  have hM26 := hM2.upd hU6 (by simp; omega)
  have hx06 : Ext m m6 := hU6.ext_of hx05 (by have := hX.next; simp; omega)
  refine gC.of keys_spec ?_
  rintro _ _ ⟨rfl, rfl⟩
  try simp only [go_sem, Int.reduceBEq, Int.reduceBNe, Int.reduceNeg, reduceCtorEq, Nat.reduceEqDiff, Nat.reduceAdd, Nat.reduceLeDiff, Nat.reduceMul, Nat.reduceSub, Int.reduceToNat, Int.reduceLT, Int.reduceLE, load_w, load_a, store_b, idxS_b, set_blk, new_blk, set_next, new_next, len_s, ldW_c, ldA_c, stB_c, toArr_one, size_one, toList_toArr, size_toArr, List.length_cons, List.length_nil, List.getElem?_cons_zero, List.getElem?_cons_succ, Nat.zero_add, Nat.add_zero]
  have hx7 : Ext m6 (m6.new (.cells [.map (some q1)] (some 1))) := Ext.new
  have hg7 : Bk (m6.new (.cells [.map (some q1)] (some 1))) m6.next [.map (some q1)] 1 := Bk.new
  generalize m6.new (.cells [.map (some q1)] (some 1)) = m7 at hx7 hg7 ⊢
  have hd7 := hd6.keep hx7
  have he7 := he6.keep hx7
  have hb37 := hb36.keep hx7
  have hM17 := hM16.keep hx7
  have hM27 := hM26.keep hx7
  have hx07 := hx06.trans hx7
  refine gC.of (sorted_spec hg7 hM17 ol.wf ol.nd (by have := ol.len; omega)) ?_
  rintro w m8 ⟨ho8, hx8, hf8⟩
  have he8 := he7.keep hx8
  try simp only [go_sem, Int.reduceBEq, Int.reduceBNe, Int.reduceNeg, reduceCtorEq, Nat.reduceEqDiff, Nat.reduceAdd, Nat.reduceLeDiff, Nat.reduceMul, Nat.reduceSub, Int.reduceToNat, Int.reduceLT, Int.reduceLE, load_w, load_a, store_b, idxS_b, set_blk, new_blk, set_next, new_next, len_s, ldW_c, ldA_c, stB_c, toArr_one, size_one, toList_toArr, size_toArr, List.length_cons, List.length_nil, List.getElem?_cons_zero, List.getElem?_cons_succ, Nat.zero_add, Nat.add_zero, he8.at_]
  refine gC.of keys_spec ?_
  rintro _ _ ⟨rfl, rfl⟩
  try simp only [go_sem, Int.reduceBEq, Int.reduceBNe, Int.reduceNeg, reduceCtorEq, Nat.reduceEqDiff, Nat.reduceAdd, Nat.reduceLeDiff, Nat.reduceMul, Nat.reduceSub, Int.reduceToNat, Int.reduceLT, Int.reduceLE, load_w, load_a, store_b, idxS_b, set_blk, new_blk, set_next, new_next, len_s, ldW_c, ldA_c, stB_c, toArr_one, size_one, toList_toArr, size_toArr, List.length_cons, List.length_nil, List.getElem?_cons_zero, List.getElem?_cons_succ, Nat.zero_add, Nat.add_zero]
  have hx9 : Ext m8 (m8.new (.cells [.map (some q2)] (some 1))) := Ext.new
  have hg9 : Bk (m8.new (.cells [.map (some q2)] (some 1))) m8.next [.map (some q2)] 1 := Bk.new
  generalize m8.new (.cells [.map (some q2)] (some 1)) = m9 at hx9 hg9 ⊢
  refine gC.of (sorted_spec hg9 ((hM27.keep hx8).keep hx9) ok.wf ok.nd (by have := ok.len; omega)) ?_
  rintro w2 m10 ⟨ho10, hx10, -⟩
  have hx710 := (hx8.trans hx9).trans hx10
  have ho8' := (ho8.keep hx9).keep hx10
  have hll := ol.len
  have hkl := ok.len
  obtain ⟨v3, m11, p1, p2, p3⟩ := ho8'.appAll (by_ := 8) hx710 ho10.sl intsZ_one (by omega) (by omega) hf8
  have hcat : intsZ (sortI (l.map unitE)) ++ intsZ (sortI (k.map unitE)) = intsZ (sortI (l.map unitE) ++ sortI (k.map unitE)) := by unfold intsZ; rw [List.map_append]
  have hcl : l.length + k.length = (sortI (l.map unitE) ++ sortI (k.map unitE)).length := by rw [List.length_append, sortI_len, sortI_len, List.length_map, List.length_map]
  rw [hcat, hcl] at p2
  try simp only [go_sem, Int.reduceBEq, Int.reduceBNe, Int.reduceNeg, reduceCtorEq, Nat.reduceEqDiff, Nat.reduceAdd, Nat.reduceLeDiff, Nat.reduceMul, Nat.reduceSub, Int.reduceToNat, Int.reduceLT, Int.reduceLE, load_w, load_a, store_b, idxS_b, set_blk, new_blk, set_next, new_next, len_s, ldW_c, ldA_c, stB_c, toArr_one, size_one, toList_toArr, size_toArr, List.length_cons, List.length_nil, List.getElem?_cons_zero, List.getElem?_cons_succ, Nat.zero_add, Nat.add_zero, p1]
  refine gC.of (Sort_spec p2 p3 (by omega)) ?_
  rintro _ m12 ⟨rfl, ho12, -, hx12⟩
  try simp only [go_sem, Int.reduceBEq, Int.reduceBNe, Int.reduceNeg, reduceCtorEq, Nat.reduceEqDiff, Nat.reduceAdd, Nat.reduceLeDiff, Nat.reduceMul, Nat.reduceSub, Int.reduceToNat, Int.reduceLT, Int.reduceLE, load_w, load_a, store_b, idxS_b, set_blk, new_blk, set_next, new_next, len_s, ldW_c, ldA_c, stB_c, toArr_one, size_one, toList_toArr, size_toArr, List.length_cons, List.length_nil, List.getElem?_cons_zero, List.getElem?_cons_succ, Nat.zero_add, Nat.add_zero]
  have hsl : (sortI (l.map unitE) ++ sortI (k.map unitE)).length = (sortI (sortI (l.map unitE) ++ sortI (k.map unitE))).length := by rw [sortI_len]
  rw [hsl] at ho12
  refine gC.of (Compact_spec ho12 hx12 (by rw [← hsl, ← hcl]; omega)) ?_
  rintro v4 m13 ⟨ho13, hx13⟩
  try simp only [go_sem, Int.reduceBEq, Int.reduceBNe, Int.reduceNeg, reduceCtorEq, Nat.reduceEqDiff, Nat.reduceAdd, Nat.reduceLeDiff, Nat.reduceMul, Nat.reduceSub, Int.reduceToNat, Int.reduceLT, Int.reduceLE, load_w, load_a, store_b, idxS_b, set_blk, new_blk, set_next, new_next, len_s, ldW_c, ldA_c, stB_c, toArr_one, size_one, toList_toArr, size_toArr, List.length_cons, List.length_nil, List.getElem?_cons_zero, List.getElem?_cons_succ, Nat.zero_add, Nat.add_zero]
  have hcm := compL_len (l := sortI (sortI (l.map unitE) ++ sortI (k.map unitE)))
  refine gC.of (iDeleteFunc (p := fun u => !P (lkE l u) (lkE k u) (hasE l u) (hasE k u)) ho13 hx13 (by rw [← hsl, ← hcl] at hcm; omega) (fun M x hxM => ?_)) ?_
  · rw [gV_cap3]
    exact some1_spec (hd7.keep hxM) (he7.keep hxM) (hb37.keep hxM) (hM17.keep hxM) (hM27.keep hxM) (Ext.refl _) (fun m1 x y a b hx h1 h2 => hp m1 x y a b (hx07.trans (hxM.trans hx)) h1 h2)
  · rintro r m14 ⟨ho14, hx14⟩
    try simp only [go_sem, Int.reduceBEq, Int.reduceBNe, Int.reduceNeg, reduceCtorEq, Nat.reduceEqDiff, Nat.reduceAdd, Nat.reduceLeDiff, Nat.reduceMul, Nat.reduceSub, Int.reduceToNat, Int.reduceLT, Int.reduceLE, load_w, load_a, store_b, idxS_b, set_blk, new_blk, set_next, new_next, len_s, ldW_c, ldA_c, stB_c, toArr_one, size_one, toList_toArr, size_toArr, List.length_cons, List.length_nil, List.getElem?_cons_zero, List.getElem?_cons_succ, Nat.zero_add, Nat.add_zero]
    have e : ((compL (sortI (sortI (l.map unitE) ++ sortI (k.map unitE)))).filter fun x => !(fun u => !P (lkE l u) (lkE k u) (hasE l u) (hasE k u)) x) = someL l k P := by
      unfold someL; simp
    rw [e] at ho14
    exact ⟨ho14.weak hx07, hx07.trans hx14⟩
end Go.Am


/- Diff: Moved. -/
set_option linter.unusedVariables false
set_option linter.unusedSimpArgs false
namespace Go.Am
open Classical
variable {m : Mem}

noncomputable def movP (x y : PE) : Bool := decide (x.pl.pieces ≠ y.pl.pieces) || (decide (x.pl.pieces.length = 0) && decide (x.pl.core ≠ y.pl.core))

set_option maxHeartbeats 4000000 in
theorem moved_spec {x y : PE} (hx : PcV m x.pl.pieces x.pv) (hy : PcV m y.pl.pieces y.pv) (lx : x.pl.pieces.length < 1000000) (ly : y.pl.pieces.length < 1000000) :
    WC R F.diff_moved [eP x, eP y] m fun r m' => r = .bool (movP x y) ∧ Ext m m' := by
  refine WC.of R.diff_moved rfl ?_
  have o1 := x.one
  have o2 := y.one
  simp only [RC.diff_moved, eP, peV, plV, go_sem, Int.reduceBEq, Int.reduceBNe, Int.reduceNeg, reduceCtorEq, Nat.reduceEqDiff, Nat.reduceAdd, Nat.reduceLeDiff, Nat.reduceMul, Nat.reduceSub, Int.reduceToNat, Int.reduceLT, Int.reduceLE, o1, o2]
  have hx1 : Ext m (m.new (.cells [.int .i64 x.pl.unit, .int .i64 x.pl.share, .int .i64 x.pl.core, x.pv] (some 4))) := Ext.new
  have hb1 : Bk (m.new (.cells [.int .i64 x.pl.unit, .int .i64 x.pl.share, .int .i64 x.pl.core, x.pv] (some 4))) m.next [.int .i64 x.pl.unit, .int .i64 x.pl.share, .int .i64 x.pl.core, x.pv] 4 := Bk.new
  generalize m.new (.cells [.int .i64 x.pl.unit, .int .i64 x.pl.share, .int .i64 x.pl.core, x.pv] (some 4)) = m1 at hx1 hb1 ⊢
  have hx2 : Ext m1 (m1.new (.cells [.int .i64 y.pl.unit, .int .i64 y.pl.share, .int .i64 y.pl.core, y.pv] (some 4))) := Ext.new
  have hb2 : Bk (m1.new (.cells [.int .i64 y.pl.unit, .int .i64 y.pl.share, .int .i64 y.pl.core, y.pv] (some 4))) m1.next [.int .i64 y.pl.unit, .int .i64 y.pl.share, .int .i64 y.pl.core, y.pv] 4 := Bk.new
  generalize m1.new (.cells [.int .i64 y.pl.unit, .int .i64 y.pl.share, .int .i64 y.pl.core, y.pv] (some 4)) = m2 at hx2 hb2 ⊢
  have hb12 := hb1.keep hx2
  have hx' := (hx.keep hx1).keep hx2
  have hy' := (hy.keep hx1).keep hx2
  try simp only [go_sem, Int.reduceBEq, Int.reduceBNe, Int.reduceNeg, reduceCtorEq, Nat.reduceEqDiff, Nat.reduceAdd, Nat.reduceLeDiff, Nat.reduceMul, Nat.reduceSub, Int.reduceToNat, Int.reduceLT, Int.reduceLE, load_w, load_a, store_b, idxS_b, set_blk, new_blk, set_next, new_next, len_s, ldW_c, ldA_c, stB_c, toArr_one, size_one, toList_toArr, size_toArr, List.length_cons, List.length_nil, List.getElem?_cons_zero, List.getElem?_cons_succ, Nat.zero_add, Nat.add_zero, hb12.at_, hb2.at_]
  refine gC.of (Equal_spec hx' hy' lx ly) ?_
  rintro _ m3 ⟨rfl, hm⟩
  subst hm
  by_cases h1 : x.pl.pieces = y.pl.pieces
  · try simp only [go_sem, Int.reduceBEq, Int.reduceBNe, Int.reduceNeg, reduceCtorEq, Nat.reduceEqDiff, Nat.reduceAdd, Nat.reduceLeDiff, Nat.reduceMul, Nat.reduceSub, Int.reduceToNat, Int.reduceLT, Int.reduceLE, load_w, load_a, store_b, idxS_b, set_blk, new_blk, set_next, new_next, len_s, ldW_c, ldA_c, stB_c, toArr_one, size_one, toList_toArr, size_toArr, List.length_cons, List.length_nil, List.getElem?_cons_zero, List.getElem?_cons_succ, Nat.zero_add, Nat.add_zero, decide_eq_true h1, hb12.at_, hx'.len]
    by_cases h2 : x.pl.pieces.length = 0
    · have e2 : (((x.pl.pieces.length : Nat) : Int) == 0) = true := by rw [beq_iff_eq]; omega
      try simp only [go_sem, Int.reduceBEq, Int.reduceBNe, Int.reduceNeg, reduceCtorEq, Nat.reduceEqDiff, Nat.reduceAdd, Nat.reduceLeDiff, Nat.reduceMul, Nat.reduceSub, Int.reduceToNat, Int.reduceLT, Int.reduceLE, load_w, load_a, store_b, idxS_b, set_blk, new_blk, set_next, new_next, len_s, ldW_c, ldA_c, stB_c, toArr_one, size_one, toList_toArr, size_toArr, List.length_cons, List.length_nil, List.getElem?_cons_zero, List.getElem?_cons_succ, Nat.zero_add, Nat.add_zero, e2, hb12.at_, hb2.at_]
      refine ⟨?_, hx1.trans hx2⟩
      unfold movP
      rw [decide_eq_false (by simpa using h1), decide_eq_true h2]
      congr 1
      by_cases h3 : x.pl.core = y.pl.core <;> simp [h3]
    · have e2 : (((x.pl.pieces.length : Nat) : Int) == 0) = false := by rw [beq_eq_false_iff_ne]; omega
      try simp only [go_sem, Int.reduceBEq, Int.reduceBNe, Int.reduceNeg, reduceCtorEq, Nat.reduceEqDiff, Nat.reduceAdd, Nat.reduceLeDiff, Nat.reduceMul, Nat.reduceSub, Int.reduceToNat, Int.reduceLT, Int.reduceLE, load_w, load_a, store_b, idxS_b, set_blk, new_blk, set_next, new_next, len_s, ldW_c, ldA_c, stB_c, toArr_one, size_one, toList_toArr, size_toArr, List.length_cons, List.length_nil, List.getElem?_cons_zero, List.getElem?_cons_succ, Nat.zero_add, Nat.add_zero, e2]
      refine ⟨?_, hx1.trans hx2⟩
      unfold movP
      rw [decide_eq_false (by simpa using h1), decide_eq_false h2]; rfl
  · try simp only [go_sem, Int.reduceBEq, Int.reduceBNe, Int.reduceNeg, reduceCtorEq, Nat.reduceEqDiff, Nat.reduceAdd, Nat.reduceLeDiff, Nat.reduceMul, Nat.reduceSub, Int.reduceToNat, Int.reduceLT, Int.reduceLE, load_w, load_a, store_b, idxS_b, set_blk, new_blk, set_next, new_next, len_s, ldW_c, ldA_c, stB_c, toArr_one, size_one, toList_toArr, size_toArr, List.length_cons, List.length_nil, List.getElem?_cons_zero, List.getElem?_cons_succ, Nat.zero_add, Nat.add_zero, decide_eq_false h1]
    refine ⟨?_, hx1.trans hx2⟩
    unfold movP
    rw [decide_eq_true (by simpa using h1)]; rfl

noncomputable def MovP (x y : PE) (a b : Bool) : Bool := a && (b && movP x y)
theorem Moved1_spec {x y : PE} {a b : Bool} (hx : PcV m x.pl.pieces x.pv) (hy : PcV m y.pl.pieces y.pv) (lx : x.pl.pieces.length < 1000000) (ly : y.pl.pieces.length < 1000000) :
    WC R F.diff_Moved_1 [eP x, eP y, .bool a, .bool b] m fun r m' => r = .bool (MovP x y a b) ∧ Ext m m' := by
  refine WC.of R.diff_Moved_1 rfl ?_
  have o1 := x.one
  have o2 := y.one
  simp only [RC.diff_Moved_1, eP, peV, plV, go_sem, Int.reduceBEq, Int.reduceBNe, Int.reduceNeg, reduceCtorEq, Nat.reduceEqDiff, Nat.reduceAdd, Nat.reduceLeDiff, Nat.reduceMul, Nat.reduceSub, Int.reduceToNat, Int.reduceLT, Int.reduceLE, o1, o2]
  have hx1 : Ext m (m.new (.cells [.int .i64 x.pl.unit, .int .i64 x.pl.share, .int .i64 x.pl.core, x.pv] (some 4))) := Ext.new
  have hb1 : Bk (m.new (.cells [.int .i64 x.pl.unit, .int .i64 x.pl.share, .int .i64 x.pl.core, x.pv] (some 4))) m.next [.int .i64 x.pl.unit, .int .i64 x.pl.share, .int .i64 x.pl.core, x.pv] 4 := Bk.new
  generalize m.new (.cells [.int .i64 x.pl.unit, .int .i64 x.pl.share, .int .i64 x.pl.core, x.pv] (some 4)) = m1 at hx1 hb1 ⊢
  have hx2 : Ext m1 (m1.new (.cells [.int .i64 y.pl.unit, .int .i64 y.pl.share, .int .i64 y.pl.core, y.pv] (some 4))) := Ext.new
  have hb2 : Bk (m1.new (.cells [.int .i64 y.pl.unit, .int .i64 y.pl.share, .int .i64 y.pl.core, y.pv] (some 4))) m1.next [.int .i64 y.pl.unit, .int .i64 y.pl.share, .int .i64 y.pl.core, y.pv] 4 := Bk.new
  generalize m1.new (.cells [.int .i64 y.pl.unit, .int .i64 y.pl.share, .int .i64 y.pl.core, y.pv] (some 4)) = m2 at hx2 hb2 ⊢
  have hb12 := hb1.keep hx2
  have hx' := (hx.keep hx1).keep hx2
  have hy' := (hy.keep hx1).keep hx2
  unfold MovP
  cases a <;> cases b
  · try simp only [go_sem, Int.reduceBEq, Int.reduceBNe, Int.reduceNeg, reduceCtorEq, Nat.reduceEqDiff, Nat.reduceAdd, Nat.reduceLeDiff, Nat.reduceMul, Nat.reduceSub, Int.reduceToNat, Int.reduceLT, Int.reduceLE, load_w, load_a, store_b, idxS_b, set_blk, new_blk, set_next, new_next, len_s, ldW_c, ldA_c, stB_c, toArr_one, size_one, toList_toArr, size_toArr, List.length_cons, List.length_nil, List.getElem?_cons_zero, List.getElem?_cons_succ, Nat.zero_add, Nat.add_zero]
    exact hx1.trans hx2
  · try simp only [go_sem, Int.reduceBEq, Int.reduceBNe, Int.reduceNeg, reduceCtorEq, Nat.reduceEqDiff, Nat.reduceAdd, Nat.reduceLeDiff, Nat.reduceMul, Nat.reduceSub, Int.reduceToNat, Int.reduceLT, Int.reduceLE, load_w, load_a, store_b, idxS_b, set_blk, new_blk, set_next, new_next, len_s, ldW_c, ldA_c, stB_c, toArr_one, size_one, toList_toArr, size_toArr, List.length_cons, List.length_nil, List.getElem?_cons_zero, List.getElem?_cons_succ, Nat.zero_add, Nat.add_zero]
    exact hx1.trans hx2
  · try simp only [go_sem, Int.reduceBEq, Int.reduceBNe, Int.reduceNeg, reduceCtorEq, Nat.reduceEqDiff, Nat.reduceAdd, Nat.reduceLeDiff, Nat.reduceMul, Nat.reduceSub, Int.reduceToNat, Int.reduceLT, Int.reduceLE, load_w, load_a, store_b, idxS_b, set_blk, new_blk, set_next, new_next, len_s, ldW_c, ldA_c, stB_c, toArr_one, size_one, toList_toArr, size_toArr, List.length_cons, List.length_nil, List.getElem?_cons_zero, List.getElem?_cons_succ, Nat.zero_add, Nat.add_zero]
    exact hx1.trans hx2
  · try simp only [go_sem, Int.reduceBEq, Int.reduceBNe, Int.reduceNeg, reduceCtorEq, Nat.reduceEqDiff, Nat.reduceAdd, Nat.reduceLeDiff, Nat.reduceMul, Nat.reduceSub, Int.reduceToNat, Int.reduceLT, Int.reduceLE, load_w, load_a, store_b, idxS_b, set_blk, new_blk, set_next, new_next, len_s, ldW_c, ldA_c, stB_c, toArr_one, size_one, toList_toArr, size_toArr, List.length_cons, List.length_nil, List.getElem?_cons_zero, List.getElem?_cons_succ, Nat.zero_add, Nat.add_zero, hb12.at_, hb2.at_]
    refine gC.of (moved_spec hx' hy' lx ly) ?_
    rintro _ m3 ⟨rfl, hx3⟩
    try simp only [go_sem, Int.reduceBEq, Int.reduceBNe, Int.reduceNeg, reduceCtorEq, Nat.reduceEqDiff, Nat.reduceAdd, Nat.reduceLeDiff, Nat.reduceMul, Nat.reduceSub, Int.reduceToNat, Int.reduceLT, Int.reduceLE, load_w, load_a, store_b, idxS_b, set_blk, new_blk, set_next, new_next, len_s, ldW_c, ldA_c, stB_c, toArr_one, size_one, toList_toArr, size_toArr, List.length_cons, List.length_nil, List.getElem?_cons_zero, List.getElem?_cons_succ, Nat.zero_add, Nat.add_zero]
    exact (hx1.trans hx2).trans hx3

theorem e0_pcs {m : Mem} : PcV m e0.pl.pieces e0.pv := ⟨.nil rfl rfl, trivial⟩
theorem Moved_spec {l k : List PE} {f g : Int} {c d : BitVec 32} {pv kv : Value} (hs : RowS m l pv) (hk : RowS m k kv) (ol : OkE l) (ok : OkE k)
    (pl : ∀ e ∈ l, PcV m e.pl.pieces e.pv ∧ e.pl.pieces.length < 1000000) (pk : ∀ e ∈ k, PcV m e.pl.pieces e.pv ∧ e.pl.pieces.length < 1000000) :
    WC R F.diff_Moved [.agg #[.int .i64 f, u32 c, pv], .agg #[.int .i64 g, u32 d, kv]] m fun r m' => Own m m' 1 (someL l k MovP).length (intsZ (someL l k MovP)) r ∧ Ext m m' := by
  refine WC.of R.diff_Moved rfl ?_
  simp only [RC.diff_Moved, go_sem, Int.reduceBEq, Int.reduceBNe, Int.reduceNeg, reduceCtorEq, Nat.reduceEqDiff, Nat.reduceAdd, Nat.reduceLeDiff, Nat.reduceMul, Nat.reduceSub, Int.reduceToNat, Int.reduceLT, Int.reduceLE, hs.sl.one, hk.sl.one]
  have hx1 : Ext m (m.new (.cells [.int .i64 f, u32 c, pv] (some 3))) := Ext.new
  have hb1 : Bk (m.new (.cells [.int .i64 f, u32 c, pv] (some 3))) m.next [.int .i64 f, u32 c, pv] 3 := Bk.new
  generalize m.new (.cells [.int .i64 f, u32 c, pv] (some 3)) = m1 at hx1 hb1 ⊢
  have hx2 : Ext m1 (m1.new (.cells [.int .i64 g, u32 d, kv] (some 3))) := Ext.new
  have hb2 : Bk (m1.new (.cells [.int .i64 g, u32 d, kv] (some 3))) m1.next [.int .i64 g, u32 d, kv] 3 := Bk.new
  generalize m1.new (.cells [.int .i64 g, u32 d, kv] (some 3)) = m2 at hx2 hb2 ⊢
  have hb12 := hb1.keep hx2
  have hX := hx1.trans hx2
  try simp only [go_sem, Int.reduceBEq, Int.reduceBNe, Int.reduceNeg, reduceCtorEq, Nat.reduceEqDiff, Nat.reduceAdd, Nat.reduceLeDiff, Nat.reduceMul, Nat.reduceSub, Int.reduceToNat, Int.reduceLT, Int.reduceLE, load_w, load_a, store_b, idxS_b, set_blk, new_blk, set_next, new_next, len_s, ldW_c, ldA_c, stB_c, toArr_one, size_one, toList_toArr, size_toArr, List.length_cons, List.length_nil, List.getElem?_cons_zero, List.getElem?_cons_succ, Nat.zero_add, Nat.add_zero, hb12.at_, hb2.at_]
  have hpe : ∀ {L : List PE} {x : PE} {M : Mem}, (∀ e ∈ L, PcV m e.pl.pieces e.pv ∧ e.pl.pieces.length < 1000000) → Ext m M → (x ∈ L ∨ x = e0) → PcV M x.pl.pieces x.pv ∧ x.pl.pieces.length < 1000000 := by
    intro L x M h hM hx
    rcases hx with hx | rfl
    · exact ⟨(h x hx).1.keep hM, (h x hx).2⟩
    · exact ⟨e0_pcs, by show (0 : Nat) < 1000000; omega⟩
  refine gC.of (some_spec (P := MovP) (hs.keep hX) (hk.keep hX) ol ok ⟨_, rfl⟩ ?_) ?_
  · intro m3 x y a b hx3 h1 h2
    rw [gV_func]
    exact Moved1_spec (hpe pl (hX.trans hx3) h1).1 (hpe pk (hX.trans hx3) h2).1 (hpe pl (hX.trans hx3) h1).2 (hpe pk (hX.trans hx3) h2).2
  · rintro r m4 ⟨ho, hx4⟩
    try simp only [go_sem, Int.reduceBEq, Int.reduceBNe, Int.reduceNeg, reduceCtorEq, Nat.reduceEqDiff, Nat.reduceAdd, Nat.reduceLeDiff, Nat.reduceMul, Nat.reduceSub, Int.reduceToNat, Int.reduceLT, Int.reduceLE, load_w, load_a, store_b, idxS_b, set_blk, new_blk, set_next, new_next, len_s, ldW_c, ldA_c, stB_c, toArr_one, size_one, toList_toArr, size_toArr, List.length_cons, List.length_nil, List.getElem?_cons_zero, List.getElem?_cons_succ, Nat.zero_add, Nat.add_zero]
    exact ⟨ho.weak hX, hX.trans hx4⟩
end Go.Am


/- Diff: Came, Gone, Resized. -/
set_option linter.unusedVariables false
set_option linter.unusedSimpArgs false
namespace Go.Am
open Classical
variable {m : Mem}

def CamP (x y : PE) (a b : Bool) : Bool := !a && b
def GonP (x y : PE) (a b : Bool) : Bool := a && !b
def ResP (x y : PE) (a b : Bool) : Bool := a && (b && (x.pl.share != y.pl.share))
theorem Came1_spec {x y : PE} {a b : Bool} : WC R F.diff_Came_1 [eP x, eP y, .bool a, .bool b] m fun r m' => r = .bool (CamP x y a b) ∧ Ext m m' := by
  refine WC.of R.diff_Came_1 rfl ?_
  have o1 := x.one
  have o2 := y.one
  simp only [RC.diff_Came_1, eP, peV, plV, go_sem, Int.reduceBEq, Int.reduceBNe, Int.reduceNeg, reduceCtorEq, Nat.reduceEqDiff, Nat.reduceAdd, Nat.reduceLeDiff, Nat.reduceMul, Nat.reduceSub, Int.reduceToNat, Int.reduceLT, Int.reduceLE, o1, o2]
  have hx1 : Ext m (m.new (.cells [.int .i64 x.pl.unit, .int .i64 x.pl.share, .int .i64 x.pl.core, x.pv] (some 4))) := Ext.new
  have hb1 : Bk (m.new (.cells [.int .i64 x.pl.unit, .int .i64 x.pl.share, .int .i64 x.pl.core, x.pv] (some 4))) m.next [.int .i64 x.pl.unit, .int .i64 x.pl.share, .int .i64 x.pl.core, x.pv] 4 := Bk.new
  generalize m.new (.cells [.int .i64 x.pl.unit, .int .i64 x.pl.share, .int .i64 x.pl.core, x.pv] (some 4)) = m1 at hx1 hb1 ⊢
  have hx2 : Ext m1 (m1.new (.cells [.int .i64 y.pl.unit, .int .i64 y.pl.share, .int .i64 y.pl.core, y.pv] (some 4))) := Ext.new
  have hb2 : Bk (m1.new (.cells [.int .i64 y.pl.unit, .int .i64 y.pl.share, .int .i64 y.pl.core, y.pv] (some 4))) m1.next [.int .i64 y.pl.unit, .int .i64 y.pl.share, .int .i64 y.pl.core, y.pv] 4 := Bk.new
  generalize m1.new (.cells [.int .i64 y.pl.unit, .int .i64 y.pl.share, .int .i64 y.pl.core, y.pv] (some 4)) = m2 at hx2 hb2 ⊢
  unfold CamP
  cases a <;> cases b <;> (try simp only [go_sem, Int.reduceBEq, Int.reduceBNe, Int.reduceNeg, reduceCtorEq, Nat.reduceEqDiff, Nat.reduceAdd, Nat.reduceLeDiff, Nat.reduceMul, Nat.reduceSub, Int.reduceToNat, Int.reduceLT, Int.reduceLE]) <;> (first | exact hx1.trans hx2 | exact ⟨rfl, hx1.trans hx2⟩)
theorem Gone1_spec {x y : PE} {a b : Bool} : WC R F.diff_Gone_1 [eP x, eP y, .bool a, .bool b] m fun r m' => r = .bool (GonP x y a b) ∧ Ext m m' := by
  refine WC.of R.diff_Gone_1 rfl ?_
  have o1 := x.one
  have o2 := y.one
  simp only [RC.diff_Gone_1, eP, peV, plV, go_sem, Int.reduceBEq, Int.reduceBNe, Int.reduceNeg, reduceCtorEq, Nat.reduceEqDiff, Nat.reduceAdd, Nat.reduceLeDiff, Nat.reduceMul, Nat.reduceSub, Int.reduceToNat, Int.reduceLT, Int.reduceLE, o1, o2]
  have hx1 : Ext m (m.new (.cells [.int .i64 x.pl.unit, .int .i64 x.pl.share, .int .i64 x.pl.core, x.pv] (some 4))) := Ext.new
  have hb1 : Bk (m.new (.cells [.int .i64 x.pl.unit, .int .i64 x.pl.share, .int .i64 x.pl.core, x.pv] (some 4))) m.next [.int .i64 x.pl.unit, .int .i64 x.pl.share, .int .i64 x.pl.core, x.pv] 4 := Bk.new
  generalize m.new (.cells [.int .i64 x.pl.unit, .int .i64 x.pl.share, .int .i64 x.pl.core, x.pv] (some 4)) = m1 at hx1 hb1 ⊢
  have hx2 : Ext m1 (m1.new (.cells [.int .i64 y.pl.unit, .int .i64 y.pl.share, .int .i64 y.pl.core, y.pv] (some 4))) := Ext.new
  have hb2 : Bk (m1.new (.cells [.int .i64 y.pl.unit, .int .i64 y.pl.share, .int .i64 y.pl.core, y.pv] (some 4))) m1.next [.int .i64 y.pl.unit, .int .i64 y.pl.share, .int .i64 y.pl.core, y.pv] 4 := Bk.new
  generalize m1.new (.cells [.int .i64 y.pl.unit, .int .i64 y.pl.share, .int .i64 y.pl.core, y.pv] (some 4)) = m2 at hx2 hb2 ⊢
  unfold GonP
  cases a <;> cases b <;> (try simp only [go_sem, Int.reduceBEq, Int.reduceBNe, Int.reduceNeg, reduceCtorEq, Nat.reduceEqDiff, Nat.reduceAdd, Nat.reduceLeDiff, Nat.reduceMul, Nat.reduceSub, Int.reduceToNat, Int.reduceLT, Int.reduceLE]) <;> (first | exact hx1.trans hx2 | exact ⟨rfl, hx1.trans hx2⟩)
theorem Resized1_spec {x y : PE} {a b : Bool} : WC R F.diff_Resized_1 [eP x, eP y, .bool a, .bool b] m fun r m' => r = .bool (ResP x y a b) ∧ Ext m m' := by
  refine WC.of R.diff_Resized_1 rfl ?_
  have o1 := x.one
  have o2 := y.one
  simp only [RC.diff_Resized_1, eP, peV, plV, go_sem, Int.reduceBEq, Int.reduceBNe, Int.reduceNeg, reduceCtorEq, Nat.reduceEqDiff, Nat.reduceAdd, Nat.reduceLeDiff, Nat.reduceMul, Nat.reduceSub, Int.reduceToNat, Int.reduceLT, Int.reduceLE, o1, o2]
  have hx1 : Ext m (m.new (.cells [.int .i64 x.pl.unit, .int .i64 x.pl.share, .int .i64 x.pl.core, x.pv] (some 4))) := Ext.new
  have hb1 : Bk (m.new (.cells [.int .i64 x.pl.unit, .int .i64 x.pl.share, .int .i64 x.pl.core, x.pv] (some 4))) m.next [.int .i64 x.pl.unit, .int .i64 x.pl.share, .int .i64 x.pl.core, x.pv] 4 := Bk.new
  generalize m.new (.cells [.int .i64 x.pl.unit, .int .i64 x.pl.share, .int .i64 x.pl.core, x.pv] (some 4)) = m1 at hx1 hb1 ⊢
  have hx2 : Ext m1 (m1.new (.cells [.int .i64 y.pl.unit, .int .i64 y.pl.share, .int .i64 y.pl.core, y.pv] (some 4))) := Ext.new
  have hb2 : Bk (m1.new (.cells [.int .i64 y.pl.unit, .int .i64 y.pl.share, .int .i64 y.pl.core, y.pv] (some 4))) m1.next [.int .i64 y.pl.unit, .int .i64 y.pl.share, .int .i64 y.pl.core, y.pv] 4 := Bk.new
  generalize m1.new (.cells [.int .i64 y.pl.unit, .int .i64 y.pl.share, .int .i64 y.pl.core, y.pv] (some 4)) = m2 at hx2 hb2 ⊢
  have hb12 := hb1.keep hx2
  unfold ResP
  cases a <;> cases b
  · simp only [go_sem, Int.reduceBEq, Int.reduceBNe, Int.reduceNeg, reduceCtorEq, Nat.reduceEqDiff, Nat.reduceAdd, Nat.reduceLeDiff, Nat.reduceMul, Nat.reduceSub, Int.reduceToNat, Int.reduceLT, Int.reduceLE]
    first | exact hx1.trans hx2 | exact ⟨rfl, hx1.trans hx2⟩
  · simp only [go_sem, Int.reduceBEq, Int.reduceBNe, Int.reduceNeg, reduceCtorEq, Nat.reduceEqDiff, Nat.reduceAdd, Nat.reduceLeDiff, Nat.reduceMul, Nat.reduceSub, Int.reduceToNat, Int.reduceLT, Int.reduceLE]
    first | exact hx1.trans hx2 | exact ⟨rfl, hx1.trans hx2⟩
  · simp only [go_sem, Int.reduceBEq, Int.reduceBNe, Int.reduceNeg, reduceCtorEq, Nat.reduceEqDiff, Nat.reduceAdd, Nat.reduceLeDiff, Nat.reduceMul, Nat.reduceSub, Int.reduceToNat, Int.reduceLT, Int.reduceLE]
    first | exact hx1.trans hx2 | exact ⟨rfl, hx1.trans hx2⟩
  · try simp only [go_sem, Int.reduceBEq, Int.reduceBNe, Int.reduceNeg, reduceCtorEq, Nat.reduceEqDiff, Nat.reduceAdd, Nat.reduceLeDiff, Nat.reduceMul, Nat.reduceSub, Int.reduceToNat, Int.reduceLT, Int.reduceLE, load_w, load_a, store_b, idxS_b, set_blk, new_blk, set_next, new_next, len_s, ldW_c, ldA_c, stB_c, toArr_one, size_one, toList_toArr, size_toArr, List.length_cons, List.length_nil, List.getElem?_cons_zero, List.getElem?_cons_succ, Nat.zero_add, Nat.add_zero, hb12.at_, hb2.at_]
    first | exact hx1.trans hx2 | exact ⟨rfl, hx1.trans hx2⟩ | exact ⟨by simp, hx1.trans hx2⟩

theorem Came_spec {l k : List PE} {f g : Int} {c d : BitVec 32} {pv kv : Value} (hs : RowS m l pv) (hk : RowS m k kv) (ol : OkE l) (ok : OkE k) :
    WC R F.diff_Came [.agg #[.int .i64 f, u32 c, pv], .agg #[.int .i64 g, u32 d, kv]] m fun r m' => Own m m' 1 (someL l k CamP).length (intsZ (someL l k CamP)) r ∧ Ext m m' := by
  refine WC.of R.diff_Came rfl ?_
  simp only [RC.diff_Came, go_sem, Int.reduceBEq, Int.reduceBNe, Int.reduceNeg, reduceCtorEq, Nat.reduceEqDiff, Nat.reduceAdd, Nat.reduceLeDiff, Nat.reduceMul, Nat.reduceSub, Int.reduceToNat, Int.reduceLT, Int.reduceLE, hs.sl.one, hk.sl.one]
  have hx1 : Ext m (m.new (.cells [.int .i64 f, u32 c, pv] (some 3))) := Ext.new
  have hb1 : Bk (m.new (.cells [.int .i64 f, u32 c, pv] (some 3))) m.next [.int .i64 f, u32 c, pv] 3 := Bk.new
  generalize m.new (.cells [.int .i64 f, u32 c, pv] (some 3)) = m1 at hx1 hb1 ⊢
  have hx2 : Ext m1 (m1.new (.cells [.int .i64 g, u32 d, kv] (some 3))) := Ext.new
  have hb2 : Bk (m1.new (.cells [.int .i64 g, u32 d, kv] (some 3))) m1.next [.int .i64 g, u32 d, kv] 3 := Bk.new
  generalize m1.new (.cells [.int .i64 g, u32 d, kv] (some 3)) = m2 at hx2 hb2 ⊢
  have hb12 := hb1.keep hx2
  have hX := hx1.trans hx2
  try simp only [go_sem, Int.reduceBEq, Int.reduceBNe, Int.reduceNeg, reduceCtorEq, Nat.reduceEqDiff, Nat.reduceAdd, Nat.reduceLeDiff, Nat.reduceMul, Nat.reduceSub, Int.reduceToNat, Int.reduceLT, Int.reduceLE, load_w, load_a, store_b, idxS_b, set_blk, new_blk, set_next, new_next, len_s, ldW_c, ldA_c, stB_c, toArr_one, size_one, toList_toArr, size_toArr, List.length_cons, List.length_nil, List.getElem?_cons_zero, List.getElem?_cons_succ, Nat.zero_add, Nat.add_zero, hb12.at_, hb2.at_]
  refine gC.of (some_spec (P := CamP) (hs.keep hX) (hk.keep hX) ol ok ⟨_, rfl⟩ ?_) ?_
  · intro m3 x y a b hx3 h1 h2
    rw [gV_func]
    exact Came1_spec
  · rintro r m4 ⟨ho, hx4⟩
    try simp only [go_sem, Int.reduceBEq, Int.reduceBNe, Int.reduceNeg, reduceCtorEq, Nat.reduceEqDiff, Nat.reduceAdd, Nat.reduceLeDiff, Nat.reduceMul, Nat.reduceSub, Int.reduceToNat, Int.reduceLT, Int.reduceLE, load_w, load_a, store_b, idxS_b, set_blk, new_blk, set_next, new_next, len_s, ldW_c, ldA_c, stB_c, toArr_one, size_one, toList_toArr, size_toArr, List.length_cons, List.length_nil, List.getElem?_cons_zero, List.getElem?_cons_succ, Nat.zero_add, Nat.add_zero]
    exact ⟨ho.weak hX, hX.trans hx4⟩

theorem Gone_spec {l k : List PE} {f g : Int} {c d : BitVec 32} {pv kv : Value} (hs : RowS m l pv) (hk : RowS m k kv) (ol : OkE l) (ok : OkE k) :
    WC R F.diff_Gone [.agg #[.int .i64 f, u32 c, pv], .agg #[.int .i64 g, u32 d, kv]] m fun r m' => Own m m' 1 (someL l k GonP).length (intsZ (someL l k GonP)) r ∧ Ext m m' := by
  refine WC.of R.diff_Gone rfl ?_
  simp only [RC.diff_Gone, go_sem, Int.reduceBEq, Int.reduceBNe, Int.reduceNeg, reduceCtorEq, Nat.reduceEqDiff, Nat.reduceAdd, Nat.reduceLeDiff, Nat.reduceMul, Nat.reduceSub, Int.reduceToNat, Int.reduceLT, Int.reduceLE, hs.sl.one, hk.sl.one]
  have hx1 : Ext m (m.new (.cells [.int .i64 f, u32 c, pv] (some 3))) := Ext.new
  have hb1 : Bk (m.new (.cells [.int .i64 f, u32 c, pv] (some 3))) m.next [.int .i64 f, u32 c, pv] 3 := Bk.new
  generalize m.new (.cells [.int .i64 f, u32 c, pv] (some 3)) = m1 at hx1 hb1 ⊢
  have hx2 : Ext m1 (m1.new (.cells [.int .i64 g, u32 d, kv] (some 3))) := Ext.new
  have hb2 : Bk (m1.new (.cells [.int .i64 g, u32 d, kv] (some 3))) m1.next [.int .i64 g, u32 d, kv] 3 := Bk.new
  generalize m1.new (.cells [.int .i64 g, u32 d, kv] (some 3)) = m2 at hx2 hb2 ⊢
  have hb12 := hb1.keep hx2
  have hX := hx1.trans hx2
  try simp only [go_sem, Int.reduceBEq, Int.reduceBNe, Int.reduceNeg, reduceCtorEq, Nat.reduceEqDiff, Nat.reduceAdd, Nat.reduceLeDiff, Nat.reduceMul, Nat.reduceSub, Int.reduceToNat, Int.reduceLT, Int.reduceLE, load_w, load_a, store_b, idxS_b, set_blk, new_blk, set_next, new_next, len_s, ldW_c, ldA_c, stB_c, toArr_one, size_one, toList_toArr, size_toArr, List.length_cons, List.length_nil, List.getElem?_cons_zero, List.getElem?_cons_succ, Nat.zero_add, Nat.add_zero, hb12.at_, hb2.at_]
  refine gC.of (some_spec (P := GonP) (hs.keep hX) (hk.keep hX) ol ok ⟨_, rfl⟩ ?_) ?_
  · intro m3 x y a b hx3 h1 h2
    rw [gV_func]
    exact Gone1_spec
  · rintro r m4 ⟨ho, hx4⟩
    try simp only [go_sem, Int.reduceBEq, Int.reduceBNe, Int.reduceNeg, reduceCtorEq, Nat.reduceEqDiff, Nat.reduceAdd, Nat.reduceLeDiff, Nat.reduceMul, Nat.reduceSub, Int.reduceToNat, Int.reduceLT, Int.reduceLE, load_w, load_a, store_b, idxS_b, set_blk, new_blk, set_next, new_next, len_s, ldW_c, ldA_c, stB_c, toArr_one, size_one, toList_toArr, size_toArr, List.length_cons, List.length_nil, List.getElem?_cons_zero, List.getElem?_cons_succ, Nat.zero_add, Nat.add_zero]
    exact ⟨ho.weak hX, hX.trans hx4⟩

theorem Resized_spec {l k : List PE} {f g : Int} {c d : BitVec 32} {pv kv : Value} (hs : RowS m l pv) (hk : RowS m k kv) (ol : OkE l) (ok : OkE k) :
    WC R F.diff_Resized [.agg #[.int .i64 f, u32 c, pv], .agg #[.int .i64 g, u32 d, kv]] m fun r m' => Own m m' 1 (someL l k ResP).length (intsZ (someL l k ResP)) r ∧ Ext m m' := by
  refine WC.of R.diff_Resized rfl ?_
  simp only [RC.diff_Resized, go_sem, Int.reduceBEq, Int.reduceBNe, Int.reduceNeg, reduceCtorEq, Nat.reduceEqDiff, Nat.reduceAdd, Nat.reduceLeDiff, Nat.reduceMul, Nat.reduceSub, Int.reduceToNat, Int.reduceLT, Int.reduceLE, hs.sl.one, hk.sl.one]
  have hx1 : Ext m (m.new (.cells [.int .i64 f, u32 c, pv] (some 3))) := Ext.new
  have hb1 : Bk (m.new (.cells [.int .i64 f, u32 c, pv] (some 3))) m.next [.int .i64 f, u32 c, pv] 3 := Bk.new
  generalize m.new (.cells [.int .i64 f, u32 c, pv] (some 3)) = m1 at hx1 hb1 ⊢
  have hx2 : Ext m1 (m1.new (.cells [.int .i64 g, u32 d, kv] (some 3))) := Ext.new
  have hb2 : Bk (m1.new (.cells [.int .i64 g, u32 d, kv] (some 3))) m1.next [.int .i64 g, u32 d, kv] 3 := Bk.new
  generalize m1.new (.cells [.int .i64 g, u32 d, kv] (some 3)) = m2 at hx2 hb2 ⊢
  have hb12 := hb1.keep hx2
  have hX := hx1.trans hx2
  try simp only [go_sem, Int.reduceBEq, Int.reduceBNe, Int.reduceNeg, reduceCtorEq, Nat.reduceEqDiff, Nat.reduceAdd, Nat.reduceLeDiff, Nat.reduceMul, Nat.reduceSub, Int.reduceToNat, Int.reduceLT, Int.reduceLE, load_w, load_a, store_b, idxS_b, set_blk, new_blk, set_next, new_next, len_s, ldW_c, ldA_c, stB_c, toArr_one, size_one, toList_toArr, size_toArr, List.length_cons, List.length_nil, List.getElem?_cons_zero, List.getElem?_cons_succ, Nat.zero_add, Nat.add_zero, hb12.at_, hb2.at_]
  refine gC.of (some_spec (P := ResP) (hs.keep hX) (hk.keep hX) ol ok ⟨_, rfl⟩ ?_) ?_
  · intro m3 x y a b hx3 h1 h2
    rw [gV_func]
    exact Resized1_spec
  · rintro r m4 ⟨ho, hx4⟩
    try simp only [go_sem, Int.reduceBEq, Int.reduceBNe, Int.reduceNeg, reduceCtorEq, Nat.reduceEqDiff, Nat.reduceAdd, Nat.reduceLeDiff, Nat.reduceMul, Nat.reduceSub, Int.reduceToNat, Int.reduceLT, Int.reduceLE, load_w, load_a, store_b, idxS_b, set_blk, new_blk, set_next, new_next, len_s, ldW_c, ldA_c, stB_c, toArr_one, size_one, toList_toArr, size_toArr, List.length_cons, List.length_nil, List.getElem?_cons_zero, List.getElem?_cons_succ, Nat.zero_add, Nat.add_zero]
    exact ⟨ho.weak hX, hX.trans hx4⟩
end Go.Am


/- Diff: the reference's Moved. -/
set_option linter.unusedVariables false
set_option linter.unusedSimpArgs false
namespace Go.Am
open Classical
variable {m : Mem}

def onP (x : Pl) (c : Int) : Bool := if x.pieces.length = 0 then x.core == c else x.pieces.any fun q => q.1 == c

theorem On_spec {x : Pl} {v : Value} {c : Int} (hv : PlV m x v) (hl : x.pieces.length < 1000000) : WC R F.ref22_On [v, .int .i64 c] m fun r m' => r = .bool (onP x c) ∧ Ext m m' := by
  refine WC.of R.ref22_On rfl ?_
  obtain ⟨pv, rfl, hp⟩ := hv
  simp only [RC.ref22_On, plV, go_sem, Int.reduceBEq, Int.reduceBNe, Int.reduceNeg, reduceCtorEq, Nat.reduceEqDiff, Nat.reduceAdd, Nat.reduceLeDiff, Nat.reduceMul, Nat.reduceSub, Int.reduceToNat, Int.reduceLT, Int.reduceLE, hp.one]
  have hx : Ext m (m.new (.cells [.int .i64 x.unit, .int .i64 x.share, .int .i64 x.core, pv] (some 4))) := Ext.new
  have hb : Bk (m.new (.cells [.int .i64 x.unit, .int .i64 x.share, .int .i64 x.core, pv] (some 4))) m.next [.int .i64 x.unit, .int .i64 x.share, .int .i64 x.core, pv] 4 := Bk.new
  generalize m.new (.cells [.int .i64 x.unit, .int .i64 x.share, .int .i64 x.core, pv] (some 4)) = m1 at hx hb ⊢
  have hp1 := hp.keep hx
  by_cases h0 : x.pieces.length = 0
  · have e0 : (((x.pieces.length : Nat) : Int) == 0) = true := by rw [beq_iff_eq]; omega
    have e : onP x c = (x.core == c) := by unfold onP; rw [if_pos h0]
    try simp only [go_sem, Int.reduceBEq, Int.reduceBNe, Int.reduceNeg, reduceCtorEq, Nat.reduceEqDiff, Nat.reduceAdd, Nat.reduceLeDiff, Nat.reduceMul, Nat.reduceSub, Int.reduceToNat, Int.reduceLT, Int.reduceLE, load_w, load_a, store_b, idxS_b, set_blk, new_blk, set_next, new_next, len_s, ldW_c, ldA_c, stB_c, toArr_one, size_one, toList_toArr, size_toArr, List.length_cons, List.length_nil, List.getElem?_cons_zero, List.getElem?_cons_succ, Nat.zero_add, Nat.add_zero, hb.at_, hp1.len, e0, e]
    first | exact hx | exact ⟨rfl, hx⟩
  · have e0 : (((x.pieces.length : Nat) : Int) == 0) = false := by rw [beq_eq_false_iff_ne]; omega
    have e : onP x c = x.pieces.any fun q => q.1 == c := by unfold onP; rw [if_neg h0]
    try simp only [go_sem, Int.reduceBEq, Int.reduceBNe, Int.reduceNeg, reduceCtorEq, Nat.reduceEqDiff, Nat.reduceAdd, Nat.reduceLeDiff, Nat.reduceMul, Nat.reduceSub, Int.reduceToNat, Int.reduceLT, Int.reduceLE, load_w, load_a, store_b, idxS_b, set_blk, new_blk, set_next, new_next, len_s, ldW_c, ldA_c, stB_c, toArr_one, size_one, toList_toArr, size_toArr, List.length_cons, List.length_nil, List.getElem?_cons_zero, List.getElem?_cons_succ, Nat.zero_add, Nat.add_zero, hb.at_, hp1.len, e0]
    refine WL.of (fun n e m' => ∃ i : Nat, i ≤ x.pieces.length ∧ n = x.pieces.length - i ∧ m' = m1 ∧ e = [(1, .int .i64 c), (2, pt m.next), (5, .int .i64 i)] ∧ ∀ t (h : t < x.pieces.length), t < i → x.pieces[t].1 ≠ c) x.pieces.length
      ⟨0, by omega, by omega, rfl, by simp only [go_sem, Int.reduceBEq, Int.reduceBNe, Int.reduceNeg, reduceCtorEq, Nat.reduceEqDiff, Nat.reduceAdd, Nat.reduceLeDiff, Nat.reduceMul, Nat.reduceSub, Int.reduceToNat, Int.reduceLT, Int.reduceLE] <;> rfl, fun t h h2 => by omega⟩ ?_
    rintro _ _ _ ⟨i, hi, rfl, hm, rfl, hno⟩
    replace hm := hm.symm
    subst hm
    simp only [RB.ref22_On_1, pt, go_sem, Int.reduceBEq, Int.reduceBNe, Int.reduceNeg, reduceCtorEq, Nat.reduceEqDiff, Nat.reduceAdd, Nat.reduceLeDiff, Nat.reduceMul, Nat.reduceSub, Int.reduceToNat, Int.reduceLT, Int.reduceLE, load_w, load_a, store_b, idxS_b, set_blk, new_blk, set_next, new_next, len_s, ldW_c, ldA_c, stB_c, toArr_one, size_one, toList_toArr, size_toArr, List.length_cons, List.length_nil, List.getElem?_cons_zero, List.getElem?_cons_succ, Nat.zero_add, Nat.add_zero, hb.at_, hp1.len]
    have s1 := step1 (show i < 1000000 by omega)
    by_cases g1 : i < x.pieces.length
    · have e1 : decide ((i : Int) < (x.pieces.length : Int)) = true := decide_eq_true (by omega)
      obtain ⟨b, o, a1, a2, a3, a4⟩ := hp1.elem g1
      have a30 := a3 0 (by omega)
      simp only [pcV, Nat.add_zero, List.getElem?_cons_zero] at a30
      try simp only [go_sem, Int.reduceBEq, Int.reduceBNe, Int.reduceNeg, reduceCtorEq, Nat.reduceEqDiff, Nat.reduceAdd, Nat.reduceLeDiff, Nat.reduceMul, Nat.reduceSub, Int.reduceToNat, Int.reduceLT, Int.reduceLE, load_w, load_a, store_b, idxS_b, set_blk, new_blk, set_next, new_next, len_s, ldW_c, ldA_c, stB_c, toArr_one, size_one, toList_toArr, size_toArr, List.length_cons, List.length_nil, List.getElem?_cons_zero, List.getElem?_cons_succ, Nat.zero_add, Nat.add_zero, e1, a1, a30, hb.at_]
      by_cases g2 : x.pieces[i].1 = c
      · have e2 : (x.pieces[i].1 == c) = true := by rw [beq_iff_eq]; exact g2
        have e3 : onP x c = true := by rw [e, List.any_eq_true]; exact ⟨_, List.getElem_mem g1, e2⟩
        try simp only [go_sem, Int.reduceBEq, Int.reduceBNe, Int.reduceNeg, reduceCtorEq, Nat.reduceEqDiff, Nat.reduceAdd, Nat.reduceLeDiff, Nat.reduceMul, Nat.reduceSub, Int.reduceToNat, Int.reduceLT, Int.reduceLE, load_w, load_a, store_b, idxS_b, set_blk, new_blk, set_next, new_next, len_s, ldW_c, ldA_c, stB_c, toArr_one, size_one, toList_toArr, size_toArr, List.length_cons, List.length_nil, List.getElem?_cons_zero, List.getElem?_cons_succ, Nat.zero_add, Nat.add_zero, e2, e3]
        first | exact hx | exact ⟨rfl, hx⟩
      · have e2 : (x.pieces[i].1 == c) = false := by rw [beq_eq_false_iff_ne]; exact g2
        try simp only [go_sem, Int.reduceBEq, Int.reduceBNe, Int.reduceNeg, reduceCtorEq, Nat.reduceEqDiff, Nat.reduceAdd, Nat.reduceLeDiff, Nat.reduceMul, Nat.reduceSub, Int.reduceToNat, Int.reduceLT, Int.reduceLE, load_w, load_a, store_b, idxS_b, set_blk, new_blk, set_next, new_next, len_s, ldW_c, ldA_c, stB_c, toArr_one, size_one, toList_toArr, size_toArr, List.length_cons, List.length_nil, List.getElem?_cons_zero, List.getElem?_cons_succ, Nat.zero_add, Nat.add_zero, e2, s1]
        refine ⟨x.pieces.length - (i + 1), by omega, i + 1, by omega, rfl, rfl, fun t h ht => ?_⟩
        by_cases et : t = i
        · subst et; exact g2
        · exact hno t h (by omega)
    · have e1 : decide ((i : Int) < (x.pieces.length : Int)) = false := decide_eq_false (by omega)
      have e3 : onP x c = false := by
        rw [e, List.any_eq_false]
        intro q hq
        obtain ⟨t, ht, rfl⟩ := List.getElem_of_mem hq
        have := hno t ht (by omega)
        simpa using this
      try simp only [go_sem, Int.reduceBEq, Int.reduceBNe, Int.reduceNeg, reduceCtorEq, Nat.reduceEqDiff, Nat.reduceAdd, Nat.reduceLeDiff, Nat.reduceMul, Nat.reduceSub, Int.reduceToNat, Int.reduceLT, Int.reduceLE, load_w, load_a, store_b, idxS_b, set_blk, new_blk, set_next, new_next, len_s, ldW_c, ldA_c, stB_c, toArr_one, size_one, toList_toArr, size_toArr, List.length_cons, List.length_nil, List.getElem?_cons_zero, List.getElem?_cons_succ, Nat.zero_add, Nat.add_zero, e1, e3]
      first | exact hx | exact ⟨rfl, hx⟩

def refMov (x y : Pl) : Prop := ∃ c : Nat, c < 16 ∧ (onP x c ≠ onP y c ∨ ∃ t : Nat, t < 64 ∧ x.pieces.countP (atB c t) ≠ y.pieces.countP (atB c t))

/-- The ticks of one core. -/
theorem refMov_loop {x y : Pl} {pv qv : Value} {bx b_y : Nat} {c : Nat} (hc : c < 16) (hx : Bk m bx (plV x pv) 4) (hy : Bk m b_y (plV y qv) 4) (px : PcV m x.pieces pv) (py : PcV m y.pieces qv) (lx : x.pieces.length < 1000000) (ly : y.pieces.length < 1000000) :
    WL R [2, 3, 5, 6] RB.ref22_Moved_1 [(2, pt bx), (3, pt b_y), (5, .int .i64 c), (6, .int .i64 0)] m fun z e m' => Ext m m' ∧
      ((z = .exit 2 ∧ (∀ t : Nat, t < 64 → x.pieces.countP (atB c t) = y.pieces.countP (atB c t)) ∧ ∃ rs, e = (2, pt bx) :: (3, pt b_y) :: (5, .int .i64 c) :: rs) ∨
       (z = .ret ∧ e = [(4, .bool true)] ∧ ∃ t : Nat, t < 64 ∧ x.pieces.countP (atB c t) ≠ y.pieces.countP (atB c t))) := by
  refine WL.of (fun n e m' => ∃ i : Nat, i ≤ 64 ∧ n = 64 - i ∧ Ext m m' ∧ e = [(2, pt bx), (3, pt b_y), (5, .int .i64 c), (6, .int .i64 i)] ∧ ∀ t : Nat, t < i → x.pieces.countP (atB c t) = y.pieces.countP (atB c t)) 64
    ⟨0, by omega, by omega, Ext.refl _, by simp only [go_sem, Int.reduceBEq, Int.reduceBNe, Int.reduceNeg, reduceCtorEq, Nat.reduceEqDiff, Nat.reduceAdd, Nat.reduceLeDiff, Nat.reduceMul, Nat.reduceSub, Int.reduceToNat, Int.reduceLT, Int.reduceLE] <;> rfl, fun t h => by omega⟩ ?_
  rintro _ _ m1 ⟨i, hi, rfl, hx1, rfl, hall⟩
  have hxx := hx.keep hx1
  have hyy := hy.keep hx1
  have hxq := hxx
  have hyq := hyy
  simp only [plV] at hxq hyq
  simp only [RB.ref22_Moved_1, pt, go_sem, Int.reduceBEq, Int.reduceBNe, Int.reduceNeg, reduceCtorEq, Nat.reduceEqDiff, Nat.reduceAdd, Nat.reduceLeDiff, Nat.reduceMul, Nat.reduceSub, Int.reduceToNat, Int.reduceLT, Int.reduceLE, load_w, load_a, store_b, idxS_b, set_blk, new_blk, set_next, new_next, len_s, ldW_c, ldA_c, stB_c, toArr_one, size_one, toList_toArr, size_toArr, List.length_cons, List.length_nil, List.getElem?_cons_zero, List.getElem?_cons_succ, Nat.zero_add, Nat.add_zero, hxq.at_, px.one, py.one]
  have s1 := step1 (show i < 1000000 by omega)
  by_cases g1 : i < 64
  · have e1 : decide ((i : Int) < 64) = true := decide_eq_true (by omega)
    try simp only [go_sem, Int.reduceBEq, Int.reduceBNe, Int.reduceNeg, reduceCtorEq, Nat.reduceEqDiff, Nat.reduceAdd, Nat.reduceLeDiff, Nat.reduceMul, Nat.reduceSub, Int.reduceToNat, Int.reduceLT, Int.reduceLE, load_w, load_a, store_b, idxS_b, set_blk, new_blk, set_next, new_next, len_s, ldW_c, ldA_c, stB_c, toArr_one, size_one, toList_toArr, size_toArr, List.length_cons, List.length_nil, List.getElem?_cons_zero, List.getElem?_cons_succ, Nat.zero_add, Nat.add_zero, e1, hxq.at_, hyq.at_]
    refine gC.of (At_spec (x := x) (c := (c : Int)) (t := (i : Int)) ⟨pv, rfl, px.keep hx1⟩ lx) ?_
    rintro _ m2 ⟨rfl, hx2⟩
    have hyq2 := hyq.keep hx2
    have hk2 : m2.blk b_y = m1.blk b_y := hx2.same b_y hyq.lt
    try simp only [go_sem, Int.reduceBEq, Int.reduceBNe, Int.reduceNeg, reduceCtorEq, Nat.reduceEqDiff, Nat.reduceAdd, Nat.reduceLeDiff, Nat.reduceMul, Nat.reduceSub, Int.reduceToNat, Int.reduceLT, Int.reduceLE, load_w, load_a, store_b, idxS_b, set_blk, new_blk, set_next, new_next, len_s, ldW_c, ldA_c, stB_c, toArr_one, size_one, toList_toArr, size_toArr, List.length_cons, List.length_nil, List.getElem?_cons_zero, List.getElem?_cons_succ, Nat.zero_add, Nat.add_zero, watchOk_cons, watchOk_nil, blkOf_ptr, hk2, hyq2.at_, hyq.at_]
    refine gC.of (At_spec (x := y) (c := (c : Int)) (t := (i : Int)) ⟨qv, rfl, (py.keep hx1).keep hx2⟩ ly) ?_
    rintro _ m3 ⟨rfl, hx3⟩
    have hx13 := (hx1.trans hx2).trans hx3
    by_cases g2 : x.pieces.countP (atB c i) = y.pieces.countP (atB c i)
    · have e2 : (((x.pieces.countP (atB c i) : Nat) : Int) != ((y.pieces.countP (atB c i) : Nat) : Int)) = false := by rw [bne_eq_false_iff_eq, g2]
      try simp only [go_sem, Int.reduceBEq, Int.reduceBNe, Int.reduceNeg, reduceCtorEq, Nat.reduceEqDiff, Nat.reduceAdd, Nat.reduceLeDiff, Nat.reduceMul, Nat.reduceSub, Int.reduceToNat, Int.reduceLT, Int.reduceLE, load_w, load_a, store_b, idxS_b, set_blk, new_blk, set_next, new_next, len_s, ldW_c, ldA_c, stB_c, toArr_one, size_one, toList_toArr, size_toArr, List.length_cons, List.length_nil, List.getElem?_cons_zero, List.getElem?_cons_succ, Nat.zero_add, Nat.add_zero, e2, s1]
      refine ⟨64 - (i + 1), by omega, i + 1, by omega, rfl, hx13, rfl, fun t ht => ?_⟩
      by_cases et : t = i
      · subst et; exact g2
      · exact hall t (by omega)
    · have e2 : (((x.pieces.countP (atB c i) : Nat) : Int) != ((y.pieces.countP (atB c i) : Nat) : Int)) = true := by rw [bne_iff_ne]; exact fun e => g2 (by omega)
      try simp only [go_sem, Int.reduceBEq, Int.reduceBNe, Int.reduceNeg, reduceCtorEq, Nat.reduceEqDiff, Nat.reduceAdd, Nat.reduceLeDiff, Nat.reduceMul, Nat.reduceSub, Int.reduceToNat, Int.reduceLT, Int.reduceLE, load_w, load_a, store_b, idxS_b, set_blk, new_blk, set_next, new_next, len_s, ldW_c, ldA_c, stB_c, toArr_one, size_one, toList_toArr, size_toArr, List.length_cons, List.length_nil, List.getElem?_cons_zero, List.getElem?_cons_succ, Nat.zero_add, Nat.add_zero, e2]
      exact ⟨hx13, .inr ⟨i, by omega, g2⟩⟩
  · have e1 : decide ((i : Int) < 64) = false := decide_eq_false (by omega)
    have hi64 : i = 64 := by omega
    subst hi64
    try simp only [go_sem, Int.reduceBEq, Int.reduceBNe, Int.reduceNeg, reduceCtorEq, Nat.reduceEqDiff, Nat.reduceAdd, Nat.reduceLeDiff, Nat.reduceMul, Nat.reduceSub, Int.reduceToNat, Int.reduceLT, Int.reduceLE, load_w, load_a, store_b, idxS_b, set_blk, new_blk, set_next, new_next, len_s, ldW_c, ldA_c, stB_c, toArr_one, size_one, toList_toArr, size_toArr, List.length_cons, List.length_nil, List.getElem?_cons_zero, List.getElem?_cons_succ, Nat.zero_add, Nat.add_zero, e1]
    exact ⟨hx1, .inl ⟨hall, _, rfl⟩⟩

theorem refMoved_spec {x y : Pl} {v w : Value} (hv : PlV m x v) (hw : PlV m y w) (lx : x.pieces.length < 1000000) (ly : y.pieces.length < 1000000) :
    WC R F.ref22_Moved [v, w] m fun r m' => r = .bool (decide (refMov x y)) ∧ Ext m m' := by
  refine WC.of R.ref22_Moved rfl ?_
  obtain ⟨pv, rfl, px⟩ := hv
  obtain ⟨qv, rfl, py⟩ := hw
  simp only [RC.ref22_Moved, plV, go_sem, Int.reduceBEq, Int.reduceBNe, Int.reduceNeg, reduceCtorEq, Nat.reduceEqDiff, Nat.reduceAdd, Nat.reduceLeDiff, Nat.reduceMul, Nat.reduceSub, Int.reduceToNat, Int.reduceLT, Int.reduceLE, px.one, py.one]
  have hx1 : Ext m (m.new (.cells [.int .i64 x.unit, .int .i64 x.share, .int .i64 x.core, pv] (some 4))) := Ext.new
  have hb1 : Bk (m.new (.cells [.int .i64 x.unit, .int .i64 x.share, .int .i64 x.core, pv] (some 4))) m.next [.int .i64 x.unit, .int .i64 x.share, .int .i64 x.core, pv] 4 := Bk.new
  generalize m.new (.cells [.int .i64 x.unit, .int .i64 x.share, .int .i64 x.core, pv] (some 4)) = m1 at hx1 hb1 ⊢
  have hx2 : Ext m1 (m1.new (.cells [.int .i64 y.unit, .int .i64 y.share, .int .i64 y.core, qv] (some 4))) := Ext.new
  have hb2 : Bk (m1.new (.cells [.int .i64 y.unit, .int .i64 y.share, .int .i64 y.core, qv] (some 4))) m1.next [.int .i64 y.unit, .int .i64 y.share, .int .i64 y.core, qv] 4 := Bk.new
  generalize m1.new (.cells [.int .i64 y.unit, .int .i64 y.share, .int .i64 y.core, qv] (some 4)) = m2 at hx2 hb2 ⊢
  have hb12 := hb1.keep hx2
  have hX := hx1.trans hx2
  have px2 := px.keep hX
  have py2 := py.keep hX
  refine WL.of (fun n e m' => ∃ c : Nat, c ≤ 16 ∧ n = 16 - c ∧ Ext m2 m' ∧ e = [(2, pt m.next), (3, pt m1.next), (5, .int .i64 c)] ∧ ∀ k : Nat, k < c → ¬ (onP x k ≠ onP y k ∨ ∃ t : Nat, t < 64 ∧ x.pieces.countP (atB k t) ≠ y.pieces.countP (atB k t))) 16
    ⟨0, by omega, by omega, Ext.refl _, by simp only [go_sem, Int.reduceBEq, Int.reduceBNe, Int.reduceNeg, reduceCtorEq, Nat.reduceEqDiff, Nat.reduceAdd, Nat.reduceLeDiff, Nat.reduceMul, Nat.reduceSub, Int.reduceToNat, Int.reduceLT, Int.reduceLE] <;> rfl, fun t h => by omega⟩ ?_
  rintro _ _ m3 ⟨c, hc, rfl, hx3, rfl, hall⟩
  have hbx := hb12.keep hx3
  have hby := hb2.keep hx3
  simp only [RB.ref22_Moved_2, pt, go_sem, Int.reduceBEq, Int.reduceBNe, Int.reduceNeg, reduceCtorEq, Nat.reduceEqDiff, Nat.reduceAdd, Nat.reduceLeDiff, Nat.reduceMul, Nat.reduceSub, Int.reduceToNat, Int.reduceLT, Int.reduceLE, load_w, load_a, store_b, idxS_b, set_blk, new_blk, set_next, new_next, len_s, ldW_c, ldA_c, stB_c, toArr_one, size_one, toList_toArr, size_toArr, List.length_cons, List.length_nil, List.getElem?_cons_zero, List.getElem?_cons_succ, Nat.zero_add, Nat.add_zero, hbx.at_, px.one, py.one]
  have s1 := step1 (show c < 1000000 by omega)
  by_cases g1 : c < 16
  · have e1 : decide ((c : Int) < 16) = true := decide_eq_true (by omega)
    try simp only [go_sem, Int.reduceBEq, Int.reduceBNe, Int.reduceNeg, reduceCtorEq, Nat.reduceEqDiff, Nat.reduceAdd, Nat.reduceLeDiff, Nat.reduceMul, Nat.reduceSub, Int.reduceToNat, Int.reduceLT, Int.reduceLE, load_w, load_a, store_b, idxS_b, set_blk, new_blk, set_next, new_next, len_s, ldW_c, ldA_c, stB_c, toArr_one, size_one, toList_toArr, size_toArr, List.length_cons, List.length_nil, List.getElem?_cons_zero, List.getElem?_cons_succ, Nat.zero_add, Nat.add_zero, e1, hbx.at_, hby.at_]
    refine gC.of (On_spec (x := x) (c := (c : Int)) ⟨pv, rfl, px2.keep hx3⟩ lx) ?_
    rintro _ m4 ⟨rfl, hx4⟩
    have hk4 : m4.blk m1.next = m3.blk m1.next := hx4.same m1.next hby.lt
    try simp only [go_sem, Int.reduceBEq, Int.reduceBNe, Int.reduceNeg, reduceCtorEq, Nat.reduceEqDiff, Nat.reduceAdd, Nat.reduceLeDiff, Nat.reduceMul, Nat.reduceSub, Int.reduceToNat, Int.reduceLT, Int.reduceLE, load_w, load_a, store_b, idxS_b, set_blk, new_blk, set_next, new_next, len_s, ldW_c, ldA_c, stB_c, toArr_one, size_one, toList_toArr, size_toArr, List.length_cons, List.length_nil, List.getElem?_cons_zero, List.getElem?_cons_succ, Nat.zero_add, Nat.add_zero, watchOk_cons, watchOk_nil, blkOf_ptr, hk4]
    refine gC.of (On_spec (x := y) (c := (c : Int)) ⟨qv, rfl, (py2.keep hx3).keep hx4⟩ ly) ?_
    rintro _ m5 ⟨rfl, hx5⟩
    have hx35 := (hx3.trans hx4).trans hx5
    by_cases g2 : onP x c = onP y c
    · have e2 : (!(onP x c == onP y c)) = false := by rw [g2]; simp
      have hbx5 := (hbx.keep hx4).keep hx5
      have hby5 := (hby.keep hx4).keep hx5
      try simp only [go_sem, Int.reduceBEq, Int.reduceBNe, Int.reduceNeg, reduceCtorEq, Nat.reduceEqDiff, Nat.reduceAdd, Nat.reduceLeDiff, Nat.reduceMul, Nat.reduceSub, Int.reduceToNat, Int.reduceLT, Int.reduceLE, load_w, load_a, store_b, idxS_b, set_blk, new_blk, set_next, new_next, len_s, ldW_c, ldA_c, stB_c, toArr_one, size_one, toList_toArr, size_toArr, List.length_cons, List.length_nil, List.getElem?_cons_zero, List.getElem?_cons_succ, Nat.zero_add, Nat.add_zero, e2]
      refine WL.mono (refMov_loop (x := x) (y := y) g1 hbx5 hby5 (px2.keep hx35) (py2.keep hx35) lx ly) ?_
      rintro _ _ m6 ⟨hx6, ⟨rfl, hall6, rs, rfl⟩ | ⟨rfl, rfl, t, ht, hne⟩⟩
      · try simp only [go_sem, Int.reduceBEq, Int.reduceBNe, Int.reduceNeg, reduceCtorEq, Nat.reduceEqDiff, Nat.reduceAdd, Nat.reduceLeDiff, Nat.reduceMul, Nat.reduceSub, Int.reduceToNat, Int.reduceLT, Int.reduceLE, load_w, load_a, store_b, idxS_b, set_blk, new_blk, set_next, new_next, len_s, ldW_c, ldA_c, stB_c, toArr_one, size_one, toList_toArr, size_toArr, List.length_cons, List.length_nil, List.getElem?_cons_zero, List.getElem?_cons_succ, Nat.zero_add, Nat.add_zero, s1]
        refine ⟨16 - (c + 1), by omega, c + 1, by omega, rfl, hx35.trans hx6, rfl, fun k hk => ?_⟩
        by_cases ek : k = c
        · subst ek
          rintro (h | ⟨t, ht, h⟩)
          · exact h g2
          · exact h (hall6 t ht)
        · exact hall k (by omega)
      · have e3 : decide (refMov x y) = true := decide_eq_true ⟨c, g1, .inr ⟨t, ht, hne⟩⟩
        try simp only [go_sem, Int.reduceBEq, Int.reduceBNe, Int.reduceNeg, reduceCtorEq, Nat.reduceEqDiff, Nat.reduceAdd, Nat.reduceLeDiff, Nat.reduceMul, Nat.reduceSub, Int.reduceToNat, Int.reduceLT, Int.reduceLE, load_w, load_a, store_b, idxS_b, set_blk, new_blk, set_next, new_next, len_s, ldW_c, ldA_c, stB_c, toArr_one, size_one, toList_toArr, size_toArr, List.length_cons, List.length_nil, List.getElem?_cons_zero, List.getElem?_cons_succ, Nat.zero_add, Nat.add_zero, e3]
        first | exact hX.trans (hx35.trans hx6) | exact ⟨rfl, hX.trans (hx35.trans hx6)⟩
    · have e2 : (!(onP x c == onP y c)) = true := by
        have : (onP x c == onP y c) = false := by rw [beq_eq_false_iff_ne]; exact g2
        rw [this]; rfl
      have e3 : decide (refMov x y) = true := decide_eq_true ⟨c, g1, .inl g2⟩
      try simp only [go_sem, Int.reduceBEq, Int.reduceBNe, Int.reduceNeg, reduceCtorEq, Nat.reduceEqDiff, Nat.reduceAdd, Nat.reduceLeDiff, Nat.reduceMul, Nat.reduceSub, Int.reduceToNat, Int.reduceLT, Int.reduceLE, load_w, load_a, store_b, idxS_b, set_blk, new_blk, set_next, new_next, len_s, ldW_c, ldA_c, stB_c, toArr_one, size_one, toList_toArr, size_toArr, List.length_cons, List.length_nil, List.getElem?_cons_zero, List.getElem?_cons_succ, Nat.zero_add, Nat.add_zero, e2, e3]
      first | exact hX.trans hx35 | exact ⟨rfl, hX.trans hx35⟩
  · have e1 : decide ((c : Int) < 16) = false := decide_eq_false (by omega)
    have e3 : decide (refMov x y) = false := decide_eq_false (fun ⟨k, hk, h⟩ => hall k (by omega) h)
    try simp only [go_sem, Int.reduceBEq, Int.reduceBNe, Int.reduceNeg, reduceCtorEq, Nat.reduceEqDiff, Nat.reduceAdd, Nat.reduceLeDiff, Nat.reduceMul, Nat.reduceSub, Int.reduceToNat, Int.reduceLT, Int.reduceLE, load_w, load_a, store_b, idxS_b, set_blk, new_blk, set_next, new_next, len_s, ldW_c, ldA_c, stB_c, toArr_one, size_one, toList_toArr, size_toArr, List.length_cons, List.length_nil, List.getElem?_cons_zero, List.getElem?_cons_succ, Nat.zero_add, Nat.add_zero, e1, e3]
    first | exact hX.trans hx3 | exact ⟨rfl, hX.trans hx3⟩
end Go.Am


/- Diff: the reference's units. -/
set_option linter.unusedVariables false
set_option linter.unusedSimpArgs false
namespace Go.Am
open Classical
variable {m : Mem}

/-- The units of two plans, up to a number. -/
noncomputable def unitsL (a b : List Pl) : Nat → List Int
  | 0 => []
  | n + 1 => unitsL a b n ++ (if hasU a (n + 1 : Nat) ∨ hasU b (n + 1 : Nat) then [((n + 1 : Nat) : Int)] else [])
theorem unitsL_len {a b : List Pl} : ∀ n, (unitsL a b n).length ≤ n
  | 0 => Nat.le_refl _
  | n + 1 => by
    have := unitsL_len (a := a) (b := b) n
    unfold unitsL
    split <;> simp <;> omega

set_option maxHeartbeats 4000000 in
theorem Units_spec {p q : PlanD} {v w : Value} (hv : PlanV m p v) (hw : PlanV m q w) (hl : PlanL p) (hk : PlanL q) (ha : Asc p.places) (hb : Asc q.places) :
    WC R F.ref22_Units [v, w] m fun r m' => Own m m' 1 (unitsL p.places q.places 1040).length (intsZ (unitsL p.places q.places 1040)) r ∧ Ext m m' := by
  refine WC.of R.ref22_Units rfl ?_
  obtain ⟨pv, rfl, hp⟩ := hv
  obtain ⟨qv, rfl, hq⟩ := hw
  simp only [RC.ref22_Units, planV, go_sem, Int.reduceBEq, Int.reduceBNe, Int.reduceNeg, reduceCtorEq, Nat.reduceEqDiff, Nat.reduceAdd, Nat.reduceLeDiff, Nat.reduceMul, Nat.reduceSub, Int.reduceToNat, Int.reduceLT, Int.reduceLE, hp.one, hq.one]
  have hx1 : Ext m (m.new (.cells [.int .i64 p.frame, u32 p.cores, pv] (some 3))) := Ext.new
  have hb1 : Bk (m.new (.cells [.int .i64 p.frame, u32 p.cores, pv] (some 3))) m.next [.int .i64 p.frame, u32 p.cores, pv] 3 := Bk.new
  generalize m.new (.cells [.int .i64 p.frame, u32 p.cores, pv] (some 3)) = m1 at hx1 hb1 ⊢
  have hx2 : Ext m1 (m1.new (.cells [.int .i64 q.frame, u32 q.cores, qv] (some 3))) := Ext.new
  have hb2 : Bk (m1.new (.cells [.int .i64 q.frame, u32 q.cores, qv] (some 3))) m1.next [.int .i64 q.frame, u32 q.cores, qv] 3 := Bk.new
  generalize m1.new (.cells [.int .i64 q.frame, u32 q.cores, qv] (some 3)) = m2 at hx2 hb2 ⊢
  have hb12 := hb1.keep hx2
  have hX := hx1.trans hx2
  have hp2 := hp.keep hX
  have hq2 := hq.keep hX
  have hx3 : Ext m2 (m2.new (.cells [] (some 1))) := Ext.new
  have ho3 : Own m2 (m2.new (.cells [] (some 1))) 1 0 [] (.slice (some ⟨m2.next, 0, none⟩) 0 0) := .at (all := []) (Nat.le_refl _) (by simp [Mem.new]) (Nat.le_refl _) (by simp [Mem.new]) rfl rfl rfl
  generalize m2.new (.cells [] (some 1)) = m3 at hx3 ho3 ⊢
  refine WL.of (fun n e m' => ∃ (i : Nat) (z : Value), i ≤ 1040 ∧ n = 1040 - i ∧ e = [(2, pt m.next), (3, pt m1.next), (5, z), (6, .int .i64 ((i + 1 : Nat) : Int))] ∧ Own m2 m' 1 (unitsL p.places q.places i).length (intsZ (unitsL p.places q.places i)) z ∧ Ext m2 m') 1040
    ⟨0, _, by omega, by omega, by simp only [go_sem, Int.reduceBEq, Int.reduceBNe, Int.reduceNeg, reduceCtorEq, Nat.reduceEqDiff, Nat.reduceAdd, Nat.reduceLeDiff, Nat.reduceMul, Nat.reduceSub, Int.reduceToNat, Int.reduceLT, Int.reduceLE] <;> rfl, ho3, hx3⟩ ?_
  rintro _ _ m4 ⟨i, z, hi, rfl, rfl, ho, hx4⟩
  have hbx := hb12.keep hx4
  have hby := hb2.keep hx4
  simp only [RB.ref22_Units_1, pt, go_sem, Int.reduceBEq, Int.reduceBNe, Int.reduceNeg, reduceCtorEq, Nat.reduceEqDiff, Nat.reduceAdd, Nat.reduceLeDiff, Nat.reduceMul, Nat.reduceSub, Int.reduceToNat, Int.reduceLT, Int.reduceLE, load_w, load_a, store_b, idxS_b, set_blk, new_blk, set_next, new_next, len_s, ldW_c, ldA_c, stB_c, toArr_one, size_one, toList_toArr, size_toArr, List.length_cons, List.length_nil, List.getElem?_cons_zero, List.getElem?_cons_succ, Nat.zero_add, Nat.add_zero, hbx.at_]
  have s1 := step1 (show i + 1 < 1000000 by omega)
  by_cases g1 : i < 1040
  · have e1 : decide (((i + 1 : Nat) : Int) ≤ 1040) = true := decide_eq_true (by omega)
    try simp only [go_sem, Int.reduceBEq, Int.reduceBNe, Int.reduceNeg, reduceCtorEq, Nat.reduceEqDiff, Nat.reduceAdd, Nat.reduceLeDiff, Nat.reduceMul, Nat.reduceSub, Int.reduceToNat, Int.reduceLT, Int.reduceLE, load_w, load_a, store_b, idxS_b, set_blk, new_blk, set_next, new_next, len_s, ldW_c, ldA_c, stB_c, toArr_one, size_one, toList_toArr, size_toArr, List.length_cons, List.length_nil, List.getElem?_cons_zero, List.getElem?_cons_succ, Nat.zero_add, Nat.add_zero, e1, hbx.at_]
    refine gC.of (refFind_spec (p := p) (u := ((i + 1 : Nat) : Int)) ⟨pv, rfl, hp2.keep hx4⟩ hl ha) ?_
    rintro _ m5 ⟨xw, rfl, ⟨xv, rfl, hxv⟩, hx5⟩
    have hby5 := hby.keep hx5
    simp only [plV]
    have hbn5 := hby5.ne
    try simp only [go_sem, Int.reduceBEq, Int.reduceBNe, Int.reduceNeg, reduceCtorEq, Nat.reduceEqDiff, Nat.reduceAdd, Nat.reduceLeDiff, Nat.reduceMul, Nat.reduceSub, Int.reduceToNat, Int.reduceLT, Int.reduceLE, load_w, load_a, store_b, idxS_b, set_blk, new_blk, set_next, new_next, len_s, ldW_c, ldA_c, stB_c, toArr_one, size_one, toList_toArr, size_toArr, List.length_cons, List.length_nil, List.getElem?_cons_zero, List.getElem?_cons_succ, Nat.zero_add, Nat.add_zero, aExt0, aExt1, hxv.one, hby5.at_, hbn5]
    generalize findP p.places ((i + 1 : Nat) : Int) = xx at *
    have hx6 : Ext m5 (m5.new (.cells [.int .i64 xx.unit, .int .i64 xx.share, .int .i64 xx.core, xv] (some 4))) := Ext.new
    have hc6 : Bk (m5.new (.cells [.int .i64 xx.unit, .int .i64 xx.share, .int .i64 xx.core, xv] (some 4))) m5.next [.int .i64 xx.unit, .int .i64 xx.share, .int .i64 xx.core, xv] 4 := Bk.new
    generalize m5.new (.cells [.int .i64 xx.unit, .int .i64 xx.share, .int .i64 xx.core, xv] (some 4)) = m6 at hx6 hc6 ⊢
    refine gC.of (refFind_spec (p := q) (u := ((i + 1 : Nat) : Int)) ⟨qv, rfl, ((hq2.keep hx4).keep hx5).keep hx6⟩ hk hb) ?_
    rintro _ m7 ⟨yw, rfl, ⟨yv, rfl, hyv⟩, hx7⟩
    simp only [plV]
    try simp only [go_sem, Int.reduceBEq, Int.reduceBNe, Int.reduceNeg, reduceCtorEq, Nat.reduceEqDiff, Nat.reduceAdd, Nat.reduceLeDiff, Nat.reduceMul, Nat.reduceSub, Int.reduceToNat, Int.reduceLT, Int.reduceLE, load_w, load_a, store_b, idxS_b, set_blk, new_blk, set_next, new_next, len_s, ldW_c, ldA_c, stB_c, toArr_one, size_one, toList_toArr, size_toArr, List.length_cons, List.length_nil, List.getElem?_cons_zero, List.getElem?_cons_succ, Nat.zero_add, Nat.add_zero, aExt0, aExt1, hyv.one]
    generalize findP q.places ((i + 1 : Nat) : Int) = yy at *
    have hx8 : Ext m7 (m7.new (.cells [.int .i64 yy.unit, .int .i64 yy.share, .int .i64 yy.core, yv] (some 4))) := Ext.new
    have hc8 : Bk (m7.new (.cells [.int .i64 yy.unit, .int .i64 yy.share, .int .i64 yy.core, yv] (some 4))) m7.next [.int .i64 yy.unit, .int .i64 yy.share, .int .i64 yy.core, yv] 4 := Bk.new
    generalize m7.new (.cells [.int .i64 yy.unit, .int .i64 yy.share, .int .i64 yy.core, yv] (some 4)) = m8 at hx8 hc8 ⊢
    have hx58 := ((hx5.trans hx6).trans hx7).trans hx8
    have ho8 := ho.keep hx58
    have hx28 := hx4.trans hx58
    have hul := unitsL_len (a := p.places) (b := q.places) i
    by_cases g2 : hasU p.places ((i + 1 : Nat) : Int) ∨ hasU q.places ((i + 1 : Nat) : Int)
    · have hstep : unitsL p.places q.places (i + 1) = unitsL p.places q.places i ++ [((i + 1 : Nat) : Int)] := by
        show unitsL p.places q.places i ++ _ = _
        rw [if_pos g2]
      obtain ⟨v', m9, p1, p2, p3⟩ := ho8.app (by_ := 8) (es := [.int .i64 ((i + 1 : Nat) : Int)]) hx28 (by omega) rfl rfl (by omega) (by omega)
      have fin : ∃ n', n' < 1040 - i ∧ ∃ (j : Nat) (z : Value), j ≤ 1040 ∧ n' = 1040 - j ∧ ([(2, pt m.next), (3, pt m1.next), (5, v'), (6, .int .i64 ((i + 1 + 1 : Nat) : Int))] : Env) = [(2, pt m.next), (3, pt m1.next), (5, z), (6, .int .i64 ((j + 1 : Nat) : Int))] ∧ Own m2 m9 1 (unitsL p.places q.places j).length (intsZ (unitsL p.places q.places j)) z ∧ Ext m2 m9 := by
        refine ⟨1040 - (i + 1), by omega, i + 1, v', by omega, rfl, rfl, ?_, p3⟩
        rw [hstep, List.length_append]
        unfold intsZ at p2 ⊢
        rw [List.map_append]; exact p2
      by_cases g3 : hasU p.places ((i + 1 : Nat) : Int)
      · try simp only [go_sem, Int.reduceBEq, Int.reduceBNe, Int.reduceNeg, reduceCtorEq, Nat.reduceEqDiff, Nat.reduceAdd, Nat.reduceLeDiff, Nat.reduceMul, Nat.reduceSub, Int.reduceToNat, Int.reduceLT, Int.reduceLE, load_w, load_a, store_b, idxS_b, set_blk, new_blk, set_next, new_next, len_s, ldW_c, ldA_c, stB_c, toArr_one, size_one, toList_toArr, size_toArr, List.length_cons, List.length_nil, List.getElem?_cons_zero, List.getElem?_cons_succ, Nat.zero_add, Nat.add_zero, decide_eq_true g3, p1, s1]
        exact fin
      · have g4 : hasU q.places ((i + 1 : Nat) : Int) := g2.resolve_left g3
        try simp only [go_sem, Int.reduceBEq, Int.reduceBNe, Int.reduceNeg, reduceCtorEq, Nat.reduceEqDiff, Nat.reduceAdd, Nat.reduceLeDiff, Nat.reduceMul, Nat.reduceSub, Int.reduceToNat, Int.reduceLT, Int.reduceLE, load_w, load_a, store_b, idxS_b, set_blk, new_blk, set_next, new_next, len_s, ldW_c, ldA_c, stB_c, toArr_one, size_one, toList_toArr, size_toArr, List.length_cons, List.length_nil, List.getElem?_cons_zero, List.getElem?_cons_succ, Nat.zero_add, Nat.add_zero, decide_eq_false g3, decide_eq_true g4, p1, s1]
        exact fin
    · have hstep : unitsL p.places q.places (i + 1) = unitsL p.places q.places i := by
        show unitsL p.places q.places i ++ _ = _
        rw [if_neg g2, List.append_nil]
      have g3 : ¬ hasU p.places ((i + 1 : Nat) : Int) := fun h => g2 (.inl h)
      have g4 : ¬ hasU q.places ((i + 1 : Nat) : Int) := fun h => g2 (.inr h)
      try simp only [go_sem, Int.reduceBEq, Int.reduceBNe, Int.reduceNeg, reduceCtorEq, Nat.reduceEqDiff, Nat.reduceAdd, Nat.reduceLeDiff, Nat.reduceMul, Nat.reduceSub, Int.reduceToNat, Int.reduceLT, Int.reduceLE, load_w, load_a, store_b, idxS_b, set_blk, new_blk, set_next, new_next, len_s, ldW_c, ldA_c, stB_c, toArr_one, size_one, toList_toArr, size_toArr, List.length_cons, List.length_nil, List.getElem?_cons_zero, List.getElem?_cons_succ, Nat.zero_add, Nat.add_zero, decide_eq_false g3, decide_eq_false g4, s1]
      exact ⟨1040 - (i + 1), by omega, i + 1, z, by omega, rfl, rfl, by rw [hstep]; exact ho8, hx28⟩
  · have e1 : decide (((i + 1 : Nat) : Int) ≤ 1040) = false := decide_eq_false (by omega)
    have hi2 : i = 1040 := by omega
    subst hi2
    try simp only [go_sem, Int.reduceBEq, Int.reduceBNe, Int.reduceNeg, reduceCtorEq, Nat.reduceEqDiff, Nat.reduceAdd, Nat.reduceLeDiff, Nat.reduceMul, Nat.reduceSub, Int.reduceToNat, Int.reduceLT, Int.reduceLE, load_w, load_a, store_b, idxS_b, set_blk, new_blk, set_next, new_next, len_s, ldW_c, ldA_c, stB_c, toArr_one, size_one, toList_toArr, size_toArr, List.length_cons, List.length_nil, List.getElem?_cons_zero, List.getElem?_cons_succ, Nat.zero_add, Nat.add_zero, e1]
    exact ⟨ho.weak hX, hX.trans hx4⟩
end Go.Am


/- Diff: the reference's lists. -/
set_option linter.unusedVariables false
set_option linter.unusedSimpArgs false
namespace Go.Am
open Classical
variable {m : Mem}

set_option maxHeartbeats 4000000 in
theorem refFindO_spec {M0 : Mem} {p : PlanD} {v : Value} {u : Int} (hv : PlanV M0 p v) (hM : Ext M0 m) (hl : PlanL p) (ha : Asc p.places) :
    WC R F.ref16_Find [v, .int .i64 u] m fun r m' => ∃ qv, r = .tuple #[.agg (plV (findP p.places u) qv).toArray, .bool (decide (hasU p.places u))] ∧ PcV M0 (findP p.places u).pieces qv ∧ Ext m m' := by
  refine WC.of R.ref16_Find rfl ?_
  obtain ⟨pv, rfl, hp⟩ := hv
  have hlen := hl.len
  simp only [RC.ref16_Find, planV, go_sem, Int.reduceBEq, Int.reduceBNe, Int.reduceNeg, reduceCtorEq, Nat.reduceEqDiff, Nat.reduceAdd, Nat.reduceLeDiff, Nat.reduceMul, Nat.reduceSub, Int.reduceToNat, Int.reduceLT, Int.reduceLE, hp.one]
  have hx : Ext m (m.new (.cells [.int .i64 p.frame, u32 p.cores, pv] (some 3))) := Ext.new
  have hb : Bk (m.new (.cells [.int .i64 p.frame, u32 p.cores, pv] (some 3))) m.next [.int .i64 p.frame, u32 p.cores, pv] 3 := Bk.new
  generalize m.new (.cells [.int .i64 p.frame, u32 p.cores, pv] (some 3)) = m1 at hx hb ⊢
  have hbn := hb.ne
  try simp only [go_sem, Int.reduceBEq, Int.reduceBNe, Int.reduceNeg, reduceCtorEq, Nat.reduceEqDiff, Nat.reduceAdd, Nat.reduceLeDiff, Nat.reduceMul, Nat.reduceSub, Int.reduceToNat, Int.reduceLT, Int.reduceLE, hbn]
  have hx2 : Ext m1 (m1.new (.cells [.int .i64 0, .int .i64 0, .int .i64 0, .slice none 0 0] (some 4))) := Ext.new
  have hb2 : Bk (m1.new (.cells [.int .i64 0, .int .i64 0, .int .i64 0, .slice none 0 0] (some 4))) m1.next [.int .i64 0, .int .i64 0, .int .i64 0, .slice none 0 0] 4 := Bk.new
  generalize m1.new (.cells [.int .i64 0, .int .i64 0, .int .i64 0, .slice none 0 0] (some 4)) = m2 at hx2 hb2 ⊢
  have hp2 := ((hp.keep hM).keep hx).keep hx2
  have hb' := hb.keep hx2
  refine WL.of (fun n e m' => ∃ i : Nat, i ≤ p.places.length ∧ n = p.places.length - i ∧ e = [(1, .int .i64 u), (2, pt m.next), (4, pt m1.next), (6, .int .i64 i)] ∧ (∀ t (h : t < p.places.length), t < i → p.places[t].unit ≠ u) ∧ m' = m2) p.places.length
    ⟨0, by omega, by omega, by simp only [go_sem, Int.reduceBEq, Int.reduceBNe, Int.reduceNeg, reduceCtorEq, Nat.reduceEqDiff, Nat.reduceAdd, Nat.reduceLeDiff, Nat.reduceMul, Nat.reduceSub, Int.reduceToNat, Int.reduceLT, Int.reduceLE] <;> rfl, fun t h h2 => by omega, rfl⟩ ?_
  rintro _ _ _ ⟨i, hi, rfl, rfl, hno, hm⟩
  replace hm := hm.symm
  subst hm
  simp only [RB.ref16_Find_1, pt, go_sem, Int.reduceBEq, Int.reduceBNe, Int.reduceNeg, reduceCtorEq, Nat.reduceEqDiff, Nat.reduceAdd, Nat.reduceLeDiff, Nat.reduceMul, Nat.reduceSub, Int.reduceToNat, Int.reduceLT, Int.reduceLE, load_w, load_a, store_b, idxS_b, set_blk, new_blk, set_next, new_next, len_s, ldW_c, ldA_c, stB_c, toArr_one, size_one, toList_toArr, size_toArr, List.length_cons, List.length_nil, List.getElem?_cons_zero, List.getElem?_cons_succ, Nat.zero_add, Nat.add_zero, hb'.at_, hp2.len]
  refine gT.of (fun h1' => ?_) (fun h1' => ?_) <;> (have h1 := h1'; try simp only [decide_eq_true_eq, decide_eq_false_iff_not, beq_iff_eq, bne_iff_ne, beq_eq_false_iff_ne, ne_eq, Bool.not_eq_true', Bool.not_eq_false', bne_eq_false_iff_eq, Int.not_lt, Int.not_le] at h1)
  · have hil : i < p.places.length := by omega
    obtain ⟨b, o, qv, a1, a2, a3, a4, a5⟩ := hp.elem hil
    have a30 := a3 0 (by omega)
    rw [← load_ext ((hM.trans hx).trans hx2) a5] at a2 a30
    have hfx : p.places[i].unit = u → findP p.places u = p.places[i] := fun h => findP_at ha hil h
    have hhas : p.places[i].unit = u → hasU p.places u := fun h => ⟨i, hil, h⟩
    have hno2 : p.places[i].unit ≠ u → ∀ t (h : t < p.places.length), t < i + 1 → p.places[t].unit ≠ u := by
      intro g t h ht
      by_cases e : t = i
      · subst e; exact g
      · exact hno t h (by omega)
    generalize p.places[i] = x at *
    simp only [plV, Nat.add_zero, List.getElem?_cons_zero] at a2 a30
    have q1 := a4.one
    try simp only [go_sem, Int.reduceBEq, Int.reduceBNe, Int.reduceNeg, reduceCtorEq, Nat.reduceEqDiff, Nat.reduceAdd, Nat.reduceLeDiff, Nat.reduceMul, Nat.reduceSub, Int.reduceToNat, Int.reduceLT, Int.reduceLE, load_w, load_a, store_b, idxS_b, set_blk, new_blk, set_next, new_next, len_s, ldW_c, ldA_c, stB_c, toArr_one, size_one, toList_toArr, size_toArr, List.length_cons, List.length_nil, List.getElem?_cons_zero, List.getElem?_cons_succ, Nat.zero_add, Nat.add_zero, h1', a1, a30, hb'.at_]
    refine gT.of (fun h2' => ?_) (fun h2' => ?_) <;> (have h2 := h2'; try simp only [decide_eq_true_eq, decide_eq_false_iff_not, beq_iff_eq, bne_iff_ne, beq_eq_false_iff_ne, ne_eq, Bool.not_eq_true', Bool.not_eq_false', bne_eq_false_iff_eq, Int.not_lt, Int.not_le] at h2)
    · have hfx := hfx h2
      try simp only [go_sem, Int.reduceBEq, Int.reduceBNe, Int.reduceNeg, reduceCtorEq, Nat.reduceEqDiff, Nat.reduceAdd, Nat.reduceLeDiff, Nat.reduceMul, Nat.reduceSub, Int.reduceToNat, Int.reduceLT, Int.reduceLE, load_w, load_a, store_b, idxS_b, set_blk, new_blk, set_next, new_next, len_s, ldW_c, ldA_c, stB_c, toArr_one, size_one, toList_toArr, size_toArr, List.length_cons, List.length_nil, List.getElem?_cons_zero, List.getElem?_cons_succ, Nat.zero_add, Nat.add_zero, h2', a1, a2, hb'.at_, hb2.at_, q1]
      refine ⟨qv, by rw [decide_eq_true (hhas h2), hfx]; rfl, ?_, hx.trans (hx2.set (Nat.le_refl _))⟩
      rw [hfx]
      exact a4
    · try simp only [go_sem, Int.reduceBEq, Int.reduceBNe, Int.reduceNeg, reduceCtorEq, Nat.reduceEqDiff, Nat.reduceAdd, Nat.reduceLeDiff, Nat.reduceMul, Nat.reduceSub, Int.reduceToNat, Int.reduceLT, Int.reduceLE, load_w, load_a, store_b, idxS_b, set_blk, new_blk, set_next, new_next, len_s, ldW_c, ldA_c, stB_c, toArr_one, size_one, toList_toArr, size_toArr, List.length_cons, List.length_nil, List.getElem?_cons_zero, List.getElem?_cons_succ, Nat.zero_add, Nat.add_zero, h2', step1 (show i < 1000000 by omega)]
      exact ⟨p.places.length - (i + 1), by omega, i + 1, by omega, rfl, rfl, hno2 h2⟩
  · have hnu : ¬ hasU p.places u := by
      rintro ⟨t, h, e⟩
      exact hno t h (by omega) e
    try simp only [go_sem, Int.reduceBEq, Int.reduceBNe, Int.reduceNeg, reduceCtorEq, Nat.reduceEqDiff, Nat.reduceAdd, Nat.reduceLeDiff, Nat.reduceMul, Nat.reduceSub, Int.reduceToNat, Int.reduceLT, Int.reduceLE, load_w, load_a, store_b, idxS_b, set_blk, new_blk, set_next, new_next, len_s, ldW_c, ldA_c, stB_c, toArr_one, size_one, toList_toArr, size_toArr, List.length_cons, List.length_nil, List.getElem?_cons_zero, List.getElem?_cons_succ, Nat.zero_add, Nat.add_zero, h1', hb2.at_]
    refine ⟨.slice none 0 0, by rw [decide_eq_false hnu, findP_not hnu]; rfl, ?_, hx.trans (hx2.set (Nat.le_refl _))⟩
    rw [findP_not hnu]
    exact ⟨.nil rfl rfl, trivial⟩

theorem findP_pcs {p : PlanD} (hl : PlanL p) {u : Int} : (findP p.places u).pieces.length < 1000000 := by
  unfold findP
  split
  · exact hl.pcs _ (List.getElem_mem _)
  · show (0 : Nat) < 1000000; omega

noncomputable def isU0 (a b : List Pl) (u : Int) : Bool := decide (hasU a u) && (decide (hasU b u) && decide (refMov (findP a u) (findP b u)))
noncomputable def listL (P : Int → Bool) (a b : List Pl) : List Int := (unitsL a b 1040).filter P

set_option maxHeartbeats 8000000 in
theorem List0_spec {p q : PlanD} {v w : Value} (hv : PlanV m p v) (hw : PlanV m q w) (hl : PlanL p) (hk : PlanL q) (ha : Asc p.places) (hb : Asc q.places) :
    WC R F.ref22_List [.int .i64 0, v, w] m fun r m' => Own m m' 1 (listL (isU0 p.places q.places) p.places q.places).length (intsZ (listL (isU0 p.places q.places) p.places q.places)) r ∧ Ext m m' := by
  refine WC.of R.ref22_List rfl ?_
  obtain ⟨pv, rfl, hp⟩ := hv
  obtain ⟨qv, rfl, hq⟩ := hw
  simp only [RC.ref22_List, planV, go_sem, Int.reduceBEq, Int.reduceBNe, Int.reduceNeg, reduceCtorEq, Nat.reduceEqDiff, Nat.reduceAdd, Nat.reduceLeDiff, Nat.reduceMul, Nat.reduceSub, Int.reduceToNat, Int.reduceLT, Int.reduceLE, hp.one, hq.one]
  have hx1 : Ext m (m.new (.cells [.int .i64 p.frame, u32 p.cores, pv] (some 3))) := Ext.new
  have hb1 : Bk (m.new (.cells [.int .i64 p.frame, u32 p.cores, pv] (some 3))) m.next [.int .i64 p.frame, u32 p.cores, pv] 3 := Bk.new
  generalize m.new (.cells [.int .i64 p.frame, u32 p.cores, pv] (some 3)) = m1 at hx1 hb1 ⊢
  have hx2 : Ext m1 (m1.new (.cells [.int .i64 q.frame, u32 q.cores, qv] (some 3))) := Ext.new
  have hb2 : Bk (m1.new (.cells [.int .i64 q.frame, u32 q.cores, qv] (some 3))) m1.next [.int .i64 q.frame, u32 q.cores, qv] 3 := Bk.new
  generalize m1.new (.cells [.int .i64 q.frame, u32 q.cores, qv] (some 3)) = m2 at hx2 hb2 ⊢
  have hb12 := hb1.keep hx2
  have hX := hx1.trans hx2
  have hp2 := hp.keep hX
  have hq2 := hq.keep hX
  have hbn1 := hb12.ne
  have hbn2 := hb2.ne
  have hx3 : Ext m2 (m2.new (.cells [] (some 1))) := Ext.new
  have ho3 : Own m2 (m2.new (.cells [] (some 1))) 1 0 [] (.slice (some ⟨m2.next, 0, none⟩) 0 0) := .at (all := []) (Nat.le_refl _) (by simp [Mem.new]) (Nat.le_refl _) (by simp [Mem.new]) rfl rfl rfl
  try simp only [go_sem, Int.reduceBEq, Int.reduceBNe, Int.reduceNeg, reduceCtorEq, Nat.reduceEqDiff, Nat.reduceAdd, Nat.reduceLeDiff, Nat.reduceMul, Nat.reduceSub, Int.reduceToNat, Int.reduceLT, Int.reduceLE, load_w, load_a, store_b, idxS_b, set_blk, new_blk, set_next, new_next, len_s, ldW_c, ldA_c, stB_c, toArr_one, size_one, toList_toArr, size_toArr, List.length_cons, List.length_nil, List.getElem?_cons_zero, List.getElem?_cons_succ, Nat.zero_add, Nat.add_zero, hb12.at_, hb2.at_, hbn1, hbn2]
  have hm3 : m2.next < (m2.new (.cells [] (some 1))).next := by simp [Mem.new]
  generalize m2.new (.cells [] (some 1)) = m3 at hx3 ho3 hm3 ⊢
  refine gC.of (Units_spec (p := p) (q := q) ⟨pv, rfl, hp2.keep hx3⟩ ⟨qv, rfl, hq2.keep hx3⟩ hl hk ha hb) ?_
  rintro uw m4 ⟨hou, hx4⟩
  have hul := unitsL_len (a := p.places) (b := q.places) 1040
  have hx24 := hx3.trans hx4
  have ho4 := ho3.keep hx4
  unfold listL
  generalize unitsL p.places q.places 1040 = U at *
  have hsU := hou.sl
  have hltU := hou.lt
  try simp only [go_sem, Int.reduceBEq, Int.reduceBNe, Int.reduceNeg, reduceCtorEq, Nat.reduceEqDiff, Nat.reduceAdd, Nat.reduceLeDiff, Nat.reduceMul, Nat.reduceSub, Int.reduceToNat, Int.reduceLT, Int.reduceLE, load_w, load_a, store_b, idxS_b, set_blk, new_blk, set_next, new_next, len_s, ldW_c, ldA_c, stB_c, toArr_one, size_one, toList_toArr, size_toArr, List.length_cons, List.length_nil, List.getElem?_cons_zero, List.getElem?_cons_succ, Nat.zero_add, Nat.add_zero]
  refine WL.of (fun n e m' => ∃ (i : Nat) (z : Value), i ≤ U.length ∧ n = U.length - i ∧ e = [(0, .int .i64 0), (4, pt m.next), (5, pt m1.next), (7, z), (8, uw), (9, .int .i64 i)] ∧ OwnQ m2 m4 m' m2.next 1 ((U.take i).filter (isU0 p.places q.places)).length (intsZ ((U.take i).filter (isU0 p.places q.places))) z) U.length
    ⟨0, _, by omega, by omega, by simp only [go_sem, Int.reduceBEq, Int.reduceBNe, Int.reduceNeg, reduceCtorEq, Nat.reduceEqDiff, Nat.reduceAdd, Nat.reduceLeDiff, Nat.reduceMul, Nat.reduceSub, Int.reduceToNat, Int.reduceLT, Int.reduceLE] <;> rfl, ⟨ho4, Upd.refl _ _, fun b hb => by simp [vb] at hb; exact .inl hb, hx24⟩⟩ ?_
  rintro _ _ m5 ⟨i, z, hi, rfl, rfl, ho⟩
  have hx25 := ho.ext
  have hbx := (hb12).keep hx25
  have hby := hb2.keep hx25
  have hgeU := hou.ge
  have hn23 : m2.next < m3.next := hm3
  have hoffU : SlOff [m2.next] uw := SlOff.vb_iff.2 (fun b hb hm => by simp at hm; have := hgeU b hb; omega)
  have hs5 := hsU.upd hltU hoffU ho.upd
  have hlt5 := hltU.upd ho.upd
  simp only [RB.ref22_List_1, pt, go_sem, Int.reduceBEq, Int.reduceBNe, Int.reduceNeg, reduceCtorEq, Nat.reduceEqDiff, Nat.reduceAdd, Nat.reduceLeDiff, Nat.reduceMul, Nat.reduceSub, Int.reduceToNat, Int.reduceLT, Int.reduceLE, load_w, load_a, store_b, idxS_b, set_blk, new_blk, set_next, new_next, len_s, ldW_c, ldA_c, stB_c, toArr_one, size_one, toList_toArr, size_toArr, List.length_cons, List.length_nil, List.getElem?_cons_zero, List.getElem?_cons_succ, Nat.zero_add, Nat.add_zero, hs5.len]
  have s1 := step1 (show i < 1000000 by omega)
  by_cases g1 : i < U.length
  · have e1 : decide ((i : Int) < (U.length : Int)) = true := decide_eq_true (by omega)
    obtain ⟨bb, oo, a1, a2⟩ := hs5.geti g1
    try simp only [go_sem, Int.reduceBEq, Int.reduceBNe, Int.reduceNeg, reduceCtorEq, Nat.reduceEqDiff, Nat.reduceAdd, Nat.reduceLeDiff, Nat.reduceMul, Nat.reduceSub, Int.reduceToNat, Int.reduceLT, Int.reduceLE, load_w, load_a, store_b, idxS_b, set_blk, new_blk, set_next, new_next, len_s, ldW_c, ldA_c, stB_c, toArr_one, size_one, toList_toArr, size_toArr, List.length_cons, List.length_nil, List.getElem?_cons_zero, List.getElem?_cons_succ, Nat.zero_add, Nat.add_zero, e1, hbx.at_, a1, a2]
    have hbu : Ext m5 (m5.bump 12) := Ext.bump
    refine gC.of (refFindO_spec (p := p) (u := U[i]) ⟨pv, rfl, hp2⟩ (hx25.trans hbu) hl ha) ?_
    rintro _ m6 ⟨xv, rfl, hxv, hx6⟩
    have hn6 : m5.next + 12 ≤ m6.next := hx6.next
    have hx56 := hbu.trans hx6
    have hone := hxv.one
    have hlx : (findP p.places U[i]).pieces.length < 1000000 := findP_pcs hl
    have hly : (findP q.places U[i]).pieces.length < 1000000 := findP_pcs hk
    have hset : ∀ (M : Mem) (k : Nat) (a b : Option AObj), (M.set k a).set k b = M.set k b := fun M k a b => by
      unfold Mem.set; congr 1; funext q; simp only []; split <;> rfl
    simp only [plV]
    try simp only [go_sem, Int.reduceBEq, Int.reduceBNe, Int.reduceNeg, reduceCtorEq, Nat.reduceEqDiff, Nat.reduceAdd, Nat.reduceLeDiff, Nat.reduceMul, Nat.reduceSub, Int.reduceToNat, Int.reduceLT, Int.reduceLE, load_w, load_a, store_b, idxS_b, set_blk, new_blk, set_next, new_next, len_s, ldW_c, ldA_c, stB_c, toArr_one, size_one, toList_toArr, size_toArr, List.length_cons, List.length_nil, List.getElem?_cons_zero, List.getElem?_cons_succ, Nat.zero_add, Nat.add_zero, aExt0, aExt1, hone, hset]
    have hU7 : Upd m6 (m6.set (m5.next + 9) (some (.cells [.int .i64 (findP p.places U[i]).unit, .int .i64 (findP p.places U[i]).share, .int .i64 (findP p.places U[i]).core, xv] (some 4)))) [m5.next + 9] := Upd.set (by simp)
    have hc7 : Bk (m6.set (m5.next + 9) (some (.cells [.int .i64 (findP p.places U[i]).unit, .int .i64 (findP p.places U[i]).share, .int .i64 (findP p.places U[i]).core, xv] (some 4)))) (m5.next + 9) [.int .i64 (findP p.places U[i]).unit, .int .i64 (findP p.places U[i]).share, .int .i64 (findP p.places U[i]).core, xv] 4 := ⟨by simp [Mem.set], by simp [Mem.set]; omega⟩
    have hm7n : (m6.set (m5.next + 9) (some (.cells [.int .i64 (findP p.places U[i]).unit, .int .i64 (findP p.places U[i]).share, .int .i64 (findP p.places U[i]).core, xv] (some 4)))).next = m6.next := rfl
    generalize m6.set (m5.next + 9) (some (.cells [.int .i64 (findP p.places U[i]).unit, .int .i64 (findP p.places U[i]).share, .int .i64 (findP p.places U[i]).core, xv] (some 4))) = m7 at hU7 hc7 hm7n ⊢
    have hx57 : Ext m5 m7 := hU7.ext_of hx56 (by simp)
    have hby7 := hby.keep hx57
    have hs7 := hs5.keep hlt5 hx57
    obtain ⟨b2, o2, c1, c2⟩ := hs7.geti g1
    rw [a1] at c1
    cases c1
    have hbu7 : Ext m7 (m7.bump 12) := Ext.bump
    try simp only [go_sem, Int.reduceBEq, Int.reduceBNe, Int.reduceNeg, reduceCtorEq, Nat.reduceEqDiff, Nat.reduceAdd, Nat.reduceLeDiff, Nat.reduceMul, Nat.reduceSub, Int.reduceToNat, Int.reduceLT, Int.reduceLE, load_w, load_a, store_b, idxS_b, set_blk, new_blk, set_next, new_next, len_s, ldW_c, ldA_c, stB_c, toArr_one, size_one, toList_toArr, size_toArr, List.length_cons, List.length_nil, List.getElem?_cons_zero, List.getElem?_cons_succ, Nat.zero_add, Nat.add_zero, a1, c2, hby7.at_]
    refine gC.of (refFindO_spec (p := q) (u := U[i]) ⟨qv, rfl, hq2⟩ ((hx25.trans hx57).trans hbu7) hk hb) ?_
    rintro _ m8 ⟨yv, rfl, hyv, hx8⟩
    have hn78 : m7.next + 12 ≤ m8.next := hx8.next
    have hn67 := hU7.next
    have hx78 := hbu7.trans hx8
    have hone2 := hyv.one
    have hc8 := hc7.keep hx78
    simp only [plV]
    try simp only [go_sem, Int.reduceBEq, Int.reduceBNe, Int.reduceNeg, reduceCtorEq, Nat.reduceEqDiff, Nat.reduceAdd, Nat.reduceLeDiff, Nat.reduceMul, Nat.reduceSub, Int.reduceToNat, Int.reduceLT, Int.reduceLE, load_w, load_a, store_b, idxS_b, set_blk, new_blk, set_next, new_next, len_s, ldW_c, ldA_c, stB_c, toArr_one, size_one, toList_toArr, size_toArr, List.length_cons, List.length_nil, List.getElem?_cons_zero, List.getElem?_cons_succ, Nat.zero_add, Nat.add_zero, aExt0, aExt1, hone2, hset]
    have hU9 : Upd m8 (m8.set (m6.next + 9) (some (.cells [.int .i64 (findP q.places U[i]).unit, .int .i64 (findP q.places U[i]).share, .int .i64 (findP q.places U[i]).core, yv] (some 4)))) [m6.next + 9] := Upd.set (by simp)
    have hcy9 : Bk (m8.set (m6.next + 9) (some (.cells [.int .i64 (findP q.places U[i]).unit, .int .i64 (findP q.places U[i]).share, .int .i64 (findP q.places U[i]).core, yv] (some 4)))) (m6.next + 9) [.int .i64 (findP q.places U[i]).unit, .int .i64 (findP q.places U[i]).share, .int .i64 (findP q.places U[i]).core, yv] 4 := ⟨by simp [Mem.set], by simp [Mem.set]; omega⟩
    generalize m8.set (m6.next + 9) (some (.cells [.int .i64 (findP q.places U[i]).unit, .int .i64 (findP q.places U[i]).share, .int .i64 (findP q.places U[i]).core, yv] (some 4))) = m9 at hU9 hcy9 ⊢
    have hcx9 := hc8.upd hU9 (by simp; omega)
    have hx59 : Ext m5 m9 := hU9.ext_of (hx57.trans hx78) (by simp; omega)
    have hx79 : Ext m7 m9 := hU9.ext_of hx78 (by simp; omega)
    have hyv9 : PcV m9 (findP q.places U[i]).pieces yv := hyv.keep (hx25.trans hx59)
    have hxv9 : PcV m9 (findP p.places U[i]).pieces xv := hxv.keep (hx25.trans hx59)
    have hulen : ((U.take i).filter (isU0 p.places q.places)).length ≤ i := Nat.le_trans (List.length_filter_le ..) (by rw [List.length_take]; omega)
    have htk : U.take (i + 1) = U.take i ++ [U[i]] := List.take_succ_eq_append_getElem g1
    have hstepT : isU0 p.places q.places U[i] = true → (U.take (i + 1)).filter (isU0 p.places q.places) = (U.take i).filter (isU0 p.places q.places) ++ [U[i]] := fun h => by
      rw [htk, List.filter_append]; simp [h]
    have hstepF : isU0 p.places q.places U[i] = false → (U.take (i + 1)).filter (isU0 p.places q.places) = (U.take i).filter (isU0 p.places q.places) := fun h => by
      rw [htk, List.filter_append]; simp [h]
    by_cases h1 : hasU p.places U[i]
    · by_cases h2 : hasU q.places U[i]
      · try simp only [go_sem, Int.reduceBEq, Int.reduceBNe, Int.reduceNeg, reduceCtorEq, Nat.reduceEqDiff, Nat.reduceAdd, Nat.reduceLeDiff, Nat.reduceMul, Nat.reduceSub, Int.reduceToNat, Int.reduceLT, Int.reduceLE, load_w, load_a, store_b, idxS_b, set_blk, new_blk, set_next, new_next, len_s, ldW_c, ldA_c, stB_c, toArr_one, size_one, toList_toArr, size_toArr, List.length_cons, List.length_nil, List.getElem?_cons_zero, List.getElem?_cons_succ, Nat.zero_add, Nat.add_zero, decide_eq_true h1, decide_eq_true h2, hcx9.at_, hcy9.at_]
        refine gC.of (refMoved_spec (x := findP p.places U[i]) (y := findP q.places U[i]) ⟨xv, rfl, hxv9⟩ ⟨yv, rfl, hyv9⟩ hlx hly) ?_
        rintro _ m10 ⟨rfl, hx10⟩
        by_cases h3 : refMov (findP p.places U[i]) (findP q.places U[i])
        · have hpr : isU0 p.places q.places U[i] = true := by unfold isU0; simp [h1, h2, h3]
          obtain ⟨b3, o3, d1, d2⟩ := (hs5.keep hlt5 (hx59.trans hx10)).geti g1
          rw [a1] at d1
          cases d1
          obtain ⟨v', mz, p1, p2⟩ := (ho.keep (hx59.trans hx10)).app (by_ := 8) (es := [.int .i64 U[i]]) (by omega) rfl rfl (by omega) (by omega)
          try simp only [go_sem, Int.reduceBEq, Int.reduceBNe, Int.reduceNeg, reduceCtorEq, Nat.reduceEqDiff, Nat.reduceAdd, Nat.reduceLeDiff, Nat.reduceMul, Nat.reduceSub, Int.reduceToNat, Int.reduceLT, Int.reduceLE, load_w, load_a, store_b, idxS_b, set_blk, new_blk, set_next, new_next, len_s, ldW_c, ldA_c, stB_c, toArr_one, size_one, toList_toArr, size_toArr, List.length_cons, List.length_nil, List.getElem?_cons_zero, List.getElem?_cons_succ, Nat.zero_add, Nat.add_zero, decide_eq_true h3, a1, d2, p1, s1]
          refine ⟨U.length - (i + 1), by omega, i + 1, v', by omega, rfl, rfl, ?_⟩
          rw [hstepT hpr, List.length_append]
          unfold intsZ at p2 ⊢
          rw [List.map_append]; exact p2
        · have hpr : isU0 p.places q.places U[i] = false := by unfold isU0; simp [h3]
          try simp only [go_sem, Int.reduceBEq, Int.reduceBNe, Int.reduceNeg, reduceCtorEq, Nat.reduceEqDiff, Nat.reduceAdd, Nat.reduceLeDiff, Nat.reduceMul, Nat.reduceSub, Int.reduceToNat, Int.reduceLT, Int.reduceLE, load_w, load_a, store_b, idxS_b, set_blk, new_blk, set_next, new_next, len_s, ldW_c, ldA_c, stB_c, toArr_one, size_one, toList_toArr, size_toArr, List.length_cons, List.length_nil, List.getElem?_cons_zero, List.getElem?_cons_succ, Nat.zero_add, Nat.add_zero, decide_eq_false h3, s1]
          refine ⟨U.length - (i + 1), by omega, i + 1, z, by omega, rfl, rfl, ?_⟩
          rw [hstepF hpr]; exact ho.keep (hx59.trans hx10)
      · have hpr : isU0 p.places q.places U[i] = false := by unfold isU0; simp [h2]
        try simp only [go_sem, Int.reduceBEq, Int.reduceBNe, Int.reduceNeg, reduceCtorEq, Nat.reduceEqDiff, Nat.reduceAdd, Nat.reduceLeDiff, Nat.reduceMul, Nat.reduceSub, Int.reduceToNat, Int.reduceLT, Int.reduceLE, load_w, load_a, store_b, idxS_b, set_blk, new_blk, set_next, new_next, len_s, ldW_c, ldA_c, stB_c, toArr_one, size_one, toList_toArr, size_toArr, List.length_cons, List.length_nil, List.getElem?_cons_zero, List.getElem?_cons_succ, Nat.zero_add, Nat.add_zero, decide_eq_true h1, decide_eq_false h2]
        try simp only [go_sem, Int.reduceBEq, Int.reduceBNe, Int.reduceNeg, reduceCtorEq, Nat.reduceEqDiff, Nat.reduceAdd, Nat.reduceLeDiff, Nat.reduceMul, Nat.reduceSub, Int.reduceToNat, Int.reduceLT, Int.reduceLE, load_w, load_a, store_b, idxS_b, set_blk, new_blk, set_next, new_next, len_s, ldW_c, ldA_c, stB_c, toArr_one, size_one, toList_toArr, size_toArr, List.length_cons, List.length_nil, List.getElem?_cons_zero, List.getElem?_cons_succ, Nat.zero_add, Nat.add_zero, hpr, s1]
        refine ⟨U.length - (i + 1), by omega, i + 1, z, by omega, rfl, rfl, ?_⟩
        rw [hstepF hpr]; exact ho.keep (hx59)
    · have hpr : isU0 p.places q.places U[i] = false := by unfold isU0; simp [h1]
      try simp only [go_sem, Int.reduceBEq, Int.reduceBNe, Int.reduceNeg, reduceCtorEq, Nat.reduceEqDiff, Nat.reduceAdd, Nat.reduceLeDiff, Nat.reduceMul, Nat.reduceSub, Int.reduceToNat, Int.reduceLT, Int.reduceLE, load_w, load_a, store_b, idxS_b, set_blk, new_blk, set_next, new_next, len_s, ldW_c, ldA_c, stB_c, toArr_one, size_one, toList_toArr, size_toArr, List.length_cons, List.length_nil, List.getElem?_cons_zero, List.getElem?_cons_succ, Nat.zero_add, Nat.add_zero, decide_eq_false h1]
      try simp only [go_sem, Int.reduceBEq, Int.reduceBNe, Int.reduceNeg, reduceCtorEq, Nat.reduceEqDiff, Nat.reduceAdd, Nat.reduceLeDiff, Nat.reduceMul, Nat.reduceSub, Int.reduceToNat, Int.reduceLT, Int.reduceLE, load_w, load_a, store_b, idxS_b, set_blk, new_blk, set_next, new_next, len_s, ldW_c, ldA_c, stB_c, toArr_one, size_one, toList_toArr, size_toArr, List.length_cons, List.length_nil, List.getElem?_cons_zero, List.getElem?_cons_succ, Nat.zero_add, Nat.add_zero, hpr, s1]
      refine ⟨U.length - (i + 1), by omega, i + 1, z, by omega, rfl, rfl, ?_⟩
      rw [hstepF hpr]; exact ho.keep (hx59)
  · have e1 : decide ((i : Int) < (U.length : Int)) = false := decide_eq_false (by omega)
    have hi2 : i = U.length := by omega
    subst hi2
    rw [List.take_length] at ho
    try simp only [go_sem, Int.reduceBEq, Int.reduceBNe, Int.reduceNeg, reduceCtorEq, Nat.reduceEqDiff, Nat.reduceAdd, Nat.reduceLeDiff, Nat.reduceMul, Nat.reduceSub, Int.reduceToNat, Int.reduceLT, Int.reduceLE, load_w, load_a, store_b, idxS_b, set_blk, new_blk, set_next, new_next, len_s, ldW_c, ldA_c, stB_c, toArr_one, size_one, toList_toArr, size_toArr, List.length_cons, List.length_nil, List.getElem?_cons_zero, List.getElem?_cons_succ, Nat.zero_add, Nat.add_zero, e1]
    exact ⟨ho.own.weak hX, hX.trans hx25⟩
end Go.Am
