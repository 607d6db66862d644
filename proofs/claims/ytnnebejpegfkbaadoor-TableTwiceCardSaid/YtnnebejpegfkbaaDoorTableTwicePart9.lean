/- Parts of the proofs of the statements of this seat: TableM, AmMap, TableX3, TableL2, WTableTwice. No conditions. -/
import Derived.Test.YtnnebejpegfkbaaDoorTableTwicePart8
import Derived.Test.YtnnebejpegfkbaaDoorTableTwicePart7
set_option linter.unusedVariables false
set_option linter.unusedSimpArgs false

/- Tables of right plans: no unit twice at a tick, each as often as its share. -/
set_option linter.unusedVariables false
set_option linter.unusedSimpArgs false
namespace Go.Am
open Classical

theorem RightP.asc {p : PlanD} (h : RightP p) {i j : Nat} (hij : i < j) (hj : j < p.places.length) : (p.places[i]'(by omega)).unit < p.places[j].unit := by
  induction j with
  | zero => omega
  | succ j ih =>
    obtain ⟨_, _, g⟩ := h.2.2.2.2.1 (j + 1) hj
    have g := g (by omega)
    simp only [Nat.add_sub_cancel] at g
    by_cases e : i = j
    · subst e; exact g
    · have := ih (by omega) (by omega); omega

theorem RightP.inj {p : PlanD} (h : RightP p) {x y : Pl} (hx : x ∈ p.places) (hy : y ∈ p.places) (e : x.unit = y.unit) : x = y := by
  obtain ⟨i, hi, rfl⟩ := List.getElem_of_mem hx
  obtain ⟨j, hj, rfl⟩ := List.getElem_of_mem hy
  rcases Nat.lt_trichotomy i j with g | g | g
  · have := h.asc g hj; omega
  · subst g; rfl
  · have := h.asc g hi; omega

theorem tkF_of {l : List Pl} {c t : Int} : ∀ {a : Int}, cntL l c t ≤ 1 → (∀ y ∈ l, 0 < y.pieces.countP (atB c t) → tkF l c t a = y.unit) ∧ (cntL l c t = 0 → tkF l c t a = a) := by
  induction l with
  | nil => intro a _; exact ⟨fun y hy => by simp at hy, fun _ => rfl⟩
  | cons x l ih =>
    intro a h
    rw [cntL_cons] at h
    have e : tkF (x :: l) c t a = tkF l c t (if 0 < x.pieces.countP (atB c t) then x.unit else a) := rfl
    obtain ⟨h1, h2⟩ := ih (a := if 0 < x.pieces.countP (atB c t) then x.unit else a) (by omega)
    refine ⟨fun y hy hc => ?_, fun h0 => ?_⟩
    · rw [e]
      rcases List.mem_cons.1 hy with rfl | hy
      · rw [h2 (by omega), if_pos hc]
      · exact h1 y hy hc
    · rw [cntL_cons] at h0
      rw [e, h2 (by omega), if_neg (by omega)]

theorem cntL_mem {l : List Pl} {c t : Int} (h : 0 < cntL l c t) : ∃ y ∈ l, 0 < y.pieces.countP (atB c t) := by
  induction l with
  | nil => simp [cntL] at h
  | cons x l ih =>
    rw [cntL_cons] at h
    by_cases g : 0 < x.pieces.countP (atB c t)
    · exact ⟨x, by simp, g⟩
    · obtain ⟨y, hy, hc⟩ := ih (by omega)
      exact ⟨y, by simp [hy], hc⟩
theorem cntL_one {l : List Pl} {c t : Int} {x : Pl} (hx : x ∈ l) : x.pieces.countP (atB c t) ≤ cntL l c t := by
  induction l with
  | nil => simp at hx
  | cons y l ih =>
    rw [cntL_cons]
    rcases List.mem_cons.1 hx with rfl | hx
    · omega
    · have := ih hx; omega

theorem RightP.at {p : PlanD} (h : RightP p) {c t : Nat} (hc : c < 16) (ht : t < 64) {x : Pl} (hx : x ∈ p.places) : tkF p.places c t 0 = x.unit ↔ 0 < x.pieces.countP (atB c t) := by
  have ha := h.2.2.2.2.2.1 c hc t ht
  obtain ⟨h1, h2⟩ := tkF_of (a := 0) ha
  constructor
  · intro e
    by_cases g : 0 < cntL p.places (c : Nat) (t : Nat)
    · obtain ⟨y, hy, hcy⟩ := cntL_mem g
      have := h1 y hy hcy
      have : y = x := h.inj hy hx (by omega)
      subst this; exact hcy
    · have := h2 (by omega)
      have hu := (h.place hx).1
      unfold isU at hu
      omega
  · intro g; exact h1 x hx g
theorem RightP.at0 {p : PlanD} (h : RightP p) {c t : Nat} (hc : c < 16) (ht : t < 64) : tkF p.places c t 0 = 0 ↔ cntL p.places c t = 0 := by
  have ha := h.2.2.2.2.2.1 c hc t ht
  obtain ⟨h1, h2⟩ := tkF_of (a := 0) ha
  constructor
  · intro e
    by_cases g : 0 < cntL p.places (c : Nat) (t : Nat)
    · obtain ⟨y, hy, hcy⟩ := cntL_mem g
      have := h1 y hy hcy
      have hu := (h.place hy).1
      unfold isU at hu
      omega
    · omega
  · exact h2
theorem RightP.unit {p : PlanD} (h : RightP p) {c t : Nat} (hc : c < 16) (ht : t < 64) (hn : tkF p.places c t 0 ≠ 0) : ∃ x ∈ p.places, tkF p.places c t 0 = x.unit ∧ 0 < x.pieces.countP (atB c t) := by
  have ha := h.2.2.2.2.2.1 c hc t ht
  obtain ⟨h1, h2⟩ := tkF_of (a := 0) ha
  have g : 0 < cntL p.places (c : Nat) (t : Nat) := by
    apply Classical.byContradiction
    intro g; exact hn (h2 (by omega))
  obtain ⟨y, hy, hcy⟩ := cntL_mem g
  exact ⟨y, hy, h1 y hy hcy, hcy⟩

theorem busy_tab {p : PlanD} {n t : Nat} (hn : p.frame = n) (ht : t < n) : busy (tabsOf p) (tabsOf p) t = ((csP p 16).map fun (c : Nat) => tkF p.places c t 0).filter fun u => decide (u ≠ 0) := by
  unfold busy
  congr 1
  apply List.ext_getElem
  · simp [tabsOf]
  · intro i h1 h2
    have h1' : i < (tabsOf p).length := by simpa using h1
    rw [List.getElem_map, atT_tab hn h1' ht, List.getElem_map]
    have hl : t < (tabsOf p)[i].ticks.length := by rw [tabsOf_ticks, hn]; simpa using ht
    rw [List.getD_eq_getElem?_getD, List.getElem?_eq_getElem hl, Option.getD_some]
    simp only [tabsOf, List.getElem_map, tabOf, tkL_get]
    rw [if_pos (by rw [hn]; simpa using ht)]

theorem count_filter_S {q : PlanD} {f : Nat → Int} {u : Int} (hu : u ≠ 0) : ∀ n, ((((csP q n).map f).filter fun u => decide (u ≠ 0)).count u : Int) = S (fun c => if hasC q c = true then (if f c = u then 1 else 0) else 0) n
  | 0 => by simp [csP, S]
  | n + 1 => by
    rw [csP_succ]
    show _ = S _ n + _
    rw [← count_filter_S hu n, List.map_append, List.filter_append, List.count_append]
    by_cases h : hasC q n = true
    · simp only [h, if_true, List.map_cons, List.map_nil]
      by_cases g : f n = u
      · rw [if_pos g, List.filter_cons_of_pos (by simp [g, hu])]; simp [g]
      · rw [if_neg g]
        by_cases g0 : f n = 0
        · rw [List.filter_cons_of_neg (by simp [g0])]; simp
        · rw [List.filter_cons_of_pos (by simp [g0])]; simp [g]
    · simp only [h, if_false]; simp

theorem RightP.bsy {p : PlanD} (h : RightP p) {n t : Nat} (hn : p.frame = n) (ht : t < n) {x : Pl} (hx : x ∈ p.places) : (busy (tabsOf p) (tabsOf p) t).count x.unit = cntA x t := by
  have h64 := h.2.1
  have ht64 : t < 64 := by omega
  have hu := (h.place hx).1
  unfold isU at hu
  rw [busy_tab hn ht]
  have := count_filter_S (q := p) (f := fun c => tkF p.places (c : Nat) t 0) (u := x.unit) (by omega) 16
  have hg : ∀ y ∈ x.pieces, 0 ≤ y.1 ∧ y.1 < 16 := by
    intro y hy
    have hf := (h.fine hx).1 (by simp only [isSp, decide_eq_true_eq]; exact List.length_pos_of_mem hy)
    exact hf.1 y hy
  have e := pieces_cores (ps := x.pieces) ht64 hg
  unfold cntA
  have e2 : S (fun c => if hasC p c = true then (if tkF p.places (c : Nat) t 0 = x.unit then 1 else 0) else 0) 16 = S (fun c => ((x.pieces.countP (atB (c : Nat) t) : Nat) : Int)) 16 := by
    apply S_congr
    intro c hc
    have hle := cntL_one (c := (c : Nat)) (t := (t : Nat)) hx
    have ha := h.2.2.2.2.2.1 c hc t ht64
    by_cases g : hasC p c = true
    · rw [if_pos g]
      by_cases g2 : 0 < x.pieces.countP (atB (c : Nat) (t : Nat))
      · rw [if_pos ((h.at hc ht64 hx).2 g2)]; omega
      · rw [if_neg (fun e => g2 ((h.at hc ht64 hx).1 e))]; omega
    · rw [if_neg g]
      have := (h.cnt (by simpa using g) ht64).1
      omega
  rw [e2, e] at this
  exact_mod_cast this

theorem RightP.once {p : PlanD} (h : RightP p) {n t : Nat} (hn : p.frame = n) (ht : t < n) : (busy (tabsOf p) (tabsOf p) t).Nodup := by
  have h64 := h.2.1
  have ht64 : t < 64 := by omega
  rw [List.nodup_iff_count]
  intro u
  by_cases hu : u ∈ busy (tabsOf p) (tabsOf p) t
  · have hu' := hu
    rw [busy_tab hn ht, List.mem_filter, List.mem_map] at hu'
    obtain ⟨⟨c, hc, e⟩, h0⟩ := hu'
    obtain ⟨hc16, _⟩ := csP_mem.1 hc
    have h0 : tkF p.places (c : Nat) t 0 ≠ 0 := by rw [e]; simpa using h0
    obtain ⟨x, hx, e2, hp⟩ := h.unit hc16 ht64 h0
    rw [← e, e2, h.bsy hn ht hx]
    have hne : x.pieces.length ≠ 0 := by intro z; rw [List.eq_nil_of_length_eq_zero z] at hp; simp at hp
    exact ((h.place hx).2.2.2.2 hne).2.1 t ht64 |>.1
  · rw [List.count_eq_zero_of_not_mem hu]; omega

/-- How often a unit was met. -/
def gotN (p : PlanD) (u : Int) : Nat → Nat
  | 0 => 0
  | t + 1 => gotN p u t + (busy (tabsOf p) (tabsOf p) t).count u
theorem gotN_le {p : PlanD} {u : Int} : ∀ t, gotN p u t ≤ 16 * t
  | 0 => Nat.le_refl _
  | t + 1 => by
    have := gotN_le (p := p) (u := u) t
    have h1 : (Go.Am.busy (tabsOf p) (tabsOf p) t).count u ≤ (Go.Am.busy (tabsOf p) (tabsOf p) t).length := List.count_le_length
    have := busy_len (L := tabsOf p) (l := tabsOf p) (t := t)
    have := tabsOf_len (p := p)
    show gotN p u t + _ ≤ _
    omega
theorem RightP.got {p : PlanD} (h : RightP p) {n : Nat} (hn : p.frame = n) {x : Pl} (hx : x ∈ p.places) : (x.pieces.length ≠ 0 → (gotN p x.unit n : Int) = x.share) ∧ (x.pieces.length = 0 → gotN p x.unit n = 0) := by
  have h64 := h.2.1
  have key : ∀ t, t ≤ n → gotN p x.unit t = sumA x t := by
    intro t
    induction t with
    | zero => intro _; rfl
    | succ t ih =>
      intro ht
      show gotN p x.unit t + _ = sumA x t + cntA x t
      rw [ih (by omega), h.bsy hn (by omega) hx]
  rw [key n (Nat.le_refl _)]
  constructor
  · intro hne
    have g := (h.place hx).2.2.2.2 hne
    have tail : ∀ k, n + k ≤ 64 → sumA x (n + k) = sumA x n := by
      intro k
      induction k with
      | zero => intro _; rfl
      | succ k ih =>
        intro hk
        show sumA x (n + k) + cntA x (n + k) = _
        rw [ih (by omega)]
        have := g.2.1 (n + k) (by omega)
        have : ¬ 0 < cntA x (n + k) := fun q => by have := this.2 q; omega
        omega
    have := tail (64 - n) (by omega)
    rw [show n + (64 - n) = 64 by omega] at this
    rw [← this]
    exact g.2.2.2.2
  · intro hz
    have hp := List.eq_nil_of_length_eq_zero hz
    have : ∀ t, sumA x t = 0 := by
      intro t
      induction t with
      | zero => rfl
      | succ t ih => show sumA x t + cntA x t = 0; rw [ih]; unfold cntA; rw [hp]; rfl
    exact this n

theorem countP_range_S {f : Nat → Bool} : ∀ n, (((List.range n).countP f : Nat) : Int) = S (fun t => if f t = true then 1 else 0) n
  | 0 => rfl
  | n + 1 => by
    rw [List.range_succ, List.countP_append, List.countP_singleton]
    show _ = S _ n + _
    rw [← countP_range_S n]
    by_cases h : f n = true <;> simp [h]

theorem RightP.loose {p : PlanD} (h : RightP p) {i : Nat} (hi : i < (tabsOf p).length) : sumW (tabsOf p)[i].wholes ≤ ((tabsOf p)[i].ticks.countP (fun y => decide (y = 0)) : Nat) := by
  obtain ⟨n, hn⟩ : ∃ n : Nat, p.frame = n := ⟨p.frame.toNat, by have := h.1; omega⟩
  have h64 := h.2.1
  have hi' : i < (csP p 16).length := by simpa [tabsOf] using hi
  have hmem := List.getElem_mem hi'
  have hload := h.2.2.2.2.2.2.2 _ hmem
  obtain ⟨hc16, hhas⟩ := csP_mem.1 hmem
  rw [← count_range (T := (tabsOf p)[i].ticks) (n := n) (by rw [tabsOf_ticks, hn]; simp)]
  have hw : (tabsOf p)[i].wholes = whL p.places ((csP p 16)[i] : Nat) := by simp [tabsOf, tabOf]
  have hget : ∀ t, t < n → (tabsOf p)[i].ticks.getD t 0 = tkF p.places ((csP p 16)[i] : Nat) t 0 := by
    intro t ht
    have hl : t < (tabsOf p)[i].ticks.length := by rw [tabsOf_ticks, hn]; simpa using ht
    rw [List.getD_eq_getElem?_getD, List.getElem?_eq_getElem hl, Option.getD_some]
    simp only [tabsOf, List.getElem_map, tabOf, tkL_get]
    rw [if_pos (by rw [hn]; simpa using ht)]
  rw [hw]
  generalize (csP p 16)[i] = c at *
  unfold loadR at hload
  rw [tks_S] at hload
  rw [countP_range_S]
  have e1 : S (fun t => if (rwN p.places c 64).getLsbD t = true then 1 else 0) 64 = S (fun t => if 0 < cntL p.places c t then 1 else 0) 64 := by
    apply S_congr
    intro t ht
    rw [rwN_bit ht]; simp [ht]
  have cut : ∀ k, n + k ≤ 64 → S (fun t => if 0 < cntL p.places c t then (1 : Int) else 0) (n + k) = S (fun t => if 0 < cntL p.places c t then 1 else 0) n := by
    intro k
    induction k with
    | zero => intro _; rfl
    | succ k ih =>
      intro hk
      show S _ (n + k) + _ = _
      rw [ih (by omega)]
      have : ¬ 0 < cntL p.places (c : Nat) ((n + k : Nat) : Int) := by
        intro g
        obtain ⟨y, hy, hcy⟩ := cntL_mem g
        have hne : y.pieces.length ≠ 0 := by intro z; rw [List.eq_nil_of_length_eq_zero z] at hcy; simp at hcy
        have g2 := (((h.place hy).2.2.2.2 hne).2.1 (n + k) (by omega)).2 (by
          unfold cntA
          obtain ⟨z, hz, hz2⟩ := List.countP_pos_iff.1 hcy
          refine List.countP_pos_iff.2 ⟨z, hz, ?_⟩
          rw [atB_eq (by omega)] at hz2
          rw [atB_all (by omega)]
          simp at hz2
          exact hz2.2)
        omega
      show _ + (if 0 < cntL p.places (c : Nat) ((n + k : Nat) : Int) then (1 : Int) else 0) = _
      rw [if_neg this]; omega
  have e2 := cut (64 - n) (by omega)
  rw [show n + (64 - n) = 64 by omega] at e2
  rw [e1, e2] at hload
  have e3 : S (fun t => if decide ((tabsOf p)[i].ticks.getD t 0 = 0) = true then 1 else 0) n = n - S (fun t => if 0 < cntL p.places c t then 1 else 0) n := by
    have : S (fun t => if decide ((tabsOf p)[i].ticks.getD t 0 = 0) = true then 1 else 0) n = S (fun t => 1 - (if 0 < cntL p.places c t then 1 else 0)) n := by
      apply S_congr
      intro t ht
      rw [hget t ht]
      have := h.at0 hc16 (t := t) (by omega)
      by_cases g : cntL p.places (c : Nat) (t : Nat) = 0
      · simp [this.2 g, g]
      · have g2 : ¬ tkF p.places (c : Nat) (t : Nat) 0 = 0 := fun e => g (this.1 e)
        have g3 : 0 < cntL p.places (c : Nat) (t : Nat) := by omega
        simp [g2, g3]
    rw [this, S_sub]
    congr 1
    have : ∀ k : Nat, S (fun _ => 1) k = k := by
      intro k; induction k with
      | zero => rfl
      | succ k ih => show S _ k + 1 = _; rw [ih]; omega
    exact this n
  rw [e3]
  omega
end Go.Am


/- Maps whose keys are whole numbers. -/
set_option linter.unusedVariables false
namespace Go.Am
variable {α : Type}

def mpL (e : α → Value) (L : List (Int × α)) : List (Value × Value) := L.map fun p => (.int .i64 p.1, e p.2)
def lkp : List (Int × α) → Int → Option α
  | [], _ => none
  | (k, a) :: r, x => if k = x then some a else lkp r x
def updL : List (Int × α) → Int → α → List (Int × α)
  | [], x, a => [(x, a)]
  | (k, b) :: r, x, a => if k = x then (x, a) :: r else (k, b) :: updL r x a
def delL : List (Int × α) → Int → List (Int × α)
  | [], _ => []
  | (k, b) :: r, x => if k = x then r else (k, b) :: delL r x

theorem lkp_upd {L : List (Int × α)} {x y : Int} {a : α} : lkp (updL L x a) y = if y = x then some a else lkp L y := by
  induction L with
  | nil => simp only [updL, lkp]; by_cases h : x = y <;> simp [h]; intro e; exact absurd e.symm h
  | cons p r ih =>
    obtain ⟨k, b⟩ := p
    simp only [updL]
    by_cases h : k = x
    · subst h
      simp only [if_true, lkp]
      by_cases g : k = y
      · subst g; simp
      · rw [if_neg g, if_neg (fun e => g e.symm), if_neg g]
    · simp only [h, if_false, lkp]
      by_cases g : k = y
      · subst g; rw [if_pos rfl, if_neg h, if_pos rfl]
      · rw [if_neg g, ih, if_neg g]

theorem findK_mp {e : α → Value} {x : Int} : ∀ (L : List (Int × α)) (i : Nat), (lkp L x = none → findK .int (.int .i64 x) (mpL e L) i = some none ∧ ∀ a, mpL e L ++ [(.int .i64 x, e a)] = mpL e (updL L x a)) ∧
    ∀ a, lkp L x = some a → ∃ j, findK .int (.int .i64 x) (mpL e L) i = some (some (i + j, e a)) ∧ (∀ b, (mpL e L).set j (.int .i64 x, e b) = mpL e (updL L x b)) ∧ (mpL e L).eraseIdx j = mpL e (delL L x)
  | [], i => ⟨fun _ => ⟨rfl, fun a => rfl⟩, fun a h => by simp [lkp] at h⟩
  | (k, b) :: r, i => by
    by_cases h : k = x
    · subst h
      refine ⟨fun h => by simp [lkp] at h, fun a ha => ?_⟩
      simp only [lkp, if_true, Option.some.injEq] at ha
      subst ha
      refine ⟨0, ?_, fun b => ?_, ?_⟩
      · simp [mpL, findK, keyEq]
      · simp [mpL, updL]
      · simp [mpL, delL]
    · have hk : keyEq .int (.int .i64 x) (.int .i64 k) = some false := by simp [keyEq]; exact fun e => h e.symm
      have hf : findK .int (.int .i64 x) (mpL e ((k, b) :: r)) i = findK .int (.int .i64 x) (mpL e r) (i + 1) := by
        show (match keyEq .int (.int .i64 x) (.int .i64 k) with | some true => _ | some false => _ | none => _) = _
        rw [hk]; rfl
      obtain ⟨h1, h2⟩ := findK_mp (e := e) r (i + 1)
      refine ⟨fun hn => ?_, fun a ha => ?_⟩
      · simp only [lkp, h, if_false] at hn
        obtain ⟨g1, g2⟩ := h1 hn
        refine ⟨by rw [hf, g1], fun a => ?_⟩
        simp only [updL, h, if_false]
        show (.int .i64 k, e b) :: (mpL e r ++ _) = _
        rw [g2]; rfl
      · simp only [lkp, h, if_false] at ha
        obtain ⟨j, g1, g2, g3⟩ := h2 a ha
        refine ⟨j + 1, by rw [hf, g1]; congr 3; omega, fun c => ?_, ?_⟩
        · simp only [updL, h, if_false]
          show (.int .i64 k, e b) :: ((mpL e r).set j _) = _
          rw [g2]; rfl
        · simp only [delL, h, if_false]
          show (.int .i64 k, e b) :: ((mpL e r).eraseIdx j) = _
          rw [g3]; rfl

/-- A map that is there. -/
structure Mp (m : Mem) (r : Nat) (e : α → Value) (L : List (Int × α)) : Prop where
  at_ : m.blk r = some (.map (mpL e L))
  lt : r < m.next
theorem Mp.new {m : Mem} {e : α → Value} : Mp (m.new (.map [])) m.next e [] := ⟨by simp [Mem.new, mpL], by simp [Mem.new]⟩
theorem Mp.keep {m m' : Mem} {r : Nat} {e : α → Value} {L : List (Int × α)} (h : Mp m r e L) (hx : Ext m m') : Mp m' r e L := ⟨by rw [hx.same _ h.lt]; exact h.at_, Nat.lt_of_lt_of_le h.lt hx.next⟩
theorem Mp.upd {m m' : Mem} {r : Nat} {e : α → Value} {L : List (Int × α)} {fp : List Nat} (h : Mp m r e L) (hx : Upd m m' fp) (hn : r ∉ fp) : Mp m' r e L := ⟨by rw [hx.same _ h.lt hn]; exact h.at_, Nat.lt_of_lt_of_le h.lt hx.next⟩
theorem Mp.other {m : Mem} {r b : Nat} {e : α → Value} {L : List (Int × α)} {o : Option AObj} (h : Mp m r e L) (hn : r ≠ b) : Mp (m.set b o) r e L := ⟨by simp [Mem.set, hn]; exact h.at_, h.lt⟩
theorem Mp.self {m : Mem} {r : Nat} {e : α → Value} {L L' : List (Int × α)} (h : Mp m r e L) : Mp (m.set r (some (.map (mpL e L')))) r e L' := ⟨by simp [Mem.set], h.lt⟩

theorem Mp.look {m : Mem} {r : Nat} {e : α → Value} {L : List (Int × α)} (h : Mp m r e L) {x : Int} {z : α} : aLook .int (e z) false m (.map (some r)) (.int .i64 x) = some (e ((lkp L x).getD z)) := by
  simp only [aLook, h.at_, Option.bind_some]
  obtain ⟨h1, h2⟩ := findK_mp (e := e) (x := x) L 0
  cases hl : lkp L x with
  | none => rw [(h1 hl).1]; rfl
  | some a =>
    obtain ⟨j, g, -⟩ := h2 a hl
    rw [g]; rfl
theorem Mp.look_ok {m : Mem} {r : Nat} {e : α → Value} {L : List (Int × α)} (h : Mp m r e L) {x : Int} {z : α} : aLook .int (e z) true m (.map (some r)) (.int .i64 x) = some (.tuple #[e ((lkp L x).getD z), .bool (lkp L x).isSome]) := by
  simp only [aLook, h.at_, Option.bind_some]
  obtain ⟨h1, h2⟩ := findK_mp (e := e) (x := x) L 0
  cases hl : lkp L x with
  | none => rw [(h1 hl).1]; rfl
  | some a =>
    obtain ⟨j, g, -⟩ := h2 a hl
    rw [g]; rfl
theorem Mp.put {m : Mem} {r : Nat} {e : α → Value} {L : List (Int × α)} (h : Mp m r e L) {x : Int} {a : α} : aUpd .int m (.map (some r)) (.int .i64 x) (e a) = some (m.set r (some (.map (mpL e (updL L x a))))) := by
  simp only [aUpd, h.at_]
  obtain ⟨h1, h2⟩ := findK_mp (e := e) (x := x) L 0
  cases hl : lkp L x with
  | none => rw [(h1 hl).1]; simp only [Option.map_some]; rw [(h1 hl).2]
  | some b =>
    obtain ⟨j, g, g2, -⟩ := h2 b hl
    rw [g]; simp only [Option.map_some, Nat.zero_add]; rw [g2]
theorem Mp.del {m : Mem} {r : Nat} {e : α → Value} {L : List (Int × α)} (h : Mp m r e L) {x : Int} : ∃ L', L' = (if (lkp L x).isSome then delL L x else L) ∧ ∃ m', aDel .int m (.map (some r)) (.int .i64 x) = some m' ∧ Mp m' r e L' ∧ Upd m m' [r] := by
  refine ⟨_, rfl, ?_⟩
  simp only [aDel, h.at_]
  obtain ⟨h1, h2⟩ := findK_mp (e := e) (x := x) L 0
  cases hl : lkp L x with
  | none => rw [(h1 hl).1]; exact ⟨m, rfl, h, Upd.refl _ _⟩
  | some b =>
    obtain ⟨j, g, -, g3⟩ := h2 b hl
    rw [g]; simp only [Option.map_some, Nat.zero_add]
    rw [g3]
    exact ⟨_, rfl, h.self, Upd.set (by simp)⟩

abbrev vI (n : Int) : Value := .int .i64 n
abbrev vB (b : Bool) : Value := .bool b
end Go.Am


/- The law TableTwice walks. -/
set_option linter.unusedVariables false
set_option linter.unusedSimpArgs false
namespace Go.Am
open Classical
variable {m : Mem}

abbrev mpV (r : Nat) : Value := .map (some r)

theorem Tw4_loop {g q : Nat} {t : Int} {b : List Int} {v1 v3 bv : Value} {GL : List (Int × Int)} (hg : Mp m g vI GL) (hq : Mp m q vB []) (hne : g ≠ q) (hs : Sl m 1 b.length (intsZ b) bv) (hlt : SlLt m bv) (hoff : SlOff [g, q] bv) (hnd : b.Nodup)
    (hG : ∀ u, 0 ≤ (lkp GL u).getD 0 ∧ (lkp GL u).getD 0 < 1000000) (hl : b.length < 1000000) :
    WL R [1, 3, 5, 6, 7, 8, 9] RB.law17_TableTwice_4 [(1, v1), (3, v3), (5, mpV g), (6, .int .i64 t), (7, mpV q), (8, bv), (9, .int .i64 0)] m fun x e m' =>
      x = .exit 2 ∧ e = [(1, v1), (3, v3), (5, mpV g), (6, .int .i64 t), (7, mpV q), (8, bv), (9, .int .i64 b.length), (45, .bool false)] ∧ Upd m m' [g, q] ∧ ∃ GL', Mp m' g vI GL' ∧ ∀ u, (lkp GL' u).getD 0 = (lkp GL u).getD 0 + b.count u := by
  refine WL.of (fun r e m' => ∃ k : Nat, k ≤ b.length ∧ r = b.length - k ∧ e = [(1, v1), (3, v3), (5, mpV g), (6, .int .i64 t), (7, mpV q), (8, bv), (9, .int .i64 k)] ∧ Upd m m' [g, q] ∧
      (∃ GL', Mp m' g vI GL' ∧ ∀ u, (lkp GL' u).getD 0 = (lkp GL u).getD 0 + (b.take k).count u) ∧ ∃ ML, Mp m' q vB ML ∧ ∀ u, (lkp ML u).getD false = decide (u ∈ b.take k)) b.length
    ⟨0, by omega, by omega, by simp only [go_sem, Bool.false_and, new_set, Int.reduceBEq, Int.reduceBNe, Int.reduceNeg, not_true_eq_false, beq_self_eq_true, bne_self_eq_false, Bool.false_eq_true, if_false, if_true, Int.cast_ofNat_Int, decide_true, decide_false, reduceCtorEq, Nat.reduceEqDiff, Nat.reduceAdd, ne_eq, not_false_eq_true, Option.map_some, Option.bind_some, Option.map_none, Option.bind_none, true_and, and_true, Bool.not_true, Bool.not_false, Nat.reduceLeDiff, Nat.reduceMul, Nat.reduceSub, Nat.le_refl, Int.reduceToNat, Int.reduceLT, Int.reduceLE, Nat.one_mul, Nat.mul_one] <;> rfl, Upd.refl _ _, ⟨GL, hg, by simp⟩, ⟨[], hq, by simp [lkp]⟩⟩ ?_
  rintro _ _ m1 ⟨k, hk, rfl, rfl, hu1, ⟨GL1, hg1, hG1⟩, ⟨ML1, hq1, hM1⟩⟩
  have hs1 := hs.upd hlt hoff hu1
  simp only [RB.law17_TableTwice_4, go_sem, Bool.false_and, new_set, Int.reduceBEq, Int.reduceBNe, Int.reduceNeg, not_true_eq_false, beq_self_eq_true, bne_self_eq_false, Bool.false_eq_true, if_false, if_true, Int.cast_ofNat_Int, decide_true, decide_false, reduceCtorEq, Nat.reduceEqDiff, Nat.reduceAdd, ne_eq, not_false_eq_true, Option.map_some, Option.bind_some, Option.map_none, Option.bind_none, true_and, and_true, Bool.not_true, Bool.not_false, Nat.reduceLeDiff, Nat.reduceMul, Nat.reduceSub, Nat.le_refl, Int.reduceToNat, Int.reduceLT, Int.reduceLE, Nat.one_mul, Nat.mul_one, hs1.len]
  refine gT.of (fun h1' => ?_) (fun h1' => ?_) <;> (have h1 := h1'; try simp only [decide_eq_true_eq, decide_eq_false_iff_not, beq_iff_eq, bne_iff_ne, beq_eq_false_iff_ne, ne_eq, Bool.not_eq_true', Bool.not_eq_false', bne_eq_false_iff_eq, Int.not_lt, Int.not_le] at h1)
  · have hkl : k < b.length := by omega
    obtain ⟨bb, o, e1, e2, e3⟩ := hs1.getP (k := .i64) (i := k) hkl
    rw [intsZ_get' hkl] at e2
    rw [load_w] at e2
    have hbl := e3 (hlt.upd hu1)
    have hbo : bb ≠ g ∧ bb ≠ q := by
      cases hs with
      | nil h hc => omega
      | @«at» b' o' c' hc h =>
        simp only [aIdxS] at e1
        rw [if_pos (by omega)] at e1
        cases e1
        simp only [SlOff, List.mem_cons, List.not_mem_nil, or_false, not_or] at hoff
        exact hoff
    have hnm : b[k] ∉ b.take k := by
      intro hm
      obtain ⟨j, hj, e⟩ := List.getElem_of_mem hm
      rw [List.getElem_take] at e
      rw [List.length_take] at hj
      exact List.pairwise_iff_getElem.1 hnd j k (by omega) hkl (by omega) e
    have hm0 : (lkp ML1 b[k]).getD false = false := by rw [hM1]; simpa using hnm
    have hg0 : (lkp GL1 b[k]).getD 0 = (lkp GL b[k]).getD 0 := by rw [hG1, List.count_eq_zero_of_not_mem hnm]; simp
    have hgb := hG b[k]
    have tk : b.take (k + 1) = b.take k ++ [b[k]] := List.take_succ_eq_append_getElem hkl
    generalize b[k] = u at *
    have lk := hq1.look (x := u) (z := false)
    rw [hm0] at lk
    simp only [vB] at lk
    have pt1 := hq1.put (x := u) (a := true)
    simp only [vB] at pt1
    simp only [go_sem, Bool.false_and, new_set, Int.reduceBEq, Int.reduceBNe, Int.reduceNeg, not_true_eq_false, beq_self_eq_true, bne_self_eq_false, Bool.false_eq_true, if_false, if_true, Int.cast_ofNat_Int, decide_true, decide_false, reduceCtorEq, Nat.reduceEqDiff, Nat.reduceAdd, ne_eq, not_false_eq_true, Option.map_some, Option.bind_some, Option.map_none, Option.bind_none, true_and, and_true, Bool.not_true, Bool.not_false, Nat.reduceLeDiff, Nat.reduceMul, Nat.reduceSub, Nat.le_refl, Int.reduceToNat, Int.reduceLT, Int.reduceLE, Nat.one_mul, Nat.mul_one, load_w, load_a, store_b, idxS_b, set_blk, new_blk, set_next, new_next, len_s, ldW_c, ldA_c, stB_c, toArr_one, size_one, toList_toArr, size_toArr, List.length_cons, List.length_nil, List.getElem?_cons_zero, List.getElem?_cons_succ, Nat.zero_add, Nat.add_zero, h1', e1, e2, lk, pt1]
    have hg2 := hg1.other (o := some (.map (mpL vB (updL ML1 u true)))) hne
    have hq2 := hq1.self (L' := updL ML1 u true)
    have sm : (m1.set q (some (.map (mpL vB (updL ML1 u true))))).blk bb = m1.blk bb := by simp [Mem.set, hbo.2]
    have lk2 := hg2.look (x := u) (z := 0)
    rw [hg0] at lk2
    simp only [vI] at lk2
    have hw : IntKind.wrap .i64 ((lkp GL u).getD 0 + 1) = (lkp GL u).getD 0 + 1 := wrap_i64 (by omega) (by omega)
    have pt2 := hg2.put (x := u) (a := (lkp GL u).getD 0 + 1)
    simp only [vI] at pt2
    have hbq := hbo.2
    simp only [load_w, load_a, store_b, idxS_b, set_blk, new_blk, set_next, new_next, len_s, ldW_c, ldA_c, stB_c, toArr_one, size_one, toList_toArr, size_toArr, List.length_cons, List.length_nil, List.getElem?_cons_zero, List.getElem?_cons_succ, Nat.zero_add, Nat.add_zero, e2, hbq, lk2, go_sem, Bool.false_and, new_set, Int.reduceBEq, Int.reduceBNe, Int.reduceNeg, not_true_eq_false, beq_self_eq_true, bne_self_eq_false, Bool.false_eq_true, if_false, if_true, Int.cast_ofNat_Int, decide_true, decide_false, reduceCtorEq, Nat.reduceEqDiff, Nat.reduceAdd, ne_eq, not_false_eq_true, Option.map_some, Option.bind_some, Option.map_none, Option.bind_none, true_and, and_true, Bool.not_true, Bool.not_false, Nat.reduceLeDiff, Nat.reduceMul, Nat.reduceSub, Nat.le_refl, Int.reduceToNat, Int.reduceLT, Int.reduceLE, Nat.one_mul, Nat.mul_one, hw, pt2, step1 (show k < 1000000 by omega)]
    refine ⟨b.length - (k + 1), by omega, k + 1, by omega, rfl, rfl, (hu1.st (.inl (by simp))).st (.inl (by simp)), ⟨_, hg2.self, fun x => ?_⟩, ⟨_, hq2.other (fun e => hne e.symm), fun x => ?_⟩⟩
    · rw [lkp_upd, tk, List.count_append]
      by_cases hx : x = u
      · subst hx
        rw [if_pos rfl, List.count_eq_zero_of_not_mem hnm]; simp
      · rw [if_neg hx, hG1]
        have : [u].count x = 0 := by rw [List.count_eq_zero_of_not_mem]; simpa using hx
        omega
    · rw [lkp_upd, tk]
      by_cases hx : x = u
      · subst hx; simp
      · rw [if_neg hx, hM1]; simp [hx]
  · have : k = b.length := by omega
    subst this
    rw [List.take_length] at hG1
    simp only [go_sem, Bool.false_and, new_set, Int.reduceBEq, Int.reduceBNe, Int.reduceNeg, not_true_eq_false, beq_self_eq_true, bne_self_eq_false, Bool.false_eq_true, if_false, if_true, Int.cast_ofNat_Int, decide_true, decide_false, reduceCtorEq, Nat.reduceEqDiff, Nat.reduceAdd, ne_eq, not_false_eq_true, Option.map_some, Option.bind_some, Option.map_none, Option.bind_none, true_and, and_true, Bool.not_true, Bool.not_false, Nat.reduceLeDiff, Nat.reduceMul, Nat.reduceSub, Nat.le_refl, Int.reduceToNat, Int.reduceLT, Int.reduceLE, Nat.one_mul, Nat.mul_one, load_w, load_a, store_b, idxS_b, set_blk, new_blk, set_next, new_next, len_s, ldW_c, ldA_c, stB_c, toArr_one, size_one, toList_toArr, size_toArr, List.length_cons, List.length_nil, List.getElem?_cons_zero, List.getElem?_cons_succ, Nat.zero_add, Nat.add_zero, h1']
    exact ⟨hu1, GL1, hg1, hG1⟩

theorem Tw1_loop {l : List TabD} {lv : Value} {i : Nat} (hv : TbsV m l lv) (hi : i < l.length) (hw : ∀ x ∈ l[i].wholes, 0 ≤ x.2 ∧ x.2 ≤ 64) (hl : l[i].wholes.length < 1000000) :
    WL R [3, 12, 13, 14] RB.law17_TableTwice_1 [(3, lv), (12, .int .i64 i), (13, .int .i64 0), (14, .int .i64 0)] m fun x e m' =>
      x = .exit 8 ∧ e = [(3, lv), (12, .int .i64 i), (13, .int .i64 (sumW l[i].wholes)), (14, .int .i64 l[i].wholes.length), (117, .bool false)] ∧ m' = m := by
  obtain ⟨b, o, tv, wv, a1, a2, a3, a4, a5⟩ := hv.elem hi
  have a32 := a3 2 (by omega)
  simp only [tbV, List.getElem?_cons_zero, List.getElem?_cons_succ] at a32
  rw [load_w] at a32
  generalize l[i] = x at *
  have hb : ∀ k, k ≤ x.wholes.length → 0 ≤ sumW (x.wholes.take k) ∧ sumW (x.wholes.take k) ≤ 64 * k := by
    intro k
    induction k with
    | zero => intro _; simp [sumW]
    | succ k ih =>
      intro hk
      have := ih (by omega)
      have hm := hw _ (List.getElem_mem (show k < x.wholes.length by omega))
      rw [sumW_succ (by omega)]
      omega
  refine WL.of (fun r e m' => ∃ k : Nat, k ≤ x.wholes.length ∧ r = x.wholes.length - k ∧ e = [(3, lv), (12, .int .i64 i), (13, .int .i64 (sumW (x.wholes.take k))), (14, .int .i64 k)] ∧ m' = m) x.wholes.length
    ⟨0, by omega, by omega, by simp only [go_sem, Bool.false_and, new_set, Int.reduceBEq, Int.reduceBNe, Int.reduceNeg, not_true_eq_false, beq_self_eq_true, bne_self_eq_false, Bool.false_eq_true, if_false, if_true, Int.cast_ofNat_Int, decide_true, decide_false, reduceCtorEq, Nat.reduceEqDiff, Nat.reduceAdd, ne_eq, not_false_eq_true, Option.map_some, Option.bind_some, Option.map_none, Option.bind_none, true_and, and_true, Bool.not_true, Bool.not_false, Nat.reduceLeDiff, Nat.reduceMul, Nat.reduceSub, Nat.le_refl, Int.reduceToNat, Int.reduceLT, Int.reduceLE, Nat.one_mul, Nat.mul_one] <;> rfl, rfl⟩ ?_
  rintro _ _ _ ⟨k, hk, rfl, rfl, hm⟩
  replace hm := hm.symm
  subst hm
  simp only [RB.law17_TableTwice_1, go_sem, Bool.false_and, new_set, Int.reduceBEq, Int.reduceBNe, Int.reduceNeg, not_true_eq_false, beq_self_eq_true, bne_self_eq_false, Bool.false_eq_true, if_false, if_true, Int.cast_ofNat_Int, decide_true, decide_false, reduceCtorEq, Nat.reduceEqDiff, Nat.reduceAdd, ne_eq, not_false_eq_true, Option.map_some, Option.bind_some, Option.map_none, Option.bind_none, true_and, and_true, Bool.not_true, Bool.not_false, Nat.reduceLeDiff, Nat.reduceMul, Nat.reduceSub, Nat.le_refl, Int.reduceToNat, Int.reduceLT, Int.reduceLE, Nat.one_mul, Nat.mul_one, load_w, load_a, store_b, idxS_b, set_blk, new_blk, set_next, new_next, len_s, ldW_c, ldA_c, stB_c, toArr_one, size_one, toList_toArr, size_toArr, List.length_cons, List.length_nil, List.getElem?_cons_zero, List.getElem?_cons_succ, Nat.zero_add, Nat.add_zero, a1, a32, a4.ws.len]
  refine gT.of (fun h1' => ?_) (fun h1' => ?_) <;> (have h1 := h1'; try simp only [decide_eq_true_eq, decide_eq_false_iff_not, beq_iff_eq, bne_iff_ne, beq_eq_false_iff_ne, ne_eq, Bool.not_eq_true', Bool.not_eq_false', bne_eq_false_iff_eq, Int.not_lt, Int.not_le] at h1)
  · have hkl : k < x.wholes.length := by omega
    obtain ⟨b', o', c1, c2, c3, c4⟩ := a4.ws.elem wtV_len (k := .i64) hkl
    have c31 := c3 1 (by omega)
    simp only [wtV, List.getElem?_cons_zero, List.getElem?_cons_succ] at c31
    rw [load_w] at c31
    have h3 := hb k (by omega)
    have h4 := hb (k + 1) (by omega)
    rw [sumW_succ hkl] at h4
    have hwr : IntKind.wrap .i64 (sumW (x.wholes.take k) + x.wholes[k].2) = sumW (x.wholes.take k) + x.wholes[k].2 := wrap_i64 (by omega) (by omega)
    simp only [go_sem, Bool.false_and, new_set, Int.reduceBEq, Int.reduceBNe, Int.reduceNeg, not_true_eq_false, beq_self_eq_true, bne_self_eq_false, Bool.false_eq_true, if_false, if_true, Int.cast_ofNat_Int, decide_true, decide_false, reduceCtorEq, Nat.reduceEqDiff, Nat.reduceAdd, ne_eq, not_false_eq_true, Option.map_some, Option.bind_some, Option.map_none, Option.bind_none, true_and, and_true, Bool.not_true, Bool.not_false, Nat.reduceLeDiff, Nat.reduceMul, Nat.reduceSub, Nat.le_refl, Int.reduceToNat, Int.reduceLT, Int.reduceLE, Nat.one_mul, Nat.mul_one, load_w, load_a, store_b, idxS_b, set_blk, new_blk, set_next, new_next, len_s, ldW_c, ldA_c, stB_c, toArr_one, size_one, toList_toArr, size_toArr, List.length_cons, List.length_nil, List.getElem?_cons_zero, List.getElem?_cons_succ, Nat.zero_add, Nat.add_zero, h1', a1, a32, c1, c31, hwr, step1 (show k < 1000000 by omega)]
    exact ⟨x.wholes.length - (k + 1), by omega, k + 1, by omega, rfl, by rw [sumW_succ hkl]⟩
  · have : k = x.wholes.length := by omega
    subst this
    simp only [go_sem, Bool.false_and, new_set, Int.reduceBEq, Int.reduceBNe, Int.reduceNeg, not_true_eq_false, beq_self_eq_true, bne_self_eq_false, Bool.false_eq_true, if_false, if_true, Int.cast_ofNat_Int, decide_true, decide_false, reduceCtorEq, Nat.reduceEqDiff, Nat.reduceAdd, ne_eq, not_false_eq_true, Option.map_some, Option.bind_some, Option.map_none, Option.bind_none, true_and, and_true, Bool.not_true, Bool.not_false, Nat.reduceLeDiff, Nat.reduceMul, Nat.reduceSub, Nat.le_refl, Int.reduceToNat, Int.reduceLT, Int.reduceLE, Nat.one_mul, Nat.mul_one, load_w, load_a, store_b, idxS_b, set_blk, new_blk, set_next, new_next, len_s, ldW_c, ldA_c, stB_c, toArr_one, size_one, toList_toArr, size_toArr, List.length_cons, List.length_nil, List.getElem?_cons_zero, List.getElem?_cons_succ, Nat.zero_add, Nat.add_zero, h1']
    rw [List.take_length]
end Go.Am


/- The law TableTwice. -/
set_option linter.unusedVariables false
set_option linter.unusedSimpArgs false
namespace Go.Am
open Classical
variable {m : Mem}

set_option maxHeartbeats 4000000 in
theorem TableTwice_spec {p : PlanD} {v : Value} (hv : PlanV m p v) : WC R F.law17_TableTwice [v] m fun v m' => v = .bool true := by
  refine WC.of R.law17_TableTwice rfl ?_
  obtain ⟨pv, rfl, hp⟩ := hv
  simp only [RC.law17_TableTwice, planV, go_sem, Bool.false_and, new_set, Int.reduceBEq, Int.reduceBNe, Int.reduceNeg, not_true_eq_false, beq_self_eq_true, bne_self_eq_false, Bool.false_eq_true, if_false, if_true, Int.cast_ofNat_Int, decide_true, decide_false, reduceCtorEq, Nat.reduceEqDiff, Nat.reduceAdd, ne_eq, not_false_eq_true, Option.map_some, Option.bind_some, Option.map_none, Option.bind_none, true_and, and_true, Bool.not_true, Bool.not_false, Nat.reduceLeDiff, Nat.reduceMul, Nat.reduceSub, Nat.le_refl, Int.reduceToNat, Int.reduceLT, Int.reduceLE, Nat.one_mul, Nat.mul_one, hp.one]
  have hx : Ext m (m.new (.cells [.int .i64 p.frame, u32 p.cores, pv] (some 3))) := Ext.new
  have hb : Bk (m.new (.cells [.int .i64 p.frame, u32 p.cores, pv] (some 3))) m.next [.int .i64 p.frame, u32 p.cores, pv] 3 := Bk.new
  generalize m.new (.cells [.int .i64 p.frame, u32 p.cores, pv] (some 3)) = m1 at hx hb ⊢
  have hp := hp.keep hx
  try simp only [go_sem, Bool.false_and, new_set, Int.reduceBEq, Int.reduceBNe, Int.reduceNeg, not_true_eq_false, beq_self_eq_true, bne_self_eq_false, Bool.false_eq_true, if_false, if_true, Int.cast_ofNat_Int, decide_true, decide_false, reduceCtorEq, Nat.reduceEqDiff, Nat.reduceAdd, ne_eq, not_false_eq_true, Option.map_some, Option.bind_some, Option.map_none, Option.bind_none, true_and, and_true, Bool.not_true, Bool.not_false, Nat.reduceLeDiff, Nat.reduceMul, Nat.reduceSub, Nat.le_refl, Int.reduceToNat, Int.reduceLT, Int.reduceLE, Nat.one_mul, Nat.mul_one, load_w, load_a, store_b, idxS_b, set_blk, new_blk, set_next, new_next, len_s, ldW_c, ldA_c, stB_c, toArr_one, size_one, toList_toArr, size_toArr, List.length_cons, List.length_nil, List.getElem?_cons_zero, List.getElem?_cons_succ, Nat.zero_add, Nat.add_zero, hb.at_]
  refine gC.of (Light_spec (p := p) ⟨pv, rfl, hp⟩) ?_
  rintro _ m2 ⟨rfl, hx2⟩
  simp only [go_sem, Bool.false_and, new_set, Int.reduceBEq, Int.reduceBNe, Int.reduceNeg, not_true_eq_false, beq_self_eq_true, bne_self_eq_false, Bool.false_eq_true, if_false, if_true, Int.cast_ofNat_Int, decide_true, decide_false, reduceCtorEq, Nat.reduceEqDiff, Nat.reduceAdd, ne_eq, not_false_eq_true, Option.map_some, Option.bind_some, Option.map_none, Option.bind_none, true_and, and_true, Bool.not_true, Bool.not_false, Nat.reduceLeDiff, Nat.reduceMul, Nat.reduceSub, Nat.le_refl, Int.reduceToNat, Int.reduceLT, Int.reduceLE, Nat.one_mul, Nat.mul_one]
  have hp := hp.keep hx2
  have hb := hb.keep hx2
  try simp only [go_sem, Bool.false_and, new_set, Int.reduceBEq, Int.reduceBNe, Int.reduceNeg, not_true_eq_false, beq_self_eq_true, bne_self_eq_false, Bool.false_eq_true, if_false, if_true, Int.cast_ofNat_Int, decide_true, decide_false, reduceCtorEq, Nat.reduceEqDiff, Nat.reduceAdd, ne_eq, not_false_eq_true, Option.map_some, Option.bind_some, Option.map_none, Option.bind_none, true_and, and_true, Bool.not_true, Bool.not_false, Nat.reduceLeDiff, Nat.reduceMul, Nat.reduceSub, Nat.le_refl, Int.reduceToNat, Int.reduceLT, Int.reduceLE, Nat.one_mul, Nat.mul_one, load_w, load_a, store_b, idxS_b, set_blk, new_blk, set_next, new_next, len_s, ldW_c, ldA_c, stB_c, toArr_one, size_one, toList_toArr, size_toArr, List.length_cons, List.length_nil, List.getElem?_cons_zero, List.getElem?_cons_succ, Nat.zero_add, Nat.add_zero, hb.at_]
  refine gT.of (fun h1' => ?_) (fun h1' => ?_) <;> (have h1 := h1'; try simp only [decide_eq_true_eq, decide_eq_false_iff_not, beq_iff_eq, bne_iff_ne, beq_eq_false_iff_ne, ne_eq, Bool.not_eq_true', Bool.not_eq_false', bne_eq_false_iff_eq, Int.not_lt, Int.not_le] at h1)
  · simp only [go_sem, Bool.false_and, new_set, Int.reduceBEq, Int.reduceBNe, Int.reduceNeg, not_true_eq_false, beq_self_eq_true, bne_self_eq_false, Bool.false_eq_true, if_false, if_true, Int.cast_ofNat_Int, decide_true, decide_false, reduceCtorEq, Nat.reduceEqDiff, Nat.reduceAdd, ne_eq, not_false_eq_true, Option.map_some, Option.bind_some, Option.map_none, Option.bind_none, true_and, and_true, Bool.not_true, Bool.not_false, Nat.reduceLeDiff, Nat.reduceMul, Nat.reduceSub, Nat.le_refl, Int.reduceToNat, Int.reduceLT, Int.reduceLE, Nat.one_mul, Nat.mul_one, load_w, load_a, store_b, idxS_b, set_blk, new_blk, set_next, new_next, len_s, ldW_c, ldA_c, stB_c, toArr_one, size_one, toList_toArr, size_toArr, List.length_cons, List.length_nil, List.getElem?_cons_zero, List.getElem?_cons_succ, Nat.zero_add, Nat.add_zero, h1']
    refine gC.of (ok_spec R.law17_awake) ?_
    rintro _ m_ ⟨rfl, hm_⟩
    replace hm_ := hm_.symm
    subst hm_
    simp only [go_sem, Bool.false_and, new_set, Int.reduceBEq, Int.reduceBNe, Int.reduceNeg, not_true_eq_false, beq_self_eq_true, bne_self_eq_false, Bool.false_eq_true, if_false, if_true, Int.cast_ofNat_Int, decide_true, decide_false, reduceCtorEq, Nat.reduceEqDiff, Nat.reduceAdd, ne_eq, not_false_eq_true, Option.map_some, Option.bind_some, Option.map_none, Option.bind_none, true_and, and_true, Bool.not_true, Bool.not_false, Nat.reduceLeDiff, Nat.reduceMul, Nat.reduceSub, Nat.le_refl, Int.reduceToNat, Int.reduceLT, Int.reduceLE, Nat.one_mul, Nat.mul_one]
  · have hl := light_l (p := p) (by simpa using h1')
    simp only [go_sem, Bool.false_and, new_set, Int.reduceBEq, Int.reduceBNe, Int.reduceNeg, not_true_eq_false, beq_self_eq_true, bne_self_eq_false, Bool.false_eq_true, if_false, if_true, Int.cast_ofNat_Int, decide_true, decide_false, reduceCtorEq, Nat.reduceEqDiff, Nat.reduceAdd, ne_eq, not_false_eq_true, Option.map_some, Option.bind_some, Option.map_none, Option.bind_none, true_and, and_true, Bool.not_true, Bool.not_false, Nat.reduceLeDiff, Nat.reduceMul, Nat.reduceSub, Nat.le_refl, Int.reduceToNat, Int.reduceLT, Int.reduceLE, Nat.one_mul, Nat.mul_one, load_w, load_a, store_b, idxS_b, set_blk, new_blk, set_next, new_next, len_s, ldW_c, ldA_c, stB_c, toArr_one, size_one, toList_toArr, size_toArr, List.length_cons, List.length_nil, List.getElem?_cons_zero, List.getElem?_cons_succ, Nat.zero_add, Nat.add_zero, h1', hb.at_]
    refine gC.of (refRight_spec (p := p) ⟨pv, rfl, hp⟩ hl.len hl.pcs) ?_
    rintro _ m3 ⟨rfl, hx3⟩
    simp only [go_sem, Bool.false_and, new_set, Int.reduceBEq, Int.reduceBNe, Int.reduceNeg, not_true_eq_false, beq_self_eq_true, bne_self_eq_false, Bool.false_eq_true, if_false, if_true, Int.cast_ofNat_Int, decide_true, decide_false, reduceCtorEq, Nat.reduceEqDiff, Nat.reduceAdd, ne_eq, not_false_eq_true, Option.map_some, Option.bind_some, Option.map_none, Option.bind_none, true_and, and_true, Bool.not_true, Bool.not_false, Nat.reduceLeDiff, Nat.reduceMul, Nat.reduceSub, Nat.le_refl, Int.reduceToNat, Int.reduceLT, Int.reduceLE, Nat.one_mul, Nat.mul_one]
    have hp := hp.keep hx3
    have hb := hb.keep hx3
    rcases Classical.em (RightP p) with hR | hR
    case inr =>
      rw [decide_eq_false hR]
      simp only [go_sem, Bool.false_and, new_set, Int.reduceBEq, Int.reduceBNe, Int.reduceNeg, not_true_eq_false, beq_self_eq_true, bne_self_eq_false, Bool.false_eq_true, if_false, if_true, Int.cast_ofNat_Int, decide_true, decide_false, reduceCtorEq, Nat.reduceEqDiff, Nat.reduceAdd, ne_eq, not_false_eq_true, Option.map_some, Option.bind_some, Option.map_none, Option.bind_none, true_and, and_true, Bool.not_true, Bool.not_false, Nat.reduceLeDiff, Nat.reduceMul, Nat.reduceSub, Nat.le_refl, Int.reduceToNat, Int.reduceLT, Int.reduceLE, Nat.one_mul, Nat.mul_one, load_w, load_a, store_b, idxS_b, set_blk, new_blk, set_next, new_next, len_s, ldW_c, ldA_c, stB_c, toArr_one, size_one, toList_toArr, size_toArr, List.length_cons, List.length_nil, List.getElem?_cons_zero, List.getElem?_cons_succ, Nat.zero_add, Nat.add_zero]
      refine gC.of (ok_spec R.law17_awake) ?_
      rintro _ m_ ⟨rfl, hm_⟩
      replace hm_ := hm_.symm
      subst hm_
      simp only [go_sem, Bool.false_and, new_set, Int.reduceBEq, Int.reduceBNe, Int.reduceNeg, not_true_eq_false, beq_self_eq_true, bne_self_eq_false, Bool.false_eq_true, if_false, if_true, Int.cast_ofNat_Int, decide_true, decide_false, reduceCtorEq, Nat.reduceEqDiff, Nat.reduceAdd, ne_eq, not_false_eq_true, Option.map_some, Option.bind_some, Option.map_none, Option.bind_none, true_and, and_true, Bool.not_true, Bool.not_false, Nat.reduceLeDiff, Nat.reduceMul, Nat.reduceSub, Nat.le_refl, Int.reduceToNat, Int.reduceLT, Int.reduceLE, Nat.one_mul, Nat.mul_one]
    rw [decide_eq_true hR]
    have h2 := hR.1
    have h64 := hR.2.1
    obtain ⟨n, hn⟩ : ∃ n : Nat, p.frame = n := ⟨p.frame.toNat, by omega⟩
    simp only [go_sem, Bool.false_and, new_set, Int.reduceBEq, Int.reduceBNe, Int.reduceNeg, not_true_eq_false, beq_self_eq_true, bne_self_eq_false, Bool.false_eq_true, if_false, if_true, Int.cast_ofNat_Int, decide_true, decide_false, reduceCtorEq, Nat.reduceEqDiff, Nat.reduceAdd, ne_eq, not_false_eq_true, Option.map_some, Option.bind_some, Option.map_none, Option.bind_none, true_and, and_true, Bool.not_true, Bool.not_false, Nat.reduceLeDiff, Nat.reduceMul, Nat.reduceSub, Nat.le_refl, Int.reduceToNat, Int.reduceLT, Int.reduceLE, Nat.one_mul, Nat.mul_one, load_w, load_a, store_b, idxS_b, set_blk, new_blk, set_next, new_next, len_s, ldW_c, ldA_c, stB_c, toArr_one, size_one, toList_toArr, size_toArr, List.length_cons, List.length_nil, List.getElem?_cons_zero, List.getElem?_cons_succ, Nat.zero_add, Nat.add_zero, hb.at_]
    refine gC.of (Of_spec (p := p) ⟨pv, rfl, hp⟩ hl) ?_
    rintro r m4 ⟨hyes, -, hx4⟩
    obtain ⟨w, rfl, ho⟩ := hyes hR
    have hp := hp.keep hx4
    have hb := hb.keep hx4
    have hs := ho.tbs
    have hlen := tabsOf_len (p := p)
    simp only [go_sem, Bool.false_and, new_set, Int.reduceBEq, Int.reduceBNe, Int.reduceNeg, not_true_eq_false, beq_self_eq_true, bne_self_eq_false, Bool.false_eq_true, if_false, if_true, Int.cast_ofNat_Int, decide_true, decide_false, reduceCtorEq, Nat.reduceEqDiff, Nat.reduceAdd, ne_eq, not_false_eq_true, Option.map_some, Option.bind_some, Option.map_none, Option.bind_none, true_and, and_true, Bool.not_true, Bool.not_false, Nat.reduceLeDiff, Nat.reduceMul, Nat.reduceSub, Nat.le_refl, Int.reduceToNat, Int.reduceLT, Int.reduceLE, Nat.one_mul, Nat.mul_one, load_w, load_a, store_b, idxS_b, set_blk, new_blk, set_next, new_next, len_s, ldW_c, ldA_c, stB_c, toArr_one, size_one, toList_toArr, size_toArr, List.length_cons, List.length_nil, List.getElem?_cons_zero, List.getElem?_cons_succ, Nat.zero_add, Nat.add_zero, aExt0, aExt1]
    have hx5 : Ext m4 (m4.new (.map [])) := Ext.new
    have hg5 : Mp (m4.new (.map [])) m4.next vI [] := Mp.new
    have hn5 : (m4.new (.map [])).next = m4.next + 1 := rfl
    generalize m4.new (.map []) = m5 at hx5 hg5 hn5 ⊢
    refine WL.of (fun r e m' => ∃ (t : Nat), t ≤ n ∧ r = n - t ∧ e = [(1, pt m.next), (3, w), (5, mpV m4.next), (6, .int .i64 t)] ∧ Upd m5 m' [m4.next] ∧ ∃ GL, Mp m' m4.next vI GL ∧ ∀ u, (lkp GL u).getD 0 = gotN p u t) n
      ⟨0, by omega, by omega, by simp only [go_sem, Bool.false_and, new_set, Int.reduceBEq, Int.reduceBNe, Int.reduceNeg, not_true_eq_false, beq_self_eq_true, bne_self_eq_false, Bool.false_eq_true, if_false, if_true, Int.cast_ofNat_Int, decide_true, decide_false, reduceCtorEq, Nat.reduceEqDiff, Nat.reduceAdd, ne_eq, not_false_eq_true, Option.map_some, Option.bind_some, Option.map_none, Option.bind_none, true_and, and_true, Bool.not_true, Bool.not_false, Nat.reduceLeDiff, Nat.reduceMul, Nat.reduceSub, Nat.le_refl, Int.reduceToNat, Int.reduceLT, Int.reduceLE, Nat.one_mul, Nat.mul_one] <;> rfl, Upd.refl _ _, [], hg5, fun u => rfl⟩ ?_
    rintro _ _ m6 ⟨t, ht, rfl, rfl, hu6, GL, hg6, hG6⟩
    have hx6 : Ext m4 m6 := Upd.ext_of hx5 hu6 (by simp)
    have hb6 := hb.keep hx6
    have hp6 := hp.keep hx6
    have hs6 := hs.keep hx6
    simp only [RB.law17_TableTwice_5, pt, go_sem, Bool.false_and, new_set, Int.reduceBEq, Int.reduceBNe, Int.reduceNeg, not_true_eq_false, beq_self_eq_true, bne_self_eq_false, Bool.false_eq_true, if_false, if_true, Int.cast_ofNat_Int, decide_true, decide_false, reduceCtorEq, Nat.reduceEqDiff, Nat.reduceAdd, ne_eq, not_false_eq_true, Option.map_some, Option.bind_some, Option.map_none, Option.bind_none, true_and, and_true, Bool.not_true, Bool.not_false, Nat.reduceLeDiff, Nat.reduceMul, Nat.reduceSub, Nat.le_refl, Int.reduceToNat, Int.reduceLT, Int.reduceLE, Nat.one_mul, Nat.mul_one, load_w, load_a, store_b, idxS_b, set_blk, new_blk, set_next, new_next, len_s, ldW_c, ldA_c, stB_c, toArr_one, size_one, toList_toArr, size_toArr, List.length_cons, List.length_nil, List.getElem?_cons_zero, List.getElem?_cons_succ, Nat.zero_add, Nat.add_zero, hb6.at_]
    refine gT.of (fun h3' => ?_) (fun h3' => ?_) <;> (have h3 := h3'; try simp only [decide_eq_true_eq, decide_eq_false_iff_not, beq_iff_eq, bne_iff_ne, beq_eq_false_iff_ne, ne_eq, Bool.not_eq_true', Bool.not_eq_false', bne_eq_false_iff_eq, Int.not_lt, Int.not_le] at h3)
    · have htn : t < n := by omega
      simp only [go_sem, Bool.false_and, new_set, Int.reduceBEq, Int.reduceBNe, Int.reduceNeg, not_true_eq_false, beq_self_eq_true, bne_self_eq_false, Bool.false_eq_true, if_false, if_true, Int.cast_ofNat_Int, decide_true, decide_false, reduceCtorEq, Nat.reduceEqDiff, Nat.reduceAdd, ne_eq, not_false_eq_true, Option.map_some, Option.bind_some, Option.map_none, Option.bind_none, true_and, and_true, Bool.not_true, Bool.not_false, Nat.reduceLeDiff, Nat.reduceMul, Nat.reduceSub, Nat.le_refl, Int.reduceToNat, Int.reduceLT, Int.reduceLE, Nat.one_mul, Nat.mul_one, load_w, load_a, store_b, idxS_b, set_blk, new_blk, set_next, new_next, len_s, ldW_c, ldA_c, stB_c, toArr_one, size_one, toList_toArr, size_toArr, List.length_cons, List.length_nil, List.getElem?_cons_zero, List.getElem?_cons_succ, Nat.zero_add, Nat.add_zero, h3']
      have hx7 : Ext m6 (m6.new (.map [])) := Ext.new
      have hq7 : Mp (m6.new (.map [])) m6.next vB [] := Mp.new
      have hn7 : (m6.new (.map [])).next = m6.next + 1 := rfl
      generalize m6.new (.map []) = m7 at hx7 hq7 hn7 ⊢
      refine gC.of (Busy_spec (t := t) (hs6.keep hx7) (by omega)) ?_
      rintro bv m8 ⟨hob, hx8⟩
      have hg8 := (hg6.keep hx7).keep hx8
      have hq8 := hq7.keep hx8
      have hne : m4.next ≠ m6.next := by have := hg6.lt; omega
      have hbl := busy_len (L := tabsOf p) (l := tabsOf p) (t := t)
      simp only [go_sem, Bool.false_and, new_set, Int.reduceBEq, Int.reduceBNe, Int.reduceNeg, not_true_eq_false, beq_self_eq_true, bne_self_eq_false, Bool.false_eq_true, if_false, if_true, Int.cast_ofNat_Int, decide_true, decide_false, reduceCtorEq, Nat.reduceEqDiff, Nat.reduceAdd, ne_eq, not_false_eq_true, Option.map_some, Option.bind_some, Option.map_none, Option.bind_none, true_and, and_true, Bool.not_true, Bool.not_false, Nat.reduceLeDiff, Nat.reduceMul, Nat.reduceSub, Nat.le_refl, Int.reduceToNat, Int.reduceLT, Int.reduceLE, Nat.one_mul, Nat.mul_one, load_w, load_a, store_b, idxS_b, set_blk, new_blk, set_next, new_next, len_s, ldW_c, ldA_c, stB_c, toArr_one, size_one, toList_toArr, size_toArr, List.length_cons, List.length_nil, List.getElem?_cons_zero, List.getElem?_cons_succ, Nat.zero_add, Nat.add_zero]
      refine WL.mono (Tw4_loop hg8 hq8 hne hob.sl hob.lt (hob.off (by have := hg6.lt; simp; omega)) (hR.once hn htn) (fun u => by rw [hG6]; have := gotN_le (p := p) (u := u) t; omega) (by omega)) ?_
      rintro _ _ m9 ⟨rfl, rfl, hu9, GL', hg9, hG9⟩
      simp only [go_sem, Bool.false_and, new_set, Int.reduceBEq, Int.reduceBNe, Int.reduceNeg, not_true_eq_false, beq_self_eq_true, bne_self_eq_false, Bool.false_eq_true, if_false, if_true, Int.cast_ofNat_Int, decide_true, decide_false, reduceCtorEq, Nat.reduceEqDiff, Nat.reduceAdd, ne_eq, not_false_eq_true, Option.map_some, Option.bind_some, Option.map_none, Option.bind_none, true_and, and_true, Bool.not_true, Bool.not_false, Nat.reduceLeDiff, Nat.reduceMul, Nat.reduceSub, Nat.le_refl, Int.reduceToNat, Int.reduceLT, Int.reduceLE, Nat.one_mul, Nat.mul_one, load_w, load_a, store_b, idxS_b, set_blk, new_blk, set_next, new_next, len_s, ldW_c, ldA_c, stB_c, toArr_one, size_one, toList_toArr, size_toArr, List.length_cons, List.length_nil, List.getElem?_cons_zero, List.getElem?_cons_succ, Nat.zero_add, Nat.add_zero, step1 (show t < 1000000 by omega)]
      refine ⟨n - (t + 1), by omega, t + 1, by omega, rfl, rfl, ?_, GL', hg9, fun u => ?_⟩
      · refine ((hu6.ex hx7).ex hx8).trans hu9 (fun _ h => h) (fun x hx => ?_)
        simp at hx
        have := hu6.next
        rcases hx with rfl | rfl
        · exact .inl (by simp)
        · right; exact this
      · rw [hG9, hG6]; show _ = ((gotN p u t + _ : Nat) : Int); omega
    · have : t = n := by omega
      subst this
      simp only [go_sem, Bool.false_and, new_set, Int.reduceBEq, Int.reduceBNe, Int.reduceNeg, not_true_eq_false, beq_self_eq_true, bne_self_eq_false, Bool.false_eq_true, if_false, if_true, Int.cast_ofNat_Int, decide_true, decide_false, reduceCtorEq, Nat.reduceEqDiff, Nat.reduceAdd, ne_eq, not_false_eq_true, Option.map_some, Option.bind_some, Option.map_none, Option.bind_none, true_and, and_true, Bool.not_true, Bool.not_false, Nat.reduceLeDiff, Nat.reduceMul, Nat.reduceSub, Nat.le_refl, Int.reduceToNat, Int.reduceLT, Int.reduceLE, Nat.one_mul, Nat.mul_one, load_w, load_a, store_b, idxS_b, set_blk, new_blk, set_next, new_next, len_s, ldW_c, ldA_c, stB_c, toArr_one, size_one, toList_toArr, size_toArr, List.length_cons, List.length_nil, List.getElem?_cons_zero, List.getElem?_cons_succ, Nat.zero_add, Nat.add_zero, h3']
      refine WL.of (fun r e m' => ∃ (k : Nat), k ≤ p.places.length ∧ r = p.places.length - k ∧ e = [(1, pt m.next), (3, w), (5, mpV m4.next), (10, .int .i64 k)] ∧ Ext m6 m') p.places.length
        ⟨0, by omega, by omega, by simp only [go_sem, Bool.false_and, new_set, Int.reduceBEq, Int.reduceBNe, Int.reduceNeg, not_true_eq_false, beq_self_eq_true, bne_self_eq_false, Bool.false_eq_true, if_false, if_true, Int.cast_ofNat_Int, decide_true, decide_false, reduceCtorEq, Nat.reduceEqDiff, Nat.reduceAdd, ne_eq, not_false_eq_true, Option.map_some, Option.bind_some, Option.map_none, Option.bind_none, true_and, and_true, Bool.not_true, Bool.not_false, Nat.reduceLeDiff, Nat.reduceMul, Nat.reduceSub, Nat.le_refl, Int.reduceToNat, Int.reduceLT, Int.reduceLE, Nat.one_mul, Nat.mul_one] <;> rfl, Ext.refl _⟩ ?_
      rintro _ _ m7 ⟨k, hk, rfl, rfl, hx7⟩
      have hb7 := hb6.keep hx7
      have hp7 := hp6.keep hx7
      have hg7 := hg6.keep hx7
      simp only [RB.law17_TableTwice_3, pt, go_sem, Bool.false_and, new_set, Int.reduceBEq, Int.reduceBNe, Int.reduceNeg, not_true_eq_false, beq_self_eq_true, bne_self_eq_false, Bool.false_eq_true, if_false, if_true, Int.cast_ofNat_Int, decide_true, decide_false, reduceCtorEq, Nat.reduceEqDiff, Nat.reduceAdd, ne_eq, not_false_eq_true, Option.map_some, Option.bind_some, Option.map_none, Option.bind_none, true_and, and_true, Bool.not_true, Bool.not_false, Nat.reduceLeDiff, Nat.reduceMul, Nat.reduceSub, Nat.le_refl, Int.reduceToNat, Int.reduceLT, Int.reduceLE, Nat.one_mul, Nat.mul_one, load_w, load_a, store_b, idxS_b, set_blk, new_blk, set_next, new_next, len_s, ldW_c, ldA_c, stB_c, toArr_one, size_one, toList_toArr, size_toArr, List.length_cons, List.length_nil, List.getElem?_cons_zero, List.getElem?_cons_succ, Nat.zero_add, Nat.add_zero, hb7.at_, hp7.len]
      refine gT.of (fun h4' => ?_) (fun h4' => ?_) <;> (have h4 := h4'; try simp only [decide_eq_true_eq, decide_eq_false_iff_not, beq_iff_eq, bne_iff_ne, beq_eq_false_iff_ne, ne_eq, Bool.not_eq_true', Bool.not_eq_false', bne_eq_false_iff_eq, Int.not_lt, Int.not_le] at h4)
      · have hkl : k < p.places.length := by omega
        obtain ⟨b, o, qv, a1, a2, a3, a4, a5⟩ := hp7.elem hkl
        have hgot := hR.got hn (List.getElem_mem hkl)
        have hpl := hl.len
        have s1 := step1 (show k < 1000000 by omega)
        generalize p.places[k] = x at *
        simp only [plV] at a2
        simp only [go_sem, Bool.false_and, new_set, Int.reduceBEq, Int.reduceBNe, Int.reduceNeg, not_true_eq_false, beq_self_eq_true, bne_self_eq_false, Bool.false_eq_true, if_false, if_true, Int.cast_ofNat_Int, decide_true, decide_false, reduceCtorEq, Nat.reduceEqDiff, Nat.reduceAdd, ne_eq, not_false_eq_true, Option.map_some, Option.bind_some, Option.map_none, Option.bind_none, true_and, and_true, Bool.not_true, Bool.not_false, Nat.reduceLeDiff, Nat.reduceMul, Nat.reduceSub, Nat.le_refl, Int.reduceToNat, Int.reduceLT, Int.reduceLE, Nat.one_mul, Nat.mul_one, load_w, load_a, store_b, idxS_b, set_blk, new_blk, set_next, new_next, len_s, ldW_c, ldA_c, stB_c, toArr_one, size_one, toList_toArr, size_toArr, List.length_cons, List.length_nil, List.getElem?_cons_zero, List.getElem?_cons_succ, Nat.zero_add, Nat.add_zero, h4', hb7.at_, a1, a2, a4.one]
        have hx8 : Ext m7 (m7.new (.cells [.int .i64 x.unit, .int .i64 x.share, .int .i64 x.core, qv] (some 4))) := Ext.new
        have hb8 : Bk (m7.new (.cells [.int .i64 x.unit, .int .i64 x.share, .int .i64 x.core, qv] (some 4))) m7.next [.int .i64 x.unit, .int .i64 x.share, .int .i64 x.core, qv] 4 := Bk.new
        generalize m7.new (.cells [.int .i64 x.unit, .int .i64 x.share, .int .i64 x.core, qv] (some 4)) = m8 at hx8 hb8 ⊢
        have hg8 := hg7.keep hx8
        have lk := hg8.look (x := x.unit) (z := 0)
        rw [hG6] at lk
        simp only [vI] at lk
        try simp only [go_sem, Bool.false_and, new_set, Int.reduceBEq, Int.reduceBNe, Int.reduceNeg, not_true_eq_false, beq_self_eq_true, bne_self_eq_false, Bool.false_eq_true, if_false, if_true, Int.cast_ofNat_Int, decide_true, decide_false, reduceCtorEq, Nat.reduceEqDiff, Nat.reduceAdd, ne_eq, not_false_eq_true, Option.map_some, Option.bind_some, Option.map_none, Option.bind_none, true_and, and_true, Bool.not_true, Bool.not_false, Nat.reduceLeDiff, Nat.reduceMul, Nat.reduceSub, Nat.le_refl, Int.reduceToNat, Int.reduceLT, Int.reduceLE, Nat.one_mul, Nat.mul_one, load_w, load_a, store_b, idxS_b, set_blk, new_blk, set_next, new_next, len_s, ldW_c, ldA_c, stB_c, toArr_one, size_one, toList_toArr, size_toArr, List.length_cons, List.length_nil, List.getElem?_cons_zero, List.getElem?_cons_succ, Nat.zero_add, Nat.add_zero, hb8.at_, a4.len]
        refine gT.of (fun h5' => ?_) (fun h5' => ?_) <;> (have h5 := h5'; try simp only [decide_eq_true_eq, decide_eq_false_iff_not, beq_iff_eq, bne_iff_ne, beq_eq_false_iff_ne, ne_eq, Bool.not_eq_true', Bool.not_eq_false', bne_eq_false_iff_eq, Int.not_lt, Int.not_le] at h5)
        · have e5 := hgot.1 (by omega)
          rw [e5] at lk
          have e6 : (x.share != x.share) = false := by simp
          have e7 : ((x.pieces.length : Int) == 0) = false := by simp; intro e; rw [e] at h5; simp at h5
          simp only [go_sem, Bool.false_and, new_set, Int.reduceBEq, Int.reduceBNe, Int.reduceNeg, not_true_eq_false, beq_self_eq_true, bne_self_eq_false, Bool.false_eq_true, if_false, if_true, Int.cast_ofNat_Int, decide_true, decide_false, reduceCtorEq, Nat.reduceEqDiff, Nat.reduceAdd, ne_eq, not_false_eq_true, Option.map_some, Option.bind_some, Option.map_none, Option.bind_none, true_and, and_true, Bool.not_true, Bool.not_false, Nat.reduceLeDiff, Nat.reduceMul, Nat.reduceSub, Nat.le_refl, Int.reduceToNat, Int.reduceLT, Int.reduceLE, Nat.one_mul, Nat.mul_one, load_w, load_a, store_b, idxS_b, set_blk, new_blk, set_next, new_next, len_s, ldW_c, ldA_c, stB_c, toArr_one, size_one, toList_toArr, size_toArr, List.length_cons, List.length_nil, List.getElem?_cons_zero, List.getElem?_cons_succ, Nat.zero_add, Nat.add_zero, h5', hb8.at_, lk, e6, a4.len, e7, s1]
          exact ⟨p.places.length - (k + 1), by omega, k + 1, by omega, rfl, rfl, hx7.trans hx8⟩
        · have e5 := hgot.2 (by omega)
          rw [e5] at lk
          have hz : x.pieces.length = 0 := by omega
          have e7 : ((x.pieces.length : Int) == 0) = true := by rw [hz]; rfl
          have lk' : aLook .int (.int .i64 0) false m8 (mpV m4.next) (.int .i64 x.unit) = some (.int .i64 0) := lk
          simp only [go_sem, Bool.false_and, new_set, Int.reduceBEq, Int.reduceBNe, Int.reduceNeg, not_true_eq_false, beq_self_eq_true, bne_self_eq_false, Bool.false_eq_true, if_false, if_true, Int.cast_ofNat_Int, decide_true, decide_false, reduceCtorEq, Nat.reduceEqDiff, Nat.reduceAdd, ne_eq, not_false_eq_true, Option.map_some, Option.bind_some, Option.map_none, Option.bind_none, true_and, and_true, Bool.not_true, Bool.not_false, Nat.reduceLeDiff, Nat.reduceMul, Nat.reduceSub, Nat.le_refl, Int.reduceToNat, Int.reduceLT, Int.reduceLE, Nat.one_mul, Nat.mul_one, load_w, load_a, store_b, idxS_b, set_blk, new_blk, set_next, new_next, len_s, ldW_c, ldA_c, stB_c, toArr_one, size_one, toList_toArr, size_toArr, List.length_cons, List.length_nil, List.getElem?_cons_zero, List.getElem?_cons_succ, Nat.zero_add, Nat.add_zero, h5', hb8.at_, lk', a4.len, e7, s1]
          exact ⟨p.places.length - (k + 1), by omega, k + 1, by omega, rfl, rfl, hx7.trans hx8⟩
      · have : k = p.places.length := by omega
        subst this
        simp only [go_sem, Bool.false_and, new_set, Int.reduceBEq, Int.reduceBNe, Int.reduceNeg, not_true_eq_false, beq_self_eq_true, bne_self_eq_false, Bool.false_eq_true, if_false, if_true, Int.cast_ofNat_Int, decide_true, decide_false, reduceCtorEq, Nat.reduceEqDiff, Nat.reduceAdd, ne_eq, not_false_eq_true, Option.map_some, Option.bind_some, Option.map_none, Option.bind_none, true_and, and_true, Bool.not_true, Bool.not_false, Nat.reduceLeDiff, Nat.reduceMul, Nat.reduceSub, Nat.le_refl, Int.reduceToNat, Int.reduceLT, Int.reduceLE, Nat.one_mul, Nat.mul_one, load_w, load_a, store_b, idxS_b, set_blk, new_blk, set_next, new_next, len_s, ldW_c, ldA_c, stB_c, toArr_one, size_one, toList_toArr, size_toArr, List.length_cons, List.length_nil, List.getElem?_cons_zero, List.getElem?_cons_succ, Nat.zero_add, Nat.add_zero, h4']
        have hs7 := hs6.keep hx7
        refine WL.of (fun r e m' => ∃ (k : Nat), k ≤ (tabsOf p).length ∧ r = (tabsOf p).length - k ∧ e = [(3, w), (12, .int .i64 k)] ∧ Ext m7 m') (tabsOf p).length
          ⟨0, by omega, by omega, by simp only [go_sem, Bool.false_and, new_set, Int.reduceBEq, Int.reduceBNe, Int.reduceNeg, not_true_eq_false, beq_self_eq_true, bne_self_eq_false, Bool.false_eq_true, if_false, if_true, Int.cast_ofNat_Int, decide_true, decide_false, reduceCtorEq, Nat.reduceEqDiff, Nat.reduceAdd, ne_eq, not_false_eq_true, Option.map_some, Option.bind_some, Option.map_none, Option.bind_none, true_and, and_true, Bool.not_true, Bool.not_false, Nat.reduceLeDiff, Nat.reduceMul, Nat.reduceSub, Nat.le_refl, Int.reduceToNat, Int.reduceLT, Int.reduceLE, Nat.one_mul, Nat.mul_one] <;> rfl, Ext.refl _⟩ ?_
        rintro _ _ m8 ⟨k, hk, rfl, rfl, hx8⟩
        have hs8 := hs7.keep hx8
        simp only [RB.law17_TableTwice_2, go_sem, Bool.false_and, new_set, Int.reduceBEq, Int.reduceBNe, Int.reduceNeg, not_true_eq_false, beq_self_eq_true, bne_self_eq_false, Bool.false_eq_true, if_false, if_true, Int.cast_ofNat_Int, decide_true, decide_false, reduceCtorEq, Nat.reduceEqDiff, Nat.reduceAdd, ne_eq, not_false_eq_true, Option.map_some, Option.bind_some, Option.map_none, Option.bind_none, true_and, and_true, Bool.not_true, Bool.not_false, Nat.reduceLeDiff, Nat.reduceMul, Nat.reduceSub, Nat.le_refl, Int.reduceToNat, Int.reduceLT, Int.reduceLE, Nat.one_mul, Nat.mul_one, hs8.len]
        refine gT.of (fun h5' => ?_) (fun h5' => ?_) <;> (have h5 := h5'; try simp only [decide_eq_true_eq, decide_eq_false_iff_not, beq_iff_eq, bne_iff_ne, beq_eq_false_iff_ne, ne_eq, Bool.not_eq_true', Bool.not_eq_false', bne_eq_false_iff_eq, Int.not_lt, Int.not_le] at h5)
        · have hkl : k < (tabsOf p).length := by omega
          obtain ⟨g1, g2⟩ := tabsOf_get hkl hl h64
          have hloose := hR.loose hkl
          have hw : ∀ x ∈ (tabsOf p)[k].wholes, 0 ≤ x.2 ∧ x.2 ≤ 64 := by
            intro x hx
            simp only [tabsOf, List.getElem_map, tabOf, whL] at hx
            obtain ⟨y, hy, rfl⟩ := List.mem_map.1 hx
            have := hR.place (List.mem_filter.1 hy).1
            have h1 := this.2.1; have h2 := this.2.2.1
            simp only [wtOf]
            omega
          obtain ⟨b, o, tv, wv, a1, a2, a3, a4, a5⟩ := hs8.elem hkl
          have hcl : (tabsOf p)[k].ticks.countP (fun y => decide (y = 0)) ≤ (tabsOf p)[k].ticks.length := List.countP_le_length
          simp only [go_sem, Bool.false_and, new_set, Int.reduceBEq, Int.reduceBNe, Int.reduceNeg, not_true_eq_false, beq_self_eq_true, bne_self_eq_false, Bool.false_eq_true, if_false, if_true, Int.cast_ofNat_Int, decide_true, decide_false, reduceCtorEq, Nat.reduceEqDiff, Nat.reduceAdd, ne_eq, not_false_eq_true, Option.map_some, Option.bind_some, Option.map_none, Option.bind_none, true_and, and_true, Bool.not_true, Bool.not_false, Nat.reduceLeDiff, Nat.reduceMul, Nat.reduceSub, Nat.le_refl, Int.reduceToNat, Int.reduceLT, Int.reduceLE, Nat.one_mul, Nat.mul_one, load_w, load_a, store_b, idxS_b, set_blk, new_blk, set_next, new_next, len_s, ldW_c, ldA_c, stB_c, toArr_one, size_one, toList_toArr, size_toArr, List.length_cons, List.length_nil, List.getElem?_cons_zero, List.getElem?_cons_succ, Nat.zero_add, Nat.add_zero, h5']
          refine WL.mono (Tw1_loop hs8 hkl hw g2) ?_
          rintro _ _ _ ⟨rfl, rfl, hm⟩
          replace hm := hm.symm
          subst hm
          simp only [go_sem, Bool.false_and, new_set, Int.reduceBEq, Int.reduceBNe, Int.reduceNeg, not_true_eq_false, beq_self_eq_true, bne_self_eq_false, Bool.false_eq_true, if_false, if_true, Int.cast_ofNat_Int, decide_true, decide_false, reduceCtorEq, Nat.reduceEqDiff, Nat.reduceAdd, ne_eq, not_false_eq_true, Option.map_some, Option.bind_some, Option.map_none, Option.bind_none, true_and, and_true, Bool.not_true, Bool.not_false, Nat.reduceLeDiff, Nat.reduceMul, Nat.reduceSub, Nat.le_refl, Int.reduceToNat, Int.reduceLT, Int.reduceLE, Nat.one_mul, Nat.mul_one, load_w, load_a, store_b, idxS_b, set_blk, new_blk, set_next, new_next, len_s, ldW_c, ldA_c, stB_c, toArr_one, size_one, toList_toArr, size_toArr, List.length_cons, List.length_nil, List.getElem?_cons_zero, List.getElem?_cons_succ, Nat.zero_add, Nat.add_zero, a1, a2]
          refine gC.of (Loose_spec a4 g1) ?_
          rintro _ m9 ⟨rfl, hx9⟩
          have e : decide ((((tabsOf p)[k].ticks.countP (fun y => decide (y = 0)) : Nat) : Int) < sumW (tabsOf p)[k].wholes) = false := by simp; omega
          simp only [go_sem, Bool.false_and, new_set, Int.reduceBEq, Int.reduceBNe, Int.reduceNeg, not_true_eq_false, beq_self_eq_true, bne_self_eq_false, Bool.false_eq_true, if_false, if_true, Int.cast_ofNat_Int, decide_true, decide_false, reduceCtorEq, Nat.reduceEqDiff, Nat.reduceAdd, ne_eq, not_false_eq_true, Option.map_some, Option.bind_some, Option.map_none, Option.bind_none, true_and, and_true, Bool.not_true, Bool.not_false, Nat.reduceLeDiff, Nat.reduceMul, Nat.reduceSub, Nat.le_refl, Int.reduceToNat, Int.reduceLT, Int.reduceLE, Nat.one_mul, Nat.mul_one, load_w, load_a, store_b, idxS_b, set_blk, new_blk, set_next, new_next, len_s, ldW_c, ldA_c, stB_c, toArr_one, size_one, toList_toArr, size_toArr, List.length_cons, List.length_nil, List.getElem?_cons_zero, List.getElem?_cons_succ, Nat.zero_add, Nat.add_zero, e, step1 (show k < 1000000 by omega)]
          exact ⟨(tabsOf p).length - (k + 1), by omega, k + 1, by omega, rfl, rfl, hx8.trans hx9⟩
        · simp only [go_sem, Bool.false_and, new_set, Int.reduceBEq, Int.reduceBNe, Int.reduceNeg, not_true_eq_false, beq_self_eq_true, bne_self_eq_false, Bool.false_eq_true, if_false, if_true, Int.cast_ofNat_Int, decide_true, decide_false, reduceCtorEq, Nat.reduceEqDiff, Nat.reduceAdd, ne_eq, not_false_eq_true, Option.map_some, Option.bind_some, Option.map_none, Option.bind_none, true_and, and_true, Bool.not_true, Bool.not_false, Nat.reduceLeDiff, Nat.reduceMul, Nat.reduceSub, Nat.le_refl, Int.reduceToNat, Int.reduceLT, Int.reduceLE, Nat.one_mul, Nat.mul_one, load_w, load_a, store_b, idxS_b, set_blk, new_blk, set_next, new_next, len_s, ldW_c, ldA_c, stB_c, toArr_one, size_one, toList_toArr, size_toArr, List.length_cons, List.length_nil, List.getElem?_cons_zero, List.getElem?_cons_succ, Nat.zero_add, Nat.add_zero, h5']
          refine gC.of (ok_spec R.law17_awake) ?_
          rintro _ m_ ⟨rfl, hm_⟩
          replace hm_ := hm_.symm
          subst hm_
          simp only [go_sem, Bool.false_and, new_set, Int.reduceBEq, Int.reduceBNe, Int.reduceNeg, not_true_eq_false, beq_self_eq_true, bne_self_eq_false, Bool.false_eq_true, if_false, if_true, Int.cast_ofNat_Int, decide_true, decide_false, reduceCtorEq, Nat.reduceEqDiff, Nat.reduceAdd, ne_eq, not_false_eq_true, Option.map_some, Option.bind_some, Option.map_none, Option.bind_none, true_and, and_true, Bool.not_true, Bool.not_false, Nat.reduceLeDiff, Nat.reduceMul, Nat.reduceSub, Nat.le_refl, Int.reduceToNat, Int.reduceLT, Int.reduceLE, Nat.one_mul, Nat.mul_one]
end Go.Am


/- TableTwice, of arguments as they are read. -/
set_option linter.unusedVariables false
namespace Go.Am
theorem law17_TableTwice_walk (m : Mem) (us : List Value) (h : RdAs m [(true, planSh)] us) : WC R F.law17_TableTwice us m fun v _ => v = .bool true := by
  obtain ⟨_, _, rfl, h1, h⟩ := h.one; cases h.none
  obtain ⟨p, hp, -⟩ := plan_read h1
  exact TableTwice_spec hp
end Go.Am
