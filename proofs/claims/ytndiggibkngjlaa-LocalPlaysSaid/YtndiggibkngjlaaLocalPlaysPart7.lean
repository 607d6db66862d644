/- Parts of the proofs of the statements of this seat: LocalW4, LocalW5, LocalW6, LocalW7, LocalW8, LocalW9, LocalW10, LocalW11, LocalW12, LocalX1, LocalX3, LocalX4, LocalX5, LocalX6. No conditions. -/
import Derived.Test.YtndiggibkngjlaaLocalPlaysPart6
import Derived.Test.YtndiggibkngjlaaLocalPlaysPart3
import Derived.Test.YtndiggibkngjlaaLocalPlaysPart5
set_option linter.unusedVariables false
set_option linter.unusedSimpArgs false

/- A local: made of wants. -/
set_option linter.unusedVariables false
set_option linter.unusedSimpArgs false
namespace Go.Am
variable {m : Mem}

theorem LocV.appD {m0 m : Mem} {b N s t : Nat} {L : List En} {lv : Value} {e : En} (h : LocV m0 m b L lv) (hl : L.length < 100000) (hs : s < N) (ht : t < N) :
    ∃ v' m' m'', aApp (some (m.next + t)) 3 24 ((m.bump N).set (m.next + s) (some (.cells (enV e) (some 3)))) lv (.slice (some ⟨m.next + s, 0, none⟩) 1 1) = some (v', m') ∧
      aStore 1 m' (.pointer (some ⟨b, 0, none⟩)) v' = some m'' ∧ LocV m0 m'' b (L ++ [e]) v' := by
  obtain ⟨v', m', e1, e2, e3⟩ := h.own.appD (by_ := 24) (es := enV e) h.ext rfl rfl (by omega) (by omega) hs ht
  have hx : Ext m ((m.bump N).set (m.next + s) (some (.cells (enV e) (some 3)))) := Ext.set ⟨by simp, fun b hb => rfl⟩ (by omega)
  obtain ⟨a1, a2, a3⟩ := app_updA (M := m.next) e1 (fun k hk => by cases hk; omega) hx.next
  have hbn := h.box.lt
  have hbm : m'.blk b = some (.cells [lv] (some 1)) := by
    rw [a2 b hbn (fun hb => h.off b hb rfl), hx.same b hbn]; exact h.box.at_
  have hvb : ∀ c ∈ vb v', c ≠ b := fun c hc => by
    rcases a3 with e | ⟨k, e, hk⟩
    · rw [e] at hc; exact h.off c hc
    · rw [e] at hc; simp at hc; omega
  have hsl := e2.sl
  have hst : aStore 1 m' (.pointer (some ⟨b, 0, none⟩)) v' = some (m'.set b (some (.cells [v'] (some 1)))) := by
    simp only [aStore, hsl.cells]
    simp only [aWrite, hbm]
    have h1 : v'.oneCell' = true := hsl.one
    have : oneCells [v'] = true := by unfold oneCells; simp [h1]
    simp [this, writeL]
  have hu : Upd m' (m'.set b (some (.cells [v'] (some 1)))) [b] := Upd.set (by simp)
  refine ⟨v', m', _, e1, hst, ⟨by simp [Mem.set], ?_⟩, ?_, hu.ext_of e3 (by simpa using h.ge), h.ge, hvb⟩
  · have := hx.next
    show b < m'.next
    omega
  · have e4 : Own m0 m' 3 (L ++ [e]).length ((L ++ [e]).flatMap enV) v' := by
      rw [List.length_append, List.flatMap_append]; simpa using e2
    cases e4 with
    | nil h hc => exact .nil h hc
    | @«at» c2 c all hb hb2 hn hm hl hcs h1 =>
      refine .at hb (Nat.lt_of_lt_of_le hb2 hu.next) hn ?_ hl hcs h1
      rw [hu.same c2 hb2 (by simpa [vb] using hvb c2 (by simp [vb]))]; exact hm

def ent (w : Sp) : En := ⟨w.1, w.2, 0⟩

/-- Why there is none; 0: there is one. -/
noncomputable def newE (f : Int) (l : List Sp) : Int := if chkA f l = 0 then (match totO 0 l with | none => 12 | some n => if f < n then 12 else 0) else chkA f l

set_option maxHeartbeats 2000000 in
theorem locNew {l : List Sp} {v : Value} {f : Int} (hs : Sl m 2 l.length (l.flatMap spV) v) (hb : SlLt m v) (hl : l.length < 10000) (hr : ∀ w ∈ l, inR w.2) :
    WC R F.local_New [.int .i64 f, v] m fun r m' => (newE f l ≠ 0 ∧ r = .tuple #[.pointer none, .int .i64 (newE f l)] ∧ Ext m m') ∨
      (newE f l = 0 ∧ ∃ b L lv, r = .tuple #[.pointer (some ⟨b, 0, none⟩), .int .i64 0] ∧ LocV m m' b L lv ∧ L.Perm (l.map ent) ∧ L.Pairwise fun x y => ¬ cmpI y.u x.u < 0) := by
  refine WC.of R.local_New rfl ?_
  simp only [RC.local_New, go_sem, Int.reduceBEq, Int.reduceBNe, Int.reduceNeg, reduceCtorEq, Nat.reduceEqDiff, Nat.reduceAdd, Nat.reduceLeDiff, Nat.reduceMul, Nat.reduceSub, Int.reduceToNat, Int.reduceLT, Int.reduceLE]
  refine gC.of (orCheck hs hb (by omega)) ?_
  rintro _ m1 ⟨rfl, hx1⟩
  simp only [go_sem, Int.reduceBEq, Int.reduceBNe, Int.reduceNeg, reduceCtorEq, Nat.reduceEqDiff, Nat.reduceAdd, Nat.reduceLeDiff, Nat.reduceMul, Nat.reduceSub, Int.reduceToNat, Int.reduceLT, Int.reduceLE]
  by_cases g1 : chkA f l = 0
  · have e1 : (chkA f l != 0) = false := by rw [g1]; rfl
    simp only [go_sem, Int.reduceBEq, Int.reduceBNe, Int.reduceNeg, reduceCtorEq, Nat.reduceEqDiff, Nat.reduceAdd, Nat.reduceLeDiff, Nat.reduceMul, Nat.reduceSub, Int.reduceToNat, Int.reduceLT, Int.reduceLE, e1]
    refine gC.of (orTotal (hs.keep hb hx1) (hb.keep hx1) (by omega) hr) ?_
    rintro _ m2 ⟨⟨n, ht, rfl⟩ | ⟨ht, rfl⟩, hx2⟩
    · have hE : newE f l = if f < n then 12 else 0 := by unfold newE; rw [if_pos g1, ht]
      have e2 : ((0 : Int) != 0) = false := rfl
      by_cases g2 : f < n
      · have e3 : decide (f < n) = true := decide_eq_true g2
        rw [if_pos g2] at hE
        simp only [go_sem, Int.reduceBEq, Int.reduceBNe, Int.reduceNeg, reduceCtorEq, Nat.reduceEqDiff, Nat.reduceAdd, Nat.reduceLeDiff, Nat.reduceMul, Nat.reduceSub, Int.reduceToNat, Int.reduceLT, Int.reduceLE, aExt0, aExt1, e2, e3]
        exact .inl ⟨by rw [hE]; decide, by rw [hE], hx1.trans hx2⟩
      · have e3 : decide (f < n) = false := decide_eq_false g2
        rw [if_neg g2] at hE
        simp only [go_sem, Int.reduceBEq, Int.reduceBNe, Int.reduceNeg, reduceCtorEq, Nat.reduceEqDiff, Nat.reduceAdd, Nat.reduceLeDiff, Nat.reduceMul, Nat.reduceSub, Int.reduceToNat, Int.reduceLT, Int.reduceLE, aExt0, aExt1, e2, e3]
        have hx02 := hx1.trans hx2
        have hx3 : Ext m2 (m2.new (.cells [.slice none 0 0] (some 1))) := Ext.new
        have hb3 : Bk (m2.new (.cells [.slice none 0 0] (some 1))) m2.next [.slice none 0 0] 1 := Bk.new
        generalize m2.new (.cells [.slice none 0 0] (some 1)) = m3 at hx3 hb3 ⊢
        have hx03 := hx02.trans hx3
        have hV0 : LocV m m3 m2.next [] (.slice none 0 0) := ⟨hb3, .nil rfl rfl, hx03, hx02.next, by simp [vb]⟩
        simp only [hs.len, go_sem, Int.reduceBEq, Int.reduceBNe, Int.reduceNeg, reduceCtorEq, Nat.reduceEqDiff, Nat.reduceAdd, Nat.reduceLeDiff, Nat.reduceMul, Nat.reduceSub, Int.reduceToNat, Int.reduceLT, Int.reduceLE]
        refine WL.of (fun k e m' => ∃ (i : Nat) (lv : Value), i ≤ l.length ∧ k = l.length - i ∧ e = [(9, .pointer (some ⟨m2.next, 0, none⟩)), (32, v), (33, .int .i64 l.length), (34, .int .i64 i)] ∧ LocV m m' m2.next ((l.take i).map ent) lv) l.length
          ⟨0, _, by omega, by omega, by simp only [go_sem, Int.reduceBEq, Int.reduceBNe, Int.reduceNeg, reduceCtorEq, Nat.reduceEqDiff, Nat.reduceAdd, Nat.reduceLeDiff, Nat.reduceMul, Nat.reduceSub, Int.reduceToNat, Int.reduceLT, Int.reduceLE] <;> rfl, hV0⟩ ?_
        rintro _ _ m4 ⟨i, lv, hi, rfl, rfl, hV⟩
        simp only [RB.local_New_1, go_sem, Int.reduceBEq, Int.reduceBNe, Int.reduceNeg, reduceCtorEq, Nat.reduceEqDiff, Nat.reduceAdd, Nat.reduceLeDiff, Nat.reduceMul, Nat.reduceSub, Int.reduceToNat, Int.reduceLT, Int.reduceLE]
        refine gT.of (fun g3' => ?_) (fun g3' => ?_) <;> (have g3 := g3'; try simp only [decide_eq_true_eq, decide_eq_false_iff_not, beq_iff_eq, bne_iff_ne, beq_eq_false_iff_ne, ne_eq, Bool.not_eq_true', Bool.not_eq_false', bne_eq_false_iff_eq, Int.not_lt, Int.not_le] at g3)
        · have hil : i < l.length := by omega
          have s1 := step1 (show i < 1000000 by omega)
          obtain ⟨p, o, a1, a2, -, -⟩ := (hs.keep hb hV.ext).elem spV_len (k := .i64) hil
          have tk : (l.take (i + 1)).map ent = (l.take i).map ent ++ [ent l[i]] := by rw [List.take_succ_eq_append_getElem hil, List.map_append]; rfl
          simp only [go_sem, Int.reduceBEq, Int.reduceBNe, Int.reduceNeg, reduceCtorEq, Nat.reduceEqDiff, Nat.reduceAdd, Nat.reduceLeDiff, Nat.reduceMul, Nat.reduceSub, Int.reduceToNat, Int.reduceLT, Int.reduceLE, g3', a1, a2]
          generalize l[i] = w at tk ⊢
          have hst : aStore 2 (m4.new (.cells [(.int .i64 0), (.int .i64 0)] (some 2))) (.pointer (some ⟨m4.next, 0, none⟩)) (.agg (spV w).toArray) = some (m4.new (.cells [.int .i64 w.1, .int .i64 w.2] (some 2))) := by
            simp only [spV]
            simp only [go_sem, Int.reduceBEq, Int.reduceBNe, Int.reduceNeg, reduceCtorEq, Nat.reduceEqDiff, Nat.reduceAdd, Nat.reduceLeDiff, Nat.reduceMul, Nat.reduceSub, Int.reduceToNat, Int.reduceLT, Int.reduceLE, load_w, load_a, store_b, idxS_b, set_blk, new_blk, set_next, new_next, len_s, ldW_c, ldA_c, stB_c, toArr_one, size_one, toList_toArr, size_toArr, List.length_cons, List.length_nil, List.getElem?_cons_zero, List.getElem?_cons_succ, Nat.zero_add, Nat.add_zero]
          simp only [go_sem, Int.reduceBEq, Int.reduceBNe, Int.reduceNeg, reduceCtorEq, Nat.reduceEqDiff, Nat.reduceAdd, Nat.reduceLeDiff, Nat.reduceMul, Nat.reduceSub, Int.reduceToNat, Int.reduceLT, Int.reduceLE, hst]
          have hxx : Ext m4 (m4.new (.cells [.int .i64 w.1, .int .i64 w.2] (some 2))) := Ext.new
          have hbx : Bk (m4.new (.cells [.int .i64 w.1, .int .i64 w.2] (some 2))) m4.next [.int .i64 w.1, .int .i64 w.2] 2 := Bk.new
          have hV5 := hV.keep hxx
          generalize m4.new (.cells [.int .i64 w.1, .int .i64 w.2] (some 2)) = m5 at hbx hV5 ⊢
          have c3 : aLoad true 2 m5 (.pointer (some ⟨m4.next, 0, none⟩)) = some (.agg (spV w).toArray) := by simp only [go_sem, Int.reduceBEq, Int.reduceBNe, Int.reduceNeg, reduceCtorEq, Nat.reduceEqDiff, Nat.reduceAdd, Nat.reduceLeDiff, Nat.reduceMul, Nat.reduceSub, Int.reduceToNat, Int.reduceLT, Int.reduceLE, load_w, load_a, store_b, idxS_b, set_blk, new_blk, set_next, new_next, len_s, ldW_c, ldA_c, stB_c, toArr_one, size_one, toList_toArr, size_toArr, List.length_cons, List.length_nil, List.getElem?_cons_zero, List.getElem?_cons_succ, Nat.zero_add, Nat.add_zero, hbx.at_]; rfl
          have c1 := hV5.ld
          simp only [go_sem, Int.reduceBEq, Int.reduceBNe, Int.reduceNeg, reduceCtorEq, Nat.reduceEqDiff, Nat.reduceAdd, Nat.reduceLeDiff, Nat.reduceMul, Nat.reduceSub, Int.reduceToNat, Int.reduceLT, Int.reduceLE, c1, c3]
          obtain ⟨v', m6, m7, f1, f2, hV7⟩ := hV5.appD (e := ent w) (N := 12) (s := 7) (t := 8) (by simp; omega) (by omega) (by omega)
          refine ⟨rfl, rfl, rfl, ?_⟩
          have pad : spV w ++ List.drop (spV w).length [Value.int IntKind.i64 0, Value.int IntKind.i64 0, Value.int IntKind.i64 0] ++ List.drop (spV w ++ List.drop (spV w).length [Value.int IntKind.i64 0, Value.int IntKind.i64 0, Value.int IntKind.i64 0]).length [Value.int IntKind.i64 0, Value.int IntKind.i64 0, Value.int IntKind.i64 0] = enV (ent w) := rfl
          rw [pad, f1]
          simp only [go_sem, Int.reduceBEq, Int.reduceBNe, Int.reduceNeg, reduceCtorEq, Nat.reduceEqDiff, Nat.reduceAdd, Nat.reduceLeDiff, Nat.reduceMul, Nat.reduceSub, Int.reduceToNat, Int.reduceLT, Int.reduceLE, f2, s1]
          exact ⟨l.length - (i + 1), by omega, i + 1, v', by omega, rfl, rfl, by rw [tk]; exact hV7⟩
        · have : i = l.length := by omega
          subst this
          rw [List.take_length] at hV
          have c1 := hV.ld
          simp only [go_sem, Int.reduceBEq, Int.reduceBNe, Int.reduceNeg, reduceCtorEq, Nat.reduceEqDiff, Nat.reduceAdd, Nat.reduceLeDiff, Nat.reduceMul, Nat.reduceSub, Int.reduceToNat, Int.reduceLT, Int.reduceLE, g3', c1]
          refine gC.of (so_own enV_len enV_one enCmp enSWO hV.own hV.ext (by simp; omega)) ?_
          rintro _ m5 ⟨L', hp, hso, ho, hx, hu⟩
          simp only [go_sem, Int.reduceBEq, Int.reduceBNe, Int.reduceNeg, reduceCtorEq, Nat.reduceEqDiff, Nat.reduceAdd, Nat.reduceLeDiff, Nat.reduceMul, Nat.reduceSub, Int.reduceToNat, Int.reduceLT, Int.reduceLE]
          refine .inr ⟨hE, m2.next, L', lv, rfl, ⟨hV.box.upd hu (fun h => hV.off _ h rfl), ho, hx, hV.ge, hV.off⟩, hp, hso⟩
    · have hE : newE f l = 12 := by unfold newE; rw [if_pos g1, ht]
      have e2 : ((5 : Int) != 0) = true := rfl
      simp only [go_sem, Int.reduceBEq, Int.reduceBNe, Int.reduceNeg, reduceCtorEq, Nat.reduceEqDiff, Nat.reduceAdd, Nat.reduceLeDiff, Nat.reduceMul, Nat.reduceSub, Int.reduceToNat, Int.reduceLT, Int.reduceLE, aExt0, aExt1, e2]
      exact .inl ⟨by rw [hE]; decide, by rw [hE], hx1.trans hx2⟩
  · have hE : newE f l = chkA f l := by unfold newE; rw [if_neg g1]
    have e1 : (chkA f l != 0) = true := by rw [bne_iff_ne]; exact g1
    simp only [go_sem, Int.reduceBEq, Int.reduceBNe, Int.reduceNeg, reduceCtorEq, Nat.reduceEqDiff, Nat.reduceAdd, Nat.reduceLeDiff, Nat.reduceMul, Nat.reduceSub, Int.reduceToNat, Int.reduceLT, Int.reduceLE, e1]
    exact .inl ⟨by rw [hE]; exact g1, by rw [hE], hx1⟩
end Go.Am


/- A local: made for the laws. -/
set_option linter.unusedVariables false
set_option linter.unusedSimpArgs false
namespace Go.Am
variable {m : Mem}

def sumW : List Sp → Int
  | [] => 0
  | w :: r => w.2 + sumW r
theorem sumW_perm {l l' : List Sp} (h : l.Perm l') : sumW l = sumW l' := by
  induction h with
  | nil => rfl
  | cons x _ ih => simp only [sumW, ih]
  | swap x y l => simp only [sumW]; omega
  | trans _ _ h1 h2 => exact h1.trans h2
theorem sumW_wts : ∀ {L : List En}, sumW (wts L) = sumN sI L
  | [] => rfl
  | e :: L => by
    show e.s + sumW (wts L) = e.s + sumN sI L
    rw [sumW_wts]
theorem sumW_nn {l : List Sp} (h : ∀ w ∈ l, 0 ≤ w.2) : 0 ≤ sumW l := by
  induction l with
  | nil => exact Int.le_refl _
  | cons w l ih =>
    have := h w (by simp)
    have := ih fun x hx => h x (by simp [hx])
    show 0 ≤ w.2 + sumW l
    omega

theorem totO_sum : ∀ {l : List Sp} {n : Int}, (∀ w ∈ l, 0 ≤ w.2 ∧ w.2 ≤ 1000) → 0 ≤ n → n + 1000 * l.length ≤ 1000000000 → totO n l = some (n + sumW l)
  | [], n, _, _, _ => by show some n = some (n + 0); rw [Int.add_zero]
  | w :: l, n, h, hn, hb => by
    have hw := h w (by simp)
    simp only [List.length_cons] at hb
    rw [totO, if_pos (by unfold inR; omega), totO_sum (fun x hx => h x (by simp [hx])) (by omega) (by omega)]
    show some (n + w.2 + sumW l) = some (n + (w.2 + sumW l))
    congr 1; omega

theorem chkF_zero {f : Int} : ∀ {l pre : List Sp}, chkF f pre l = 0 → (∀ w ∈ l, isU w.1 ∧ 1 ≤ w.2 ∧ w.2 ≤ f) ∧ (l.map Prod.fst).Nodup ∧ ∀ w ∈ l, ∀ p ∈ pre, p.1 ≠ w.1
  | [], pre, _ => by simp
  | w :: l, pre, h => by
    rw [chkF] at h
    split at h
    · cases h
    · rename_i h1
      split at h
      · cases h
      · rename_i h2
        split at h
        · cases h
        · rename_i h3
          obtain ⟨k1, k2, k3⟩ := chkF_zero h
          refine ⟨fun x hx => ?_, ?_, fun x hx p hp => ?_⟩
          · rcases List.mem_cons.1 hx with rfl | hx
            · exact ⟨Classical.not_not.1 h1, by omega, by omega⟩
            · exact k1 x hx
          · rw [List.map_cons, List.nodup_cons]
            refine ⟨fun hm => ?_, k2⟩
            obtain ⟨y, hy, e⟩ := List.mem_map.1 hm
            exact k3 y hy w (by simp) e.symm
          · rcases List.mem_cons.1 hx with rfl | hx
            · intro e; exact h3 ⟨p, hp, e⟩
            · exact k3 x hx p (by simp [hp])

theorem newE_zero {f : Int} {l : List Sp} (h : newE f l = 0) (hl : l.length ≤ 1000) : 2 ≤ f ∧ f ≤ 64 ∧ (∀ w ∈ l, isU w.1 ∧ 1 ≤ w.2 ∧ w.2 ≤ f) ∧ (l.map Prod.fst).Nodup ∧ sumW l ≤ f := by
  unfold newE at h
  split at h
  · rename_i hc
    unfold chkA at hc
    split at hc
    · cases hc
    · rename_i hf
      obtain ⟨k1, k2, k3⟩ := chkF_zero hc
      have ht := totO_sum (n := 0) (l := l) (fun w hw => by have := k1 w hw; omega) (by omega) (by omega)
      rw [ht] at h
      simp only at h
      split at h
      · cases h
      · exact ⟨by omega, by omega, k1, k2, by omega⟩
  · rename_i hc; exact absurd h hc

theorem ref15Check {l : List Sp} {v : Value} {f : Int} (hs : Sl m 2 l.length (l.flatMap spV) v) (hl : l.length ≤ 1000) (hr : ∀ w ∈ l, inR w.2) :
    WC R F.ref15_Check [.int .i64 f, v] m fun r m' => r = .int .i64 (newE f l) ∧ m' = m := by
  refine WC.of R.ref15_Check rfl ?_
  simp only [RC.ref15_Check, go_sem, Int.reduceBEq, Int.reduceBNe, Int.reduceNeg, reduceCtorEq, Nat.reduceEqDiff, Nat.reduceAdd, Nat.reduceLeDiff, Nat.reduceMul, Nat.reduceSub, Int.reduceToNat, Int.reduceLT, Int.reduceLE]
  refine gC.of (refCheck hs (by omega)) ?_
  rintro _ _ ⟨rfl, hm⟩
  subst hm
  by_cases g1 : chkA f l = 0
  · have e1 : (chkA f l != 0) = false := by rw [g1]; rfl
    simp only [go_sem, Int.reduceBEq, Int.reduceBNe, Int.reduceNeg, reduceCtorEq, Nat.reduceEqDiff, Nat.reduceAdd, Nat.reduceLeDiff, Nat.reduceMul, Nat.reduceSub, Int.reduceToNat, Int.reduceLT, Int.reduceLE, e1]
    refine gC.of (refTotal hs (by omega) hr) ?_
    rintro _ _ ⟨⟨n, ht, rfl⟩ | ⟨ht, rfl⟩, hm⟩ <;> subst hm
    · have hE : newE f l = if f < n then 12 else 0 := by unfold newE; rw [if_pos g1, ht]
      by_cases g2 : f < n
      · have e3 : decide (f < n) = true := decide_eq_true g2
        rw [if_pos g2] at hE
        simp only [go_sem, Int.reduceBEq, Int.reduceBNe, Int.reduceNeg, reduceCtorEq, Nat.reduceEqDiff, Nat.reduceAdd, Nat.reduceLeDiff, Nat.reduceMul, Nat.reduceSub, Int.reduceToNat, Int.reduceLT, Int.reduceLE, aExt0, aExt1, e3]
        rw [hE]
      · have e3 : decide (f < n) = false := decide_eq_false g2
        rw [if_neg g2] at hE
        simp only [go_sem, Int.reduceBEq, Int.reduceBNe, Int.reduceNeg, reduceCtorEq, Nat.reduceEqDiff, Nat.reduceAdd, Nat.reduceLeDiff, Nat.reduceMul, Nat.reduceSub, Int.reduceToNat, Int.reduceLT, Int.reduceLE, aExt0, aExt1, e3]
        rw [hE]
    · exfalso
      have hc := g1
      unfold chkA at hc
      split at hc
      · cases hc
      · obtain ⟨k1, -, -⟩ := chkF_zero hc
        rw [totO_sum (n := 0) (fun w hw => by have := k1 w hw; omega) (by omega) (by omega)] at ht
        cases ht
  · have hE : newE f l = chkA f l := by unfold newE; rw [if_neg g1]
    have e1 : (chkA f l != 0) = true := by rw [bne_iff_ne]; exact g1
    simp only [go_sem, Int.reduceBEq, Int.reduceBNe, Int.reduceNeg, reduceCtorEq, Nat.reduceEqDiff, Nat.reduceAdd, Nat.reduceLeDiff, Nat.reduceMul, Nat.reduceSub, Int.reduceToNat, Int.reduceLT, Int.reduceLE, e1]
    rw [hE]

theorem wts_keys {L : List En} : wts L = keys L := rfl
theorem keys_ent {l : List Sp} : keys (l.map ent) = l := by
  unfold keys; rw [List.map_map]
  have : (fun e : En => (e.u, e.s)) ∘ ent = id := by funext w; rfl
  rw [this, List.map_id]
theorem keys_perm {L L' : List En} (h : L.Perm L') : (keys L).Perm (keys L') := h.map _

theorem locTotal {m0 : Mem} {b : Nat} {L : List En} {lv : Value} (h : LocV m0 m b L lv) (hl : L.length ≤ 1000) (hS : ∀ e ∈ L, 0 ≤ e.s ∧ e.s ≤ 1000) :
    WC R F.local_Local_Total [.pointer (some ⟨b, 0, none⟩)] m fun r m' => r = .int .i64 (sumN sI L) ∧ Ext m m' := by
  refine WC.of R.local_Local_Total rfl ?_
  simp only [RC.local_Local_Total, go_sem, Int.reduceBEq, Int.reduceBNe, Int.reduceNeg, reduceCtorEq, Nat.reduceEqDiff, Nat.reduceAdd, Nat.reduceLeDiff, Nat.reduceMul, Nat.reduceSub, Int.reduceToNat, Int.reduceLT, Int.reduceLE]
  refine gC.of (locWants h (by omega)) ?_
  rintro wv m1 ⟨ho, hx1⟩
  have hw : (wts L).length = L.length := by simp [wts]
  have hb : ∀ w ∈ wts L, 0 ≤ w.2 ∧ w.2 ≤ 1000 := fun w hw => by
    obtain ⟨e, he, rfl⟩ := List.mem_map.1 hw
    exact hS e he
  simp only [go_sem, Int.reduceBEq, Int.reduceBNe, Int.reduceNeg, reduceCtorEq, Nat.reduceEqDiff, Nat.reduceAdd, Nat.reduceLeDiff, Nat.reduceMul, Nat.reduceSub, Int.reduceToNat, Int.reduceLT, Int.reduceLE]
  refine gC.of (orTotal ho.sl ho.lt (by omega) (fun w hw => by have := hb w hw; unfold inR; omega)) ?_
  have ht := totO_sum (n := 0) (l := wts L) hb (by omega) (by omega)
  rintro _ m2 ⟨⟨n, hn, rfl⟩ | ⟨hn, rfl⟩, hx2⟩
  · rw [ht] at hn
    have : n = sumN sI L := by rw [← sumW_wts]; have := Option.some.inj hn; omega
    subst this
    simp only [go_sem, Int.reduceBEq, Int.reduceBNe, Int.reduceNeg, reduceCtorEq, Nat.reduceEqDiff, Nat.reduceAdd, Nat.reduceLeDiff, Nat.reduceMul, Nat.reduceSub, Int.reduceToNat, Int.reduceLT, Int.reduceLE, aExt0, aExt1]
    exact hx1.trans hx2
  · rw [ht] at hn; cases hn

theorem pick_g {L : List En} {off : Int → Bool} {K : Nat} (hs : ∀ e ∈ L, 0 < e.s) (h : ∀ e ∈ L, e.g ≤ K) : ∀ e ∈ pick L off, e.g ≤ K + 1 := by
  have sp := bst_spec (off := off) hs L.length (Nat.le_refl _)
  intro e he
  cases hb : bst L off L.length with
  | none =>
    have : pick L off = L := by unfold pick; rw [hb]
    rw [this] at he
    have := h e he; omega
  | some b =>
    rw [hb] at sp
    rw [pick_some hb sp.1] at he
    rcases List.mem_or_eq_of_mem_set he with h1 | h1
    · have := h e h1; omega
    · have := h _ (List.getElem_mem sp.1)
      rw [h1]; show L[b].g + 1 ≤ K + 1; omega

/-- Bounds of all. -/
structure Bd (L : List En) (K : Nat) : Prop where
  s : ∀ e ∈ L, 0 < e.s ∧ e.s ≤ 64
  g : ∀ e ∈ L, e.g ≤ K
theorem Bd.pos {L : List En} {K : Nat} (h : Bd L K) : ∀ e ∈ L, 0 < e.s := fun e he => (h.s e he).1
theorem Bd.sm {L : List En} {K : Nat} (h : Bd L K) (hK : K < 900000) : ∀ e ∈ L, Sm e := fun e he => ⟨(h.s e he).1, by have := (h.s e he).2; omega, by have := h.g e he; omega⟩
theorem Bd.pick {L : List En} {K : Nat} {off : Int → Bool} (h : Bd L K) : Bd (pick L off) (K + 1) := by
  refine ⟨fun e he => ?_, pick_g h.pos h.g⟩
  have hk := pick_keys (off := off) h.pos
  have : (e.u, e.s) ∈ keys L := by rw [← hk]; exact List.mem_map.2 ⟨e, he, rfl⟩
  obtain ⟨e', he', heq⟩ := List.mem_map.1 this
  have := h.s e' he'
  have : e'.s = e.s := congrArg Prod.snd heq
  omega

/-- A local of a law: nobody got anything yet. -/
structure MadeL (l : List Sp) (L : List En) : Prop where
  perm : (keys L).Perm l
  zero : ∀ e ∈ L, e.g = 0
  bd : Bd L 0

theorem locMade {l : List Sp} {v : Value} {f : Int} (hs : Sl m 2 l.length (l.flatMap spV) v) (hb : SlLt m v) (hl : l.length ≤ 80) (hr : ∀ w ∈ l, inR w.2) :
    WC R F.law15_made [.int .i64 f, v] m fun r m' => (newE f l ≠ 0 ∧ r = .tuple #[.pointer none, .bool false] ∧ Ext m m') ∨
      (newE f l = 0 ∧ ∃ b L lv, r = .tuple #[.pointer (some ⟨b, 0, none⟩), .bool true] ∧ LocV m m' b L lv ∧ MadeL l L) := by
  refine WC.of R.law15_made rfl ?_
  simp only [RC.law15_made, go_sem, Int.reduceBEq, Int.reduceBNe, Int.reduceNeg, reduceCtorEq, Nat.reduceEqDiff, Nat.reduceAdd, Nat.reduceLeDiff, Nat.reduceMul, Nat.reduceSub, Int.reduceToNat, Int.reduceLT, Int.reduceLE]
  refine gC.of (locNew hs hb (by omega) hr) ?_
  rintro _ m1 (⟨hE, rfl, hx⟩ | ⟨hE, b, L, lv, rfl, hV, hp, -⟩)
  · have e1 : (newE f l != 0) = true := by rw [bne_iff_ne]; exact hE
    simp only [go_sem, Int.reduceBEq, Int.reduceBNe, Int.reduceNeg, reduceCtorEq, Nat.reduceEqDiff, Nat.reduceAdd, Nat.reduceLeDiff, Nat.reduceMul, Nat.reduceSub, Int.reduceToNat, Int.reduceLT, Int.reduceLE, aExt0, aExt1, e1]
    exact .inl ⟨hE, hx⟩
  · have e1 : ((0 : Int) != 0) = false := rfl
    obtain ⟨f1, f2, k1, k2, k3⟩ := newE_zero hE (by omega)
    have hkp : (keys L).Perm l := by have := keys_perm hp; rw [keys_ent] at this; exact this
    have hLl : L.length = l.length := by rw [hp.length_eq, List.length_map]
    have hSm : ∀ e ∈ L, 0 < e.s ∧ e.s ≤ 64 := fun e he => by
      have : (e.u, e.s) ∈ l := hkp.mem_iff.1 (List.mem_map.2 ⟨e, he, rfl⟩)
      have := k1 _ this
      simp only at this; omega
    have hg0 : ∀ e ∈ L, e.g = 0 := fun e he => by
      obtain ⟨w, -, rfl⟩ := List.mem_map.1 (hp.mem_iff.1 he); rfl
    have pos : ∀ e ∈ L, 0 < e.s := fun e he => (hSm e he).1
    have hB : Bd L 0 := ⟨hSm, fun e he => by rw [hg0 e he]; exact Nat.le_refl _⟩
    have e2 : aEq .ptr (.pointer (some ⟨b, 0, none⟩)) (.pointer none) = some false := rfl
    simp only [go_sem, Int.reduceBEq, Int.reduceBNe, Int.reduceNeg, reduceCtorEq, Nat.reduceEqDiff, Nat.reduceAdd, Nat.reduceLeDiff, Nat.reduceMul, Nat.reduceSub, Int.reduceToNat, Int.reduceLT, Int.reduceLE, aExt0, aExt1, e1, e2]
    refine gC.of (locPick (off := []) hV (hB.sm (by omega)) (by omega) (.nil rfl rfl) trivial (by simp)) ?_
    rintro _ m2 ⟨-, hV2⟩
    have hk2 := pick_keys (off := offF []) pos
    have hB2 := hB.pick (off := offF [])
    have hl2 := keys_len hk2
    simp only [go_sem, Int.reduceBEq, Int.reduceBNe, Int.reduceNeg, reduceCtorEq, Nat.reduceEqDiff, Nat.reduceAdd, Nat.reduceLeDiff, Nat.reduceMul, Nat.reduceSub, Int.reduceToNat, Int.reduceLT, Int.reduceLE]
    refine gC.of (locPick (off := []) hV2 (hB2.sm (by omega)) (by omega) (.nil rfl rfl) trivial (by simp)) ?_
    rintro _ m3 ⟨-, hV3⟩
    have hk3 := pick_keys (off := offF []) hB2.pos
    have hB3 := hB2.pick (off := offF [])
    have hl3 := keys_len hk3
    simp only [go_sem, Int.reduceBEq, Int.reduceBNe, Int.reduceNeg, reduceCtorEq, Nat.reduceEqDiff, Nat.reduceAdd, Nat.reduceLeDiff, Nat.reduceMul, Nat.reduceSub, Int.reduceToNat, Int.reduceLT, Int.reduceLE]
    refine gC.of (locBegin hV3 (by omega)) ?_
    rintro _ m4 hV4
    simp only [go_sem, Int.reduceBEq, Int.reduceBNe, Int.reduceNeg, reduceCtorEq, Nat.reduceEqDiff, Nat.reduceAdd, Nat.reduceLeDiff, Nat.reduceMul, Nat.reduceSub, Int.reduceToNat, Int.reduceLT, Int.reduceLE]
    have hkz : ∀ L : List En, keys (L.map fun e => { e with g := 0 }) = keys L := fun L => by unfold keys; rw [List.map_map]; rfl
    refine .inr ⟨hE, b, _, lv, rfl, hV4, ?_, fun e he => ?_, ⟨fun e he => ?_, fun e he => ?_⟩⟩
    · rw [hkz, hk3, hk2]; exact hkp
    · obtain ⟨e', -, rfl⟩ := List.mem_map.1 he; rfl
    · obtain ⟨e', he', rfl⟩ := List.mem_map.1 he; exact hB3.s e' he'
    · obtain ⟨e', -, rfl⟩ := List.mem_map.1 he; exact Nat.le_refl _
end Go.Am


/- A local: a unit leaves. -/
set_option linter.unusedVariables false
set_option linter.unusedSimpArgs false
namespace Go.Am
variable {m : Mem}

theorem locDrop {m0 : Mem} {b : Nat} {L : List En} {lv : Value} {x : Int} (h : LocV m0 m b L lv) (hl : L.length < 10000) :
    WC R F.local_Local_Drop [.pointer (some ⟨b, 0, none⟩), .int .i64 x] m fun r m' => ((∀ e ∈ L, e.u ≠ x) ∧ r = .bool false ∧ LocV m0 m' b L lv ∧ Ext m m') ∨
      (∃ i : Nat, ∃ h : i < L.length, L[i].u = x ∧ (∀ j (hj : j < i), (L[j]'(by omega)).u ≠ x) ∧ r = .bool true ∧ ∃ lv', LocV m0 m' b (L.eraseIdx i) lv' ∧ vb lv' = vb lv ∧ Upd m m' (b :: vb lv)) := by
  refine WC.of R.local_Local_Drop rfl ?_
  simp only [RC.local_Local_Drop, go_sem, Int.reduceBEq, Int.reduceBNe, Int.reduceNeg, reduceCtorEq, Nat.reduceEqDiff, Nat.reduceAdd, Nat.reduceLeDiff, Nat.reduceMul, Nat.reduceSub, Int.reduceToNat, Int.reduceLT, Int.reduceLE]
  refine gC.of (locFind h (by omega)) ?_
  rintro _ m1 ⟨⟨h2, rfl⟩ | ⟨i, hi, rfl, h2, h3⟩, hx⟩
  · have e : decide ((-1 : Int) < 0) = true := rfl
    simp only [go_sem, Int.reduceBEq, Int.reduceBNe, Int.reduceNeg, reduceCtorEq, Nat.reduceEqDiff, Nat.reduceAdd, Nat.reduceLeDiff, Nat.reduceMul, Nat.reduceSub, Int.reduceToNat, Int.reduceLT, Int.reduceLE, e]
    exact .inl ⟨h2, h.keep hx, hx⟩
  · have e : decide ((i : Int) < 0) = false := by simp
    have h1 := h.keep hx
    have c1 := h1.ld
    have s1 := step1 (show i < 1000000 by omega)
    simp only [go_sem, Int.reduceBEq, Int.reduceBNe, Int.reduceNeg, reduceCtorEq, Nat.reduceEqDiff, Nat.reduceAdd, Nat.reduceLeDiff, Nat.reduceMul, Nat.reduceSub, Int.reduceToNat, Int.reduceLT, Int.reduceLE, e, c1, s1]
    refine gC.of (le_Delete1 enV_len enV_one h1.own h1.ext (by omega) hi) ?_
    rintro lv' m2 ⟨ho, hx2, hvb, hu⟩
    have hsl := ho.sl
    have hb2 : Bk m2 b [lv] 1 := h1.box.upd hu (fun hm => h1.off b hm rfl)
    have hst : aStore 1 m2 (.pointer (some ⟨b, 0, none⟩)) lv' = some (m2.set b (some (.cells [lv'] (some 1)))) := by
      simp only [aStore, hsl.cells]
      simp only [aWrite, hb2.at_]
      have h1 : lv'.oneCell' = true := hsl.one
      have : oneCells [lv'] = true := by unfold oneCells; simp [h1]
      simp [this, writeL]
    simp only [go_sem, Int.reduceBEq, Int.reduceBNe, Int.reduceNeg, reduceCtorEq, Nat.reduceEqDiff, Nat.reduceAdd, Nat.reduceLeDiff, Nat.reduceMul, Nat.reduceSub, Int.reduceToNat, Int.reduceLT, Int.reduceLE, hst]
    have hu2 : Upd m2 (m2.set b (some (.cells [lv'] (some 1)))) [b] := Upd.set (by simp)
    have hoff : ∀ c ∈ vb lv', c ≠ b := fun c hc => h1.off c (by rw [← hvb]; exact hc)
    have hO' : Own m0 (m2.set b (some (.cells [lv'] (some 1)))) 3 (L.eraseIdx i).length ((L.eraseIdx i).flatMap enV) lv' := ?_
    · refine .inr ⟨i, hi, h2, h3, lv', ⟨⟨by simp [Mem.set], hb2.lt⟩, hO', hu2.ext_of hx2 (by simpa using h1.ge), h1.ge, hoff⟩, hvb, ?_⟩
      have h12 : Upd m1 (m2.set b (some (.cells [lv'] (some 1)))) (b :: vb lv) := hu.trans hu2 (fun x hx => List.mem_cons_of_mem _ hx) (fun x hx => .inl (by simp at hx; simp [hx]))
      exact (hx.upd (fp := [])).trans h12 (fun x hx => by simp at hx) (fun x hx => .inl hx)
    cases ho with
    | nil h hc => exact .nil h hc
    | @«at» c2 c all hb hb2 hn hm hl hcs h1 =>
      refine .at hb (Nat.lt_of_lt_of_le hb2 hu2.next) hn ?_ hl hcs h1
      rw [hu2.same c2 hb2 (by simpa [vb] using hoff c2 (by simp [vb]))]; exact hm
end Go.Am


/- The reference's local. -/
set_option linter.unusedVariables false
set_option linter.unusedSimpArgs false
namespace Go.Am
variable {m : Mem}

theorem ref15Has {l : List Int} {v : Value} {x : Int} (hs : Sl m 1 l.length (intsZ l) v) (hl : l.length < 1000000) :
    WC R F.ref15_Has [v, .int .i64 x] m fun r m' => r = .bool (decide (x ∈ l)) ∧ m' = m := by
  refine WC.of R.ref15_Has rfl ?_
  simp only [RC.ref15_Has, go_sem, Int.reduceBEq, Int.reduceBNe, Int.reduceNeg, reduceCtorEq, Nat.reduceEqDiff, Nat.reduceAdd, Nat.reduceLeDiff, Nat.reduceMul, Nat.reduceSub, Int.reduceToNat, Int.reduceLT, Int.reduceLE]
  refine WL.of (fun n e m' => ∃ i : Nat, i ≤ l.length ∧ n = l.length - i ∧ m' = m ∧ e = [(0, v), (1, .int .i64 x), (5, .int .i64 i)] ∧ x ∉ l.take i) l.length
    ⟨0, by omega, by omega, rfl, by simp only [go_sem, Int.reduceBEq, Int.reduceBNe, Int.reduceNeg, reduceCtorEq, Nat.reduceEqDiff, Nat.reduceAdd, Nat.reduceLeDiff, Nat.reduceMul, Nat.reduceSub, Int.reduceToNat, Int.reduceLT, Int.reduceLE] <;> rfl, by simp⟩ ?_
  rintro _ _ _ ⟨i, hi, rfl, rfl, rfl, hno⟩
  simp only [RB.ref15_Has_1, go_sem, Int.reduceBEq, Int.reduceBNe, Int.reduceNeg, reduceCtorEq, Nat.reduceEqDiff, Nat.reduceAdd, Nat.reduceLeDiff, Nat.reduceMul, Nat.reduceSub, Int.reduceToNat, Int.reduceLT, Int.reduceLE, hs.len]
  refine gT.of (fun g1' => ?_) (fun g1' => ?_) <;> (have g1 := g1'; try simp only [decide_eq_true_eq, decide_eq_false_iff_not, beq_iff_eq, bne_iff_ne, beq_eq_false_iff_ne, ne_eq, Bool.not_eq_true', Bool.not_eq_false', bne_eq_false_iff_eq, Int.not_lt, Int.not_le] at g1)
  · have hil : i < l.length := by omega
    have s1 := step1 (show i < 1000000 by omega)
    obtain ⟨p, a1, a2⟩ := hs.get (k := .i64) hil
    rw [intsZ_get hil] at a2
    simp only [go_sem, Int.reduceBEq, Int.reduceBNe, Int.reduceNeg, reduceCtorEq, Nat.reduceEqDiff, Nat.reduceAdd, Nat.reduceLeDiff, Nat.reduceMul, Nat.reduceSub, Int.reduceToNat, Int.reduceLT, Int.reduceLE, g1', a1, a2]
    refine gT.of (fun g2' => ?_) (fun g2' => ?_) <;> (have g2 := g2'; try simp only [decide_eq_true_eq, decide_eq_false_iff_not, beq_iff_eq, bne_iff_ne, beq_eq_false_iff_ne, ne_eq, Bool.not_eq_true', Bool.not_eq_false', bne_eq_false_iff_eq, Int.not_lt, Int.not_le] at g2)
    · simp only [go_sem, Int.reduceBEq, Int.reduceBNe, Int.reduceNeg, reduceCtorEq, Nat.reduceEqDiff, Nat.reduceAdd, Nat.reduceLeDiff, Nat.reduceMul, Nat.reduceSub, Int.reduceToNat, Int.reduceLT, Int.reduceLE, g2']
      have : x ∈ l := by rw [← g2]; exact List.getElem_mem hil
      rw [decide_eq_true this]
    · simp only [go_sem, Int.reduceBEq, Int.reduceBNe, Int.reduceNeg, reduceCtorEq, Nat.reduceEqDiff, Nat.reduceAdd, Nat.reduceLeDiff, Nat.reduceMul, Nat.reduceSub, Int.reduceToNat, Int.reduceLT, Int.reduceLE, g2', s1]
      refine ⟨l.length - (i + 1), by omega, i + 1, by omega, rfl, rfl, ?_⟩
      rw [List.take_succ_eq_append_getElem hil]
      intro h
      rcases List.mem_append.1 h with h | h
      · exact hno h
      · exact g2 (List.mem_singleton.1 h).symm
  · have : i = l.length := by omega
    subst this
    rw [List.take_length] at hno
    simp only [go_sem, Int.reduceBEq, Int.reduceBNe, Int.reduceNeg, reduceCtorEq, Nat.reduceEqDiff, Nat.reduceAdd, Nat.reduceLeDiff, Nat.reduceMul, Nat.reduceSub, Int.reduceToNat, Int.reduceLT, Int.reduceLE, g1']
    rw [decide_eq_false hno]

def gots (L : List En) : List Int := L.map fun e => (e.g : Int)

/-- The reference's local, as it lies. -/
structure RefL (m : Mem) (L : List En) (wv gv : Value) : Prop where
  w : Sl m 2 (keys L).length ((keys L).flatMap spV) wv
  wl : SlLt m wv
  wc : Cut 2 m wv
  g : Sl m 1 (gots L).length (intsZ (gots L)) gv
  gl : SlLt m gv
  gc : Cut 1 m gv
theorem RefL.keep {m m' : Mem} {L : List En} {wv gv : Value} (h : RefL m L wv gv) (hx : Ext m m') : RefL m' L wv gv :=
  ⟨h.w.keep h.wl hx, h.wl.keep hx, h.wc.keep h.wl hx, h.g.keep h.gl hx, h.gl.keep hx, h.gc.keep h.gl hx⟩

theorem keys_length {L : List En} : (keys L).length = L.length := by simp [keys]
theorem gots_length {L : List En} : (gots L).length = L.length := by simp [gots]

set_option maxHeartbeats 2000000 in
theorem ref15Next {L : List En} {wv gv ov : Value} {off : List Int} (hR : RefL m L wv gv) (hS : ∀ e ∈ L, Sm e) (hl : L.length < 1000000) (ho : Sl m 1 off.length (intsZ off) ov) (hob : SlLt m ov) (hol : off.length < 1000000) :
    WC R F.ref15_Next [.agg #[wv, gv], ov] m fun r m' => r = .int .i64 (bI (bst L (offF off) L.length)) ∧ Ext m m' := by
  refine WC.of R.ref15_Next rfl ?_
  obtain ⟨p1, n1, c1, rfl⟩ : ∃ p n c, wv = .slice p n c := by cases hR.w <;> exact ⟨_, _, _, rfl⟩
  obtain ⟨p2, n2, c2, rfl⟩ : ∃ p n c, gv = .slice p n c := by cases hR.g <;> exact ⟨_, _, _, rfl⟩
  simp only [RC.ref15_Next, go_sem, Int.reduceBEq, Int.reduceBNe, Int.reduceNeg, reduceCtorEq, Nat.reduceEqDiff, Nat.reduceAdd, Nat.reduceLeDiff, Nat.reduceMul, Nat.reduceSub, Int.reduceToNat, Int.reduceLT, Int.reduceLE]
  have hx1 : Ext m (m.new (.cells [.slice p1 n1 c1, .slice p2 n2 c2] (some 2))) := Ext.new
  have hb1 : Bk (m.new (.cells [.slice p1 n1 c1, .slice p2 n2 c2] (some 2))) m.next [.slice p1 n1 c1, .slice p2 n2 c2] 2 := Bk.new
  generalize m.new (.cells [.slice p1 n1 c1, .slice p2 n2 c2] (some 2)) = m1 at hx1 hb1 ⊢
  have hR1 := hR.keep hx1
  have ho1 := ho.keep hob hx1
  have pos : ∀ e ∈ L, 0 < e.s := fun e he => (hS e he).1
  have l0 : aLoad false 1 m1 (.pointer (some ⟨m.next, 0, none⟩)) = some (.slice p1 n1 c1) := by simp only [go_sem, Int.reduceBEq, Int.reduceBNe, Int.reduceNeg, reduceCtorEq, Nat.reduceEqDiff, Nat.reduceAdd, Nat.reduceLeDiff, Nat.reduceMul, Nat.reduceSub, Int.reduceToNat, Int.reduceLT, Int.reduceLE, load_w, load_a, store_b, idxS_b, set_blk, new_blk, set_next, new_next, len_s, ldW_c, ldA_c, stB_c, toArr_one, size_one, toList_toArr, size_toArr, List.length_cons, List.length_nil, List.getElem?_cons_zero, List.getElem?_cons_succ, Nat.zero_add, Nat.add_zero, hb1.at_]
  have l1 : aLoad false 1 m1 (.pointer (some ⟨m.next, 1, none⟩)) = some (.slice p2 n2 c2) := by simp only [go_sem, Int.reduceBEq, Int.reduceBNe, Int.reduceNeg, reduceCtorEq, Nat.reduceEqDiff, Nat.reduceAdd, Nat.reduceLeDiff, Nat.reduceMul, Nat.reduceSub, Int.reduceToNat, Int.reduceLT, Int.reduceLE, load_w, load_a, store_b, idxS_b, set_blk, new_blk, set_next, new_next, len_s, ldW_c, ldA_c, stB_c, toArr_one, size_one, toList_toArr, size_toArr, List.length_cons, List.length_nil, List.getElem?_cons_zero, List.getElem?_cons_succ, Nat.zero_add, Nat.add_zero, hb1.at_]
  refine WL.of (fun n e m' => ∃ k : Nat, k ≤ L.length ∧ n = L.length - k ∧ m' = m1 ∧ e = [(1, ov), (2, .pointer (some ⟨m.next, 0, none⟩)), (5, .int .i64 (bI (bst L (offF off) k))), (6, .int .i64 k)]) L.length
    ⟨0, by omega, by omega, rfl, by simp only [go_sem, Int.reduceBEq, Int.reduceBNe, Int.reduceNeg, reduceCtorEq, Nat.reduceEqDiff, Nat.reduceAdd, Nat.reduceLeDiff, Nat.reduceMul, Nat.reduceSub, Int.reduceToNat, Int.reduceLT, Int.reduceLE] <;> rfl⟩ ?_
  rintro _ _ m1' ⟨k, hk, rfl, hm1, rfl⟩
  replace hm1 := hm1.symm
  subst hm1
  have sp := bst_spec (off := offF off) pos k hk
  have hkl0 := keys_length (L := L)
  have hgl0 := gots_length (L := L)
  have hwl := hR1.w.len
  rw [hkl0] at hwl
  simp only [RB.ref15_Next_1, go_sem, Int.reduceBEq, Int.reduceBNe, Int.reduceNeg, reduceCtorEq, Nat.reduceEqDiff, Nat.reduceAdd, Nat.reduceLeDiff, Nat.reduceMul, Nat.reduceSub, Int.reduceToNat, Int.reduceLT, Int.reduceLE, l0, hwl]
  refine gT.of (fun g1' => ?_) (fun g1' => ?_) <;> (have g1 := g1'; try simp only [decide_eq_true_eq, decide_eq_false_iff_not, beq_iff_eq, bne_iff_ne, beq_eq_false_iff_ne, ne_eq, Bool.not_eq_true', Bool.not_eq_false', bne_eq_false_iff_eq, Int.not_lt, Int.not_le] at g1)
  · have hkl : k < L.length := by omega
    have s1 := step1 (show k < 1000000 by omega)
    have elw : ∀ i (hi : i < L.length), ∃ b o, aIdxS 2 (.slice p1 n1 c1) (.int .i64 (i : Nat)) = some (.pointer (some ⟨b, o, none⟩)) ∧ aLoad false 1 m1 (.pointer (some ⟨b, o + 0, none⟩)) = some (.int .i64 L[i].u) ∧ aLoad false 1 m1 (.pointer (some ⟨b, o + 1, none⟩)) = some (.int .i64 L[i].s) := fun i hi => by
      obtain ⟨b, o, a1, -, a3, -⟩ := hR1.w.elem spV_len (k := .i64) (i := i) (by rw [hkl0]; exact hi)
      have e : (keys L)[i]'(by rw [hkl0]; exact hi) = (L[i].u, L[i].s) := by simp [keys]
      rw [e] at a3
      exact ⟨b, o, a1, a3 0 (by omega), a3 1 (by omega)⟩
    have elg : ∀ i (hi : i < L.length), ∃ p, aIdxS 1 (.slice p2 n2 c2) (.int .i64 (i : Nat)) = some p ∧ aLoad false 1 m1 p = some (.int .i64 (L[i].g : Nat)) := fun i hi => by
      obtain ⟨p, a1, a2⟩ := hR1.g.get (k := .i64) (i := i) (by rw [hgl0]; exact hi)
      rw [intsZ_get (by rw [hgl0]; exact hi)] at a2
      have e : (gots L)[i]'(by rw [hgl0]; exact hi) = (L[i].g : Int) := by simp [gots]
      rw [e] at a2
      exact ⟨p, a1, a2⟩
    have hbs : bst L (offF off) (k + 1) = if offF off L[k].u then bst L (offF off) k else bs1 L L[k] k (bst L (offF off) k) := by
      conv => lhs; unfold bst
      rw [getElem!_pos L k hkl]
    obtain ⟨b1, o1, a1, a2, a3⟩ := elw k hkl
    obtain ⟨q1, d1, d2⟩ := elg k hkl
    have hSk := hS _ (List.getElem_mem hkl)
    simp only [go_sem, Int.reduceBEq, Int.reduceBNe, Int.reduceNeg, reduceCtorEq, Nat.reduceEqDiff, Nat.reduceAdd, Nat.reduceLeDiff, Nat.reduceMul, Nat.reduceSub, Int.reduceToNat, Int.reduceLT, Int.reduceLE, g1', l0, a1, a2]
    refine gC.of (ref15Has ho1 hol) ?_
    rintro _ m1' ⟨rfl, hm⟩
    replace hm := hm.symm
    subst hm
    by_cases g2 : L[k].u ∈ off
    · have e2 : decide (L[k].u ∈ off) = true := decide_eq_true g2
      rw [if_pos (by show decide (L[k].u ∈ off) = true; exact e2)] at hbs
      simp only [go_sem, Int.reduceBEq, Int.reduceBNe, Int.reduceNeg, reduceCtorEq, Nat.reduceEqDiff, Nat.reduceAdd, Nat.reduceLeDiff, Nat.reduceMul, Nat.reduceSub, Int.reduceToNat, Int.reduceLT, Int.reduceLE, e2, s1]
      exact ⟨L.length - (k + 1), by omega, k + 1, by omega, rfl, by rw [hbs]⟩
    · have e2 : decide (L[k].u ∈ off) = false := decide_eq_false g2
      rw [if_neg (by show ¬ decide (L[k].u ∈ off) = true; rw [e2]; simp)] at hbs
      cases hb0 : bst L (offF off) k with
      | none =>
        rw [hb0] at hbs
        have e3 : decide (bI none < 0) = true := rfl
        simp only [go_sem, Int.reduceBEq, Int.reduceBNe, Int.reduceNeg, reduceCtorEq, Nat.reduceEqDiff, Nat.reduceAdd, Nat.reduceLeDiff, Nat.reduceMul, Nat.reduceSub, Int.reduceToNat, Int.reduceLT, Int.reduceLE, e2, e3, s1]
        exact ⟨L.length - (k + 1), by omega, k + 1, by omega, rfl, by rw [hbs]; rfl⟩
      | some i =>
        rw [hb0] at hbs sp
        obtain ⟨i1, -, -⟩ := sp
        have hiL : i < L.length := by omega
        simp only [bs1] at hbs
        rw [getElem!_pos L i hiL] at hbs
        have hSi := hS _ (List.getElem_mem hiL)
        obtain ⟨b2, o2, a1', a2', a3'⟩ := elw i hiL
        obtain ⟨q2, d1', d2'⟩ := elg i hiL
        obtain ⟨sk1, sk2, sk3⟩ := hSk
        obtain ⟨si1, si2, si3⟩ := hSi
        have w1 := step1 (show L[k].g < 1000000 by omega)
        have w2 := step1 (show L[i].g < 1000000 by omega)
        have x1 : 0 ≤ ((L[k].g + 1 : Nat) : Int) * L[i].s ∧ ((L[k].g + 1 : Nat) : Int) * L[i].s ≤ 1000000 * 1000000 := ⟨Int.mul_nonneg (by omega) (by omega), Int.mul_le_mul (by omega) (by omega) (by omega) (by omega)⟩
        have x2 : 0 ≤ ((L[i].g + 1 : Nat) : Int) * L[k].s ∧ ((L[i].g + 1 : Nat) : Int) * L[k].s ≤ 1000000 * 1000000 := ⟨Int.mul_nonneg (by omega) (by omega), Int.mul_le_mul (by omega) (by omega) (by omega) (by omega)⟩
        have w3 : IntKind.wrap .i64 (((L[k].g + 1 : Nat) : Int) * L[i].s) = ((L[k].g + 1 : Nat) : Int) * L[i].s := wrap_i64 (by omega) (by omega)
        have w4 : IntKind.wrap .i64 (((L[i].g + 1 : Nat) : Int) * L[k].s) = ((L[i].g + 1 : Nat) : Int) * L[k].s := wrap_i64 (by omega) (by omega)
        have e3' : decide ((i : Int) < 0) = false := by simp
        simp only [bI] at *
        simp only [go_sem, Int.reduceBEq, Int.reduceBNe, Int.reduceNeg, reduceCtorEq, Nat.reduceEqDiff, Nat.reduceAdd, Nat.reduceLeDiff, Nat.reduceMul, Nat.reduceSub, Int.reduceToNat, Int.reduceLT, Int.reduceLE, e2, e3', l0, l1, d1, d2, w1, a1', a3', w3, d1', d2', w2, a1, a3, w4]
        by_cases g4 : ahd L[k] L[i]
        · have e4 : decide (((L[k].g + 1 : Nat) : Int) * L[i].s < ((L[i].g + 1 : Nat) : Int) * L[k].s) = true := decide_eq_true (by unfold ahd at g4; push_cast; exact g4)
          rw [if_pos g4] at hbs
          simp only [go_sem, Int.reduceBEq, Int.reduceBNe, Int.reduceNeg, reduceCtorEq, Nat.reduceEqDiff, Nat.reduceAdd, Nat.reduceLeDiff, Nat.reduceMul, Nat.reduceSub, Int.reduceToNat, Int.reduceLT, Int.reduceLE, e4, s1]
          exact ⟨L.length - (k + 1), by omega, k + 1, by omega, rfl, by rw [hbs]⟩
        · have e4 : decide (((L[k].g + 1 : Nat) : Int) * L[i].s < ((L[i].g + 1 : Nat) : Int) * L[k].s) = false := decide_eq_false (by unfold ahd at g4; push_cast; exact g4)
          rw [if_neg g4] at hbs
          simp only [go_sem, Int.reduceBEq, Int.reduceBNe, Int.reduceNeg, reduceCtorEq, Nat.reduceEqDiff, Nat.reduceAdd, Nat.reduceLeDiff, Nat.reduceMul, Nat.reduceSub, Int.reduceToNat, Int.reduceLT, Int.reduceLE, e4, s1]
          exact ⟨L.length - (k + 1), by omega, k + 1, by omega, rfl, by rw [hbs]⟩
  · have : k = L.length := by omega
    subst this
    simp only [go_sem, Int.reduceBEq, Int.reduceBNe, Int.reduceNeg, reduceCtorEq, Nat.reduceEqDiff, Nat.reduceAdd, Nat.reduceLeDiff, Nat.reduceMul, Nat.reduceSub, Int.reduceToNat, Int.reduceLT, Int.reduceLE, g1']
    exact hx1
end Go.Am


/- The reference's local: a pick, a frame, a unit leaves. -/
set_option linter.unusedVariables false
set_option linter.unusedSimpArgs false
namespace Go.Am
variable {m : Mem}

theorem keys_zero {L : List En} : keys (L.map fun e => { e with g := 0 }) = keys L := by unfold keys; rw [List.map_map]; rfl

theorem ref15Begin {L : List En} {wv gv : Value} (hR : RefL m L wv gv) (hl : L.length < 1000000) :
    WC R F.ref15_Begin [.agg #[wv, gv]] m fun r m' => (∃ gv', r = .agg #[wv, gv'] ∧ RefL m' (L.map fun e => { e with g := 0 }) wv gv' ∧ ∀ c ∈ vb gv', m.next ≤ c) ∧ Ext m m' := by
  refine WC.of R.ref15_Begin rfl ?_
  obtain ⟨p1, n1, c1, rfl⟩ : ∃ p n c, wv = .slice p n c := by cases hR.w <;> exact ⟨_, _, _, rfl⟩
  obtain ⟨p2, n2, c2, rfl⟩ : ∃ p n c, gv = .slice p n c := by cases hR.g <;> exact ⟨_, _, _, rfl⟩
  simp only [RC.ref15_Begin, go_sem, Int.reduceBEq, Int.reduceBNe, Int.reduceNeg, reduceCtorEq, Nat.reduceEqDiff, Nat.reduceAdd, Nat.reduceLeDiff, Nat.reduceMul, Nat.reduceSub, Int.reduceToNat, Int.reduceLT, Int.reduceLE]
  have hx1 : Ext m (m.new (.cells [.slice p1 n1 c1, .slice p2 n2 c2] (some 2))) := Ext.new
  have hb1 : Bk (m.new (.cells [.slice p1 n1 c1, .slice p2 n2 c2] (some 2))) m.next [.slice p1 n1 c1, .slice p2 n2 c2] 2 := Bk.new
  generalize m.new (.cells [.slice p1 n1 c1, .slice p2 n2 c2] (some 2)) = m1 at hx1 hb1 ⊢
  have hx2 : Ext m1 (m1.new (.cells [.slice none 0 0, .slice none 0 0] (some 2))) := Ext.new
  have hb2 : Bk (m1.new (.cells [.slice none 0 0, .slice none 0 0] (some 2))) m1.next [.slice none 0 0, .slice none 0 0] 2 := Bk.new
  have hb12 := hb1.keep hx2
  have hne : m.next ≠ m1.next := by have := hb1.lt; omega
  generalize m1.new (.cells [.slice none 0 0, .slice none 0 0] (some 2)) = m2 at hx2 hb2 hb12 ⊢
  have hR2 := hR.keep (hx1.trans hx2)
  have l0 : aLoad false 1 m2 (.pointer (some ⟨m.next, 0, none⟩)) = some (.slice p1 n1 c1) := by simp only [go_sem, Int.reduceBEq, Int.reduceBNe, Int.reduceNeg, reduceCtorEq, Nat.reduceEqDiff, Nat.reduceAdd, Nat.reduceLeDiff, Nat.reduceMul, Nat.reduceSub, Int.reduceToNat, Int.reduceLT, Int.reduceLE, load_w, load_a, store_b, idxS_b, set_blk, new_blk, set_next, new_next, len_s, ldW_c, ldA_c, stB_c, toArr_one, size_one, toList_toArr, size_toArr, List.length_cons, List.length_nil, List.getElem?_cons_zero, List.getElem?_cons_succ, Nat.zero_add, Nat.add_zero, hb12.at_]
  have hwl := hR2.w.len
  rw [keys_length] at hwl
  have mk := make_eq (m := m2) (u := 1) (by_ := 8) (n := L.length) (z := [.int .i64 0]) (k := .i64) (k' := .i64) (by omega) (by omega) rfl rfl
  simp only [go_sem, Int.reduceBEq, Int.reduceBNe, Int.reduceNeg, reduceCtorEq, Nat.reduceEqDiff, Nat.reduceAdd, Nat.reduceLeDiff, Nat.reduceMul, Nat.reduceSub, Int.reduceToNat, Int.reduceLT, Int.reduceLE, l0, hwl, mk]
  have hx3 : Ext m2 (m2.new (.cells (zeros [.int .i64 0] L.length) (some 1))) := Ext.new
  have hb3 : Bk (m2.new (.cells (zeros [.int .i64 0] L.length) (some 1))) m2.next (zeros [.int .i64 0] L.length) 1 := Bk.new
  have hb13 := hb12.keep hx3
  have hb23 := hb2.keep hx3
  have hn1 : m.next ≠ m2.next := by have := hb12.lt; omega
  have hn2 : m1.next ≠ m2.next := by have := hb2.lt; omega
  have hR3 := hR2.keep hx3
  generalize m2.new (.cells (zeros [.int .i64 0] L.length) (some 1)) = m3 at hx3 hb3 hb13 hb23 hR3 ⊢
  generalize hgv : Value.slice (some ⟨m2.next, 0, none⟩) L.length L.length = gv'
  have hg1 : gv'.cells = #[gv'] := by rw [← hgv]; rfl
  have hg2 : oneCells [gv'] = true := by rw [← hgv]; rfl
  have st1 : aStore 1 m3 (.pointer (some ⟨m.next, 1, none⟩)) gv' = some (m3.set m.next (some (.cells [.slice p1 n1 c1, gv'] (some 2)))) := by
    simp only [aStore, hg1]
    simp only [aWrite, hb13.at_]
    simp [hg2, writeL]
  simp only [go_sem, Int.reduceBEq, Int.reduceBNe, Int.reduceNeg, reduceCtorEq, Nat.reduceEqDiff, Nat.reduceAdd, Nat.reduceLeDiff, Nat.reduceMul, Nat.reduceSub, Int.reduceToNat, Int.reduceLT, Int.reduceLE, st1]
  have hb14 : Bk (m3.set m.next (some (.cells [.slice p1 n1 c1, gv'] (some 2)))) m.next [.slice p1 n1 c1, gv'] 2 := ⟨by simp [Mem.set], hb13.lt⟩
  have hu4 : Upd m3 (m3.set m.next (some (.cells [.slice p1 n1 c1, gv'] (some 2)))) [m.next] := Upd.set (by simp)
  have hb24 := hb23.upd hu4 (by simpa using hne.symm)
  have hb34 := hb3.upd hu4 (by simpa using hn1.symm)
  generalize m3.set m.next (some (.cells [.slice p1 n1 c1, gv'] (some 2))) = m4 at hu4 hb14 hb24 hb34 ⊢
  have ld4 : aLoad true 2 m4 (.pointer (some ⟨m.next, 0, none⟩)) = some (.agg #[.slice p1 n1 c1, gv']) := by
    simp only [go_sem, Int.reduceBEq, Int.reduceBNe, Int.reduceNeg, reduceCtorEq, Nat.reduceEqDiff, Nat.reduceAdd, Nat.reduceLeDiff, Nat.reduceMul, Nat.reduceSub, Int.reduceToNat, Int.reduceLT, Int.reduceLE, load_w, load_a, store_b, idxS_b, set_blk, new_blk, set_next, new_next, len_s, ldW_c, ldA_c, stB_c, toArr_one, size_one, toList_toArr, size_toArr, List.length_cons, List.length_nil, List.getElem?_cons_zero, List.getElem?_cons_succ, Nat.zero_add, Nat.add_zero, hb14.at_]
    try rfl
  have st2 : aStore 2 m4 (.pointer (some ⟨m1.next, 0, none⟩)) (.agg #[.slice p1 n1 c1, gv']) = some (m4.set m1.next (some (.cells [.slice p1 n1 c1, gv'] (some 2)))) := by
    have e : (#[Value.slice p1 n1 c1, gv'] : Array Value) = [Value.slice p1 n1 c1, gv'].toArray := rfl
    have h1 : oneCells [Value.slice p1 n1 c1, gv'] = true := by rw [← hgv]; rfl
    rw [e]
    simp only [aStore, Value.cells, toList_toArr, size_toArr]
    simp only [aWrite, hb24.at_]
    simp [h1, writeL]
  simp only [go_sem, Int.reduceBEq, Int.reduceBNe, Int.reduceNeg, reduceCtorEq, Nat.reduceEqDiff, Nat.reduceAdd, Nat.reduceLeDiff, Nat.reduceMul, Nat.reduceSub, Int.reduceToNat, Int.reduceLT, Int.reduceLE, ld4, st2]
  have hu5 : Upd m4 (m4.set m1.next (some (.cells [.slice p1 n1 c1, gv'] (some 2)))) [m1.next] := Upd.set (by simp)
  have hb25 : Bk (m4.set m1.next (some (.cells [.slice p1 n1 c1, gv'] (some 2)))) m1.next [.slice p1 n1 c1, gv'] 2 := ⟨by simp [Mem.set], hb24.lt⟩
  have hb35 := hb34.upd hu5 (by simpa using hn2.symm)
  generalize m4.set m1.next (some (.cells [.slice p1 n1 c1, gv'] (some 2))) = m5 at hu5 hb25 hb35 ⊢
  have ld5 : aLoad true 2 m5 (.pointer (some ⟨m1.next, 0, none⟩)) = some (.agg #[.slice p1 n1 c1, gv']) := by
    simp only [go_sem, Int.reduceBEq, Int.reduceBNe, Int.reduceNeg, reduceCtorEq, Nat.reduceEqDiff, Nat.reduceAdd, Nat.reduceLeDiff, Nat.reduceMul, Nat.reduceSub, Int.reduceToNat, Int.reduceLT, Int.reduceLE, load_w, load_a, store_b, idxS_b, set_blk, new_blk, set_next, new_next, len_s, ldW_c, ldA_c, stB_c, toArr_one, size_one, toList_toArr, size_toArr, List.length_cons, List.length_nil, List.getElem?_cons_zero, List.getElem?_cons_succ, Nat.zero_add, Nat.add_zero, hb25.at_]
    try rfl
  have hx05 : Ext m m5 := hu5.ext_of (hu4.ext_of ((hx1.trans hx2).trans hx3) (by simp)) (by have := hx1.next; simpa using this)
  have hR5 := hR.keep hx05
  rw [ld5]
  simp only [go_sem, Int.reduceBEq, Int.reduceBNe, Int.reduceNeg, reduceCtorEq, Nat.reduceEqDiff, Nat.reduceAdd, Nat.reduceLeDiff, Nat.reduceMul, Nat.reduceSub, Int.reduceToNat, Int.reduceLT, Int.reduceLE]
  refine ⟨⟨gv', rfl, ?_, fun c hc => by rw [← hgv] at hc; simp [vb] at hc; subst hc; exact (hx1.trans hx2).next⟩, hx05⟩
  have hz : zeros [.int .i64 0] L.length = intsZ (gots (L.map fun e => { e with g := 0 })) := by
    rw [zeros_int]
    unfold gots
    congr 1
    rw [List.map_map]
    exact (List.map_const' ..).symm
  refine ⟨by rw [keys_zero]; exact hR5.w, hR5.wl, hR5.wc, ?_, ?_, ?_⟩
  · rw [gots_length, List.length_map, ← hgv]
    refine .at (Nat.le_refl _) ?_
    unfold aCells
    rw [hb35.at_, ← hz]
    have : (zeros [.int .i64 0] L.length).length = L.length := by rw [zeros_int]; simp [intsZ]
    simp only [Nat.mul_one, Nat.zero_add, List.drop_zero]
    rw [if_pos (by omega), List.take_of_length_le (by omega)]
  · rw [← hgv]; exact hb35.lt
  · intro b o n c e
    rw [← hgv] at e
    cases e
    exact unitOk_own hb35.at_
end Go.Am


/- The reference's local: a pick. -/
set_option linter.unusedVariables false
set_option linter.unusedSimpArgs false
namespace Go.Am
variable {m : Mem}

theorem ldA2 {b : Nat} {x y : Value} (h : Bk m b [x, y] 2) : aLoad true 2 m (.pointer (some ⟨b, 0, none⟩)) = some (.agg #[x, y]) := by
  simp only [go_sem, Int.reduceBEq, Int.reduceBNe, Int.reduceNeg, reduceCtorEq, Nat.reduceEqDiff, Nat.reduceAdd, Nat.reduceLeDiff, Nat.reduceMul, Nat.reduceSub, Int.reduceToNat, Int.reduceLT, Int.reduceLE, load_w, load_a, store_b, idxS_b, set_blk, new_blk, set_next, new_next, len_s, ldW_c, ldA_c, stB_c, toArr_one, size_one, toList_toArr, size_toArr, List.length_cons, List.length_nil, List.getElem?_cons_zero, List.getElem?_cons_succ, Nat.zero_add, Nat.add_zero, h.at_]
theorem ldA2_0 {b : Nat} {x y : Value} (h : Bk m b [x, y] 2) : aLoad false 1 m (.pointer (some ⟨b, 0, none⟩)) = some x := by
  simp only [go_sem, Int.reduceBEq, Int.reduceBNe, Int.reduceNeg, reduceCtorEq, Nat.reduceEqDiff, Nat.reduceAdd, Nat.reduceLeDiff, Nat.reduceMul, Nat.reduceSub, Int.reduceToNat, Int.reduceLT, Int.reduceLE, load_w, load_a, store_b, idxS_b, set_blk, new_blk, set_next, new_next, len_s, ldW_c, ldA_c, stB_c, toArr_one, size_one, toList_toArr, size_toArr, List.length_cons, List.length_nil, List.getElem?_cons_zero, List.getElem?_cons_succ, Nat.zero_add, Nat.add_zero, h.at_]
theorem ldA2_1 {b : Nat} {x y : Value} (h : Bk m b [x, y] 2) : aLoad false 1 m (.pointer (some ⟨b, 1, none⟩)) = some y := by
  simp only [go_sem, Int.reduceBEq, Int.reduceBNe, Int.reduceNeg, reduceCtorEq, Nat.reduceEqDiff, Nat.reduceAdd, Nat.reduceLeDiff, Nat.reduceMul, Nat.reduceSub, Int.reduceToNat, Int.reduceLT, Int.reduceLE, load_w, load_a, store_b, idxS_b, set_blk, new_blk, set_next, new_next, len_s, ldW_c, ldA_c, stB_c, toArr_one, size_one, toList_toArr, size_toArr, List.length_cons, List.length_nil, List.getElem?_cons_zero, List.getElem?_cons_succ, Nat.zero_add, Nat.add_zero, h.at_]
theorem stA2 {b : Nat} {x y x' y' : Value} (h : Bk m b [x, y] 2) (h1 : oneCells [x', y'] = true) : ∃ m', aStore 2 m (.pointer (some ⟨b, 0, none⟩)) (.agg #[x', y']) = some m' ∧ Bk m' b [x', y'] 2 ∧ Upd m m' [b] := by
  refine ⟨m.set b (some (.cells [x', y'] (some 2))), ?_, ⟨by simp [Mem.set], h.lt⟩, Upd.set (by simp)⟩
  have e : (#[x', y'] : Array Value) = [x', y'].toArray := rfl
  rw [e]
  simp only [aStore, Value.cells, toList_toArr, size_toArr]
  simp only [aWrite, h.at_]
  simp [h1, writeL]
theorem stA2_1 {b : Nat} {x y y' : Value} (h : Bk m b [x, y] 2) (hc : y'.cells = #[y']) (h1 : y'.oneCell' = true) : ∃ m', aStore 1 m (.pointer (some ⟨b, 1, none⟩)) y' = some m' ∧ Bk m' b [x, y'] 2 ∧ Upd m m' [b] := by
  refine ⟨m.set b (some (.cells [x, y'] (some 2))), ?_, ⟨by simp [Mem.set], h.lt⟩, Upd.set (by simp)⟩
  have : oneCells [y'] = true := by unfold oneCells; simp [h1]
  simp only [aStore, hc]
  simp only [aWrite, h.at_]
  simp [this, writeL]

theorem Own.putU {m0 m : Mem} {u n : Nat} {cs : List Value} {v w : Value} (h : Own m0 m u n cs v) (hx : Ext m0 m) {k : IntKind} {i o : Nat} (hi : i < n) (ho : o < u) (hw : w.cells = #[w]) (hone : w.oneCell' = true) :
    ∃ b m', aIdxS u v (.int k i) = some (.pointer (some ⟨b, i * u, none⟩)) ∧ aStore 1 m (.pointer (some ⟨b, i * u + o, none⟩)) w = some m' ∧ Own m0 m' u n (cs.set (i * u + o) w) v ∧ Ext m0 m' ∧ Upd m m' (vb v) := by
  obtain ⟨b, m', e1, e2, e3, e4⟩ := h.put (k := k) hx hi ho hw hone
  refine ⟨b, m', e1, e2, e3, e4, ?_⟩
  have hbv : b ∈ vb v := by
    cases h with
    | nil h hc => omega
    | @«at» b2 c all hb hb2 hn hm hl hcs h1 =>
      simp only [aIdxS] at e1
      split at e1
      · have e1 := Option.some.inj e1
        simp only [Value.pointer.injEq, Option.some.injEq, Addr.mk.injEq] at e1
        rw [← e1.1]; simp [vb]
      · cases e1
  have hw' : aWrite m b (i * u + o) w.cells.toList = some m' := by
    simp only [aStore] at e2
    split at e2
    · exact e2
    · cases e2
  exact (aWrite_upd hw').1.trans (Upd.refl _ _) (fun x hx => by simp at hx; subst hx; exact hbv) (fun x hx => .inl hx)
theorem intsZ_one' {l : List Int} : oneCells (intsZ l) = true := by
  unfold oneCells intsZ
  simp only [List.all_map, List.all_eq_true, Function.comp_apply]
  intro x _; rfl
theorem gots_set {L : List En} {i : Nat} (hi : i < L.length) : gots (L.set i L[i].up) = (gots L).set i ((L[i].g : Int) + 1) := by
  unfold gots
  rw [List.map_set]
  congr 1

theorem ref15Pick {L : List En} {wv gv ov : Value} {off : List Int} (hR : RefL m L wv gv) (hS : ∀ e ∈ L, Sm e) (hl : L.length < 100000) (ho : Sl m 1 off.length (intsZ off) ov) (hob : SlLt m ov) (hol : off.length < 1000000) :
    WC R F.ref15_Pick [.agg #[wv, gv], ov] m fun r m' => (∃ gv', RefL m' (pick L (offF off)) wv gv' ∧ (∀ c ∈ vb gv', m.next ≤ c ∨ c ∈ vb gv) ∧ ((bst L (offF off) L.length = none ∧ r = .tuple #[.agg #[wv, gv'], .int .i64 0]) ∨ ∃ i, bst L (offF off) L.length = some i ∧ r = .tuple #[.agg #[wv, gv'], .int .i64 L[i]!.u])) ∧ Ext m m' := by
  refine WC.of R.ref15_Pick rfl ?_
  obtain ⟨p1, n1, c1, rfl⟩ : ∃ p n c, wv = .slice p n c := by cases hR.w <;> exact ⟨_, _, _, rfl⟩
  obtain ⟨p2, n2, c2, rfl⟩ : ∃ p n c, gv = .slice p n c := by cases hR.g <;> exact ⟨_, _, _, rfl⟩
  simp only [RC.ref15_Pick, go_sem, Int.reduceBEq, Int.reduceBNe, Int.reduceNeg, reduceCtorEq, Nat.reduceEqDiff, Nat.reduceAdd, Nat.reduceLeDiff, Nat.reduceMul, Nat.reduceSub, Int.reduceToNat, Int.reduceLT, Int.reduceLE]
  have hx1 : Ext m (m.new (.cells [.slice p1 n1 c1, .slice p2 n2 c2] (some 2))) := Ext.new
  have hb1 : Bk (m.new (.cells [.slice p1 n1 c1, .slice p2 n2 c2] (some 2))) m.next [.slice p1 n1 c1, .slice p2 n2 c2] 2 := Bk.new
  generalize m.new (.cells [.slice p1 n1 c1, .slice p2 n2 c2] (some 2)) = m1 at hx1 hb1 ⊢
  have hx2 : Ext m1 (m1.new (.cells [.slice none 0 0, .slice none 0 0] (some 2))) := Ext.new
  have hb2 : Bk (m1.new (.cells [.slice none 0 0, .slice none 0 0] (some 2))) m1.next [.slice none 0 0, .slice none 0 0] 2 := Bk.new
  have hb12 := hb1.keep hx2
  have hne : m.next ≠ m1.next := by have := hb1.lt; omega
  generalize m1.new (.cells [.slice none 0 0, .slice none 0 0] (some 2)) = m2 at hx2 hb2 hb12 ⊢
  have hx02 := hx1.trans hx2
  have hR2 := hR.keep hx02
  simp only [go_sem, Int.reduceBEq, Int.reduceBNe, Int.reduceNeg, reduceCtorEq, Nat.reduceEqDiff, Nat.reduceAdd, Nat.reduceLeDiff, Nat.reduceMul, Nat.reduceSub, Int.reduceToNat, Int.reduceLT, Int.reduceLE, ldA2 hb12]
  refine gC.of (ref15Next hR2 hS (by omega) (ho.keep hob hx02) (hob.keep hx02) hol) ?_
  rintro _ m3 ⟨rfl, hx3⟩
  have hb13 := hb12.keep hx3
  have hb23 := hb2.keep hx3
  have hx03 := hx02.trans hx3
  have hR3 := hR2.keep hx3
  have pos : ∀ e ∈ L, 0 < e.s := fun e he => (hS e he).1
  have sp := bst_spec (off := offF off) pos L.length (Nat.le_refl _)
  cases hb0 : bst L (offF off) L.length with
  | none =>
    have e3 : decide (bI none < 0) = true := rfl
    obtain ⟨m4, st, hb24, hu4⟩ := stA2 (x' := .slice p1 n1 c1) (y' := .slice p2 n2 c2) hb23 rfl
    have hx04 : Ext m m4 := hu4.ext_of hx03 (by have := hx1.next; simpa using this)
    simp only [go_sem, Int.reduceBEq, Int.reduceBNe, Int.reduceNeg, reduceCtorEq, Nat.reduceEqDiff, Nat.reduceAdd, Nat.reduceLeDiff, Nat.reduceMul, Nat.reduceSub, Int.reduceToNat, Int.reduceLT, Int.reduceLE, e3, ldA2 hb13, st, ldA2 hb24]
    have : pick L (offF off) = L := by unfold pick; rw [hb0]
    rw [this]
    exact ⟨⟨_, hR.keep hx04, fun c hc => .inr hc, .inl rfl⟩, hx04⟩
  | some i =>
    rw [hb0] at sp
    obtain ⟨i1, -, -⟩ := sp
    rw [pick_some hb0 i1]
    have e3' : decide (bI (some i) < 0) = false := by show decide ((i : Int) < 0) = false; simp
    simp only [bI] at e3' ⊢
    have e3 : decide ((i : Int) < 0) = false := by simp
    simp only [go_sem, Int.reduceBEq, Int.reduceBNe, Int.reduceNeg, reduceCtorEq, Nat.reduceEqDiff, Nat.reduceAdd, Nat.reduceLeDiff, Nat.reduceMul, Nat.reduceSub, Int.reduceToNat, Int.reduceLT, Int.reduceLE, e3]
    have hxn : Ext m3 (m3.new (.cells [] (some 1))) := Ext.new
    have hR3n := hR3.keep hxn
    obtain ⟨v4, m4, e4, hO4, hx4⟩ := app_copy (by_ := 8) hR3n.g intsZ_one' (by rw [gots_length]; omega) (by rw [gots_length]; omega)
    have hb14 := hb13.keep hx4
    have hb24 := hb23.keep hx4
    have hx04 := hx03.trans hx4
    obtain ⟨m5, st5, hb15, hu5⟩ := stA2_1 hb14 hO4.sl.cells hO4.sl.one
    have hO5 : Own m3 m5 1 (gots L).length (intsZ (gots L)) v4 := by
      have hge := hO4.ge
      have hlt3 := hb13.lt
      cases hO4 with
      | nil h hc => exact .nil h hc
      | @«at» c2 c all hb hb2 hn hm hl hcs h1 =>
        refine .at hb (Nat.lt_of_lt_of_le hb2 hu5.next) hn ?_ hl hcs h1
        rw [hu5.same c2 hb2 (by simp; omega)]; exact hm
    have hx05 : Ext m m5 := hu5.ext_of hx04 (by simp)
    have hge4 := hO4.ge
    obtain ⟨c, m6, q1, q2, q3, q4, q5⟩ := (hO5.weak hx03).putU (k := .i64) (i := i) (o := 0) (w := .int .i64 ((L[i].g + 1 : Nat) : Int)) hx05 (by rw [gots_length]; exact i1) (by omega) rfl rfl
    have hb16 := hb15.upd q5 (fun h => by have := hge4 _ h; have := hb13.lt; omega)
    have hb25 := hb24.upd hu5 (by simpa using hne.symm)
    have hb26 := hb25.upd q5 (fun h => by have := hge4 _ h; have := hb23.lt; omega)
    obtain ⟨p', g1, g2⟩ := hO5.sl.get (k := .i64) (i := i) (by rw [gots_length]; exact i1)
    rw [Nat.mul_one] at q1
    rw [q1] at g1
    cases g1
    rw [intsZ_get (by rw [gots_length]; exact i1), show (gots L)[i]'(by rw [gots_length]; exact i1) = (L[i].g : Int) by simp [gots]] at g2
    have w1 := step1 (show L[i].g < 1000000 by have := (hS _ (List.getElem_mem i1)).2.2; omega)
    simp only [Nat.mul_one, Nat.add_zero] at q2
    simp only [go_sem, Int.reduceBEq, Int.reduceBNe, Int.reduceNeg, reduceCtorEq, Nat.reduceEqDiff, Nat.reduceAdd, Nat.reduceLeDiff, Nat.reduceMul, Nat.reduceSub, Int.reduceToNat, Int.reduceLT, Int.reduceLE, ldA2_1 (hb13.keep hxn), e4]
    simp only [go_sem, Int.reduceBEq, Int.reduceBNe, Int.reduceNeg, reduceCtorEq, Nat.reduceEqDiff, Nat.reduceAdd, Nat.reduceLeDiff, Nat.reduceMul, Nat.reduceSub, Int.reduceToNat, Int.reduceLT, Int.reduceLE, st5, ldA2_1 hb15, q1, g2, w1, q2]
    have hx06 : Ext m m6 := q4
    have hR6 := hR.keep hx06
    obtain ⟨bw, ow, r1, -, r3, r4⟩ := hR6.w.elem spV_len (k := .i64) (i := i) (by rw [keys_length]; exact i1)
    have hku : (keys L)[i]'(by rw [keys_length]; exact i1) = (L[i].u, L[i].s) := by simp [keys]
    rw [hku] at r3
    have ru : aLoad false 1 m6 (.pointer (some ⟨bw, ow + 0, none⟩)) = some (.int .i64 L[i].u) := r3 0 (by omega)
    have h2 : oneCells [Value.slice p1 n1 c1, v4] = true := by
      have := hO4.sl.one
      unfold oneCells
      simp [this]
      rfl
    obtain ⟨m7, st7, hb27, hu7⟩ := stA2 (x' := .slice p1 n1 c1) (y' := v4) hb26 h2
    have hx07 : Ext m m7 := hu7.ext_of hx06 (by have := hx1.next; simpa using this)
    have hbwlt : bw < m.next := by
      obtain ⟨bw', ow', r1', -, -, r4'⟩ := hR.w.elem spV_len (k := .i64) (i := i) (by rw [keys_length]; exact i1)
      rw [r1] at r1'
      have := Option.some.inj r1'
      simp only [Value.pointer.injEq, Option.some.injEq, Addr.mk.injEq] at this
      rw [this.1]
      exact r4' hR.wl
    have k1 := hu7.same m.next hb16.lt (by simpa using hne)
    have k2 := hu7.same bw (by have := hx06.next; omega) (by have := hx1.next; simp; omega)
    simp only [go_sem, Int.reduceBEq, Int.reduceBNe, Int.reduceNeg, reduceCtorEq, Nat.reduceEqDiff, Nat.reduceAdd, Nat.reduceLeDiff, Nat.reduceMul, Nat.reduceSub, Int.reduceToNat, Int.reduceLT, Int.reduceLE, ldA2 hb16, ldA2_0 hb16, r1, ru, st7, watchOk_cons, watchOk_nil, blkOf_ptr, k1, k2, ldA2 hb27]
    have hk : keys (L.set i L[i].up) = keys L := keys_set i1 rfl rfl
    have hR7 := hR.keep hx07
    have hge7 : m1.next ∉ vb v4 := fun h => by have := hge4 _ h; have := hb23.lt; omega
    have hO7 := q3.updq hu7 (fun c hc => by simp; intro e; subst e; exact hge7 hc)
    have hgs : (intsZ (gots L)).set (i * 1 + 0) (.int .i64 ((L[i].g + 1 : Nat) : Int)) = intsZ (gots (L.set i L[i].up)) := by
      rw [gots_set i1, Nat.mul_one, Nat.add_zero]
      unfold intsZ
      rw [List.map_set]
      rfl
    rw [hgs, show (gots L).length = (gots (L.set i L[i].up)).length by rw [gots_length, gots_length, List.length_set]] at hO7
    exact ⟨⟨v4, ⟨by rw [hk]; exact hR7.w, hR7.wl, hR7.wc, hO7.sl, hO7.lt, hO7.cut⟩, fun c hc => .inl (Nat.le_trans hx03.next (hge4 c hc)), .inr ⟨i, rfl, by rw [getElem!_pos L i i1]⟩⟩, hx07⟩
end Go.Am


/- The reference's local: a unit leaves. -/
set_option linter.unusedVariables false
set_option linter.unusedSimpArgs false
namespace Go.Am
variable {m : Mem}

/-- Two rows of one's own, told of in one box. -/
structure YV (m0 m : Mem) (b : Nat) (ws : List Sp) (gs : List Int) (wv gv : Value) : Prop where
  box : Bk m b [wv, gv] 2
  ow : Own m0 m 2 ws.length (ws.flatMap spV) wv
  og : Own m0 m 1 gs.length (intsZ gs) gv
  ext : Ext m0 m
  ge : m0.next ≤ b
  offw : ∀ c ∈ vb wv, c ≠ b
  offg : ∀ c ∈ vb gv, c ≠ b
  apart : ∀ c ∈ vb wv, c ∉ vb gv

theorem stA2_0 {b : Nat} {x y x' : Value} (h : Bk m b [x, y] 2) (hc : x'.cells = #[x']) (h1 : x'.oneCell' = true) : ∃ m', aStore 1 m (.pointer (some ⟨b, 0, none⟩)) x' = some m' ∧ Bk m' b [x', y] 2 ∧ Upd m m' [b] := by
  refine ⟨m.set b (some (.cells [x', y] (some 2))), ?_, ⟨by simp [Mem.set], h.lt⟩, Upd.set (by simp)⟩
  have : oneCells [x'] = true := by unfold oneCells; simp [h1]
  simp only [aStore, hc]
  simp only [aWrite, h.at_]
  simp [this, writeL]

theorem YV.appW {m0 m : Mem} {b N s t : Nat} {ws : List Sp} {gs : List Int} {wv gv : Value} {w : Sp} (h : YV m0 m b ws gs wv gv) (hl : ws.length < 100000) (hs : s < N) (ht : t < N) :
    ∃ v' m' m'', aApp (some (m.next + t)) 2 16 ((m.bump N).set (m.next + s) (some (.cells (spV w) (some 2)))) wv (.slice (some ⟨m.next + s, 0, none⟩) 1 1) = some (v', m') ∧
      aStore 1 m' (.pointer (some ⟨b, 0, none⟩)) v' = some m'' ∧ YV m0 m'' b (ws ++ [w]) gs v' gv := by
  obtain ⟨v', m', e1, e2, e3⟩ := h.ow.appD (by_ := 16) (es := spV w) h.ext rfl rfl (by omega) (by omega) hs ht
  have hx : Ext m ((m.bump N).set (m.next + s) (some (.cells (spV w) (some 2)))) := Ext.set ⟨by simp, fun b hb => rfl⟩ (by omega)
  obtain ⟨a1, a2, a3⟩ := app_updA (M := m.next) e1 (fun k hk => by cases hk; omega) hx.next
  have hu : Upd m m' (vb wv) := ⟨Nat.le_trans hx.next a1, fun c hc hn => by rw [a2 c hc hn, hx.same c hc]⟩
  have hb2 := h.box.upd hu (fun hm => h.offw b hm rfl)
  have hg2 := h.og.updq hu (fun c hc hm => h.apart c hm hc)
  have hglt := SlLt.vb_iff.1 h.og.lt
  have hvo : ∀ c ∈ vb v', c ≠ b := fun c hc => by
    have := h.box.lt
    rcases a3 with e | ⟨k, e, hk⟩
    · rw [e] at hc; exact h.offw c hc
    · rw [e] at hc; simp at hc; omega
  have hap : ∀ c ∈ vb v', c ∉ vb gv := fun c hc hm => by
    have := hglt c hm
    rcases a3 with e | ⟨k, e, hk⟩
    · rw [e] at hc; exact h.apart c hc hm
    · rw [e] at hc; simp at hc; omega
  obtain ⟨m'', st, hb3, hu3⟩ := stA2_0 hb2 e2.sl.cells e2.sl.one
  refine ⟨v', m', m'', e1, st, hb3, ?_, hg2.updq hu3 (fun c hc => by simpa using h.offg c hc), hu3.ext_of e3 (by simpa using h.ge), h.ge, hvo, h.offg, hap⟩
  rw [List.length_append, List.flatMap_append]
  have := e2.updq hu3 (fun c hc => by simpa using hvo c hc)
  simpa using this

theorem YV.appG {m0 m : Mem} {b N s t : Nat} {ws : List Sp} {gs : List Int} {wv gv : Value} {x : Int} (h : YV m0 m b ws gs wv gv) (hl : gs.length < 100000) (hs : s < N) (ht : t < N) :
    ∃ v' m' m'', aApp (some (m.next + t)) 1 8 ((m.bump N).set (m.next + s) (some (.cells [.int .i64 x] (some 1)))) gv (.slice (some ⟨m.next + s, 0, none⟩) 1 1) = some (v', m') ∧
      aStore 1 m' (.pointer (some ⟨b, 1, none⟩)) v' = some m'' ∧ YV m0 m'' b ws (gs ++ [x]) wv v' := by
  obtain ⟨v', m', e1, e2, e3⟩ := h.og.appD (by_ := 8) (es := [.int .i64 x]) h.ext rfl rfl (by omega) (by omega) hs ht
  have hx : Ext m ((m.bump N).set (m.next + s) (some (.cells [.int .i64 x] (some 1)))) := Ext.set ⟨by simp, fun b hb => rfl⟩ (by omega)
  obtain ⟨a1, a2, a3⟩ := app_updA (M := m.next) e1 (fun k hk => by cases hk; omega) hx.next
  have hu : Upd m m' (vb gv) := ⟨Nat.le_trans hx.next a1, fun c hc hn => by rw [a2 c hc hn, hx.same c hc]⟩
  have hb2 := h.box.upd hu (fun hm => h.offg b hm rfl)
  have hw2 := h.ow.updq hu (fun c hc hm => h.apart c hc hm)
  have hwlt := SlLt.vb_iff.1 h.ow.lt
  have hvo : ∀ c ∈ vb v', c ≠ b := fun c hc => by
    have := h.box.lt
    rcases a3 with e | ⟨k, e, hk⟩
    · rw [e] at hc; exact h.offg c hc
    · rw [e] at hc; simp at hc; omega
  have hap : ∀ c ∈ vb wv, c ∉ vb v' := fun c hm hc => by
    have := hwlt c hm
    rcases a3 with e | ⟨k, e, hk⟩
    · rw [e] at hc; exact h.apart c hm hc
    · rw [e] at hc; simp at hc; omega
  obtain ⟨m'', st, hb3, hu3⟩ := stA2_1 hb2 e2.sl.cells e2.sl.one
  refine ⟨v', m', m'', e1, st, hb3, hw2.updq hu3 (fun c hc => by simpa using h.offw c hc), ?_, hu3.ext_of e3 (by simpa using h.ge), h.ge, h.offw, hvo, hap⟩
  have := e2.updq hu3 (fun c hc => by simpa using hvo c hc)
  unfold intsZ at *
  rw [List.length_append, List.map_append]
  simpa using this
end Go.Am


/- The reference's local: a unit leaves. -/
set_option linter.unusedVariables false
set_option linter.unusedSimpArgs false
namespace Go.Am
variable {m : Mem}

def keepX (x : Int) (L : List En) : List En := L.filter fun e => e.u != x
theorem keepX_snoc {x : Int} {L : List En} {e : En} : keepX x (L ++ [e]) = if e.u = x then keepX x L else keepX x L ++ [e] := by
  unfold keepX
  rw [List.filter_append]
  by_cases h : e.u = x
  · rw [if_pos h]; simp [h]
  · rw [if_neg h]; simp [h]

set_option maxHeartbeats 2000000 in
theorem ref15Drop {L : List En} {wv gv : Value} {x : Int} (hR : RefL m L wv gv) (hl : L.length < 10000) :
    WC R F.ref15_Drop [.agg #[wv, gv], .int .i64 x] m fun r m' => (∃ wv' gv', RefL m' (keepX x L) wv' gv' ∧ (∀ c ∈ vb wv', m.next ≤ c) ∧ (∀ c ∈ vb gv', m.next ≤ c) ∧ r = .tuple #[.agg #[wv', gv'], .bool (decide ((keepX x L).length < L.length))]) ∧ Ext m m' := by
  refine WC.of R.ref15_Drop rfl ?_
  obtain ⟨p1, n1, c1, rfl⟩ : ∃ p n c, wv = .slice p n c := by cases hR.w <;> exact ⟨_, _, _, rfl⟩
  obtain ⟨p2, n2, c2, rfl⟩ : ∃ p n c, gv = .slice p n c := by cases hR.g <;> exact ⟨_, _, _, rfl⟩
  simp only [RC.ref15_Drop, go_sem, Int.reduceBEq, Int.reduceBNe, Int.reduceNeg, reduceCtorEq, Nat.reduceEqDiff, Nat.reduceAdd, Nat.reduceLeDiff, Nat.reduceMul, Nat.reduceSub, Int.reduceToNat, Int.reduceLT, Int.reduceLE]
  have hx1 : Ext m (m.new (.cells [.slice p1 n1 c1, .slice p2 n2 c2] (some 2))) := Ext.new
  have hb1 : Bk (m.new (.cells [.slice p1 n1 c1, .slice p2 n2 c2] (some 2))) m.next [.slice p1 n1 c1, .slice p2 n2 c2] 2 := Bk.new
  generalize m.new (.cells [.slice p1 n1 c1, .slice p2 n2 c2] (some 2)) = m1 at hx1 hb1 ⊢
  have hx2 : Ext m1 (m1.new (.cells [.slice none 0 0, .slice none 0 0] (some 2))) := Ext.new
  have hb2 : Bk (m1.new (.cells [.slice none 0 0, .slice none 0 0] (some 2))) m1.next [.slice none 0 0, .slice none 0 0] 2 := Bk.new
  have hb12 := hb1.keep hx2
  generalize m1.new (.cells [.slice none 0 0, .slice none 0 0] (some 2)) = m2 at hx2 hb2 hb12 ⊢
  have hst0 : aStore 2 (m2.new (.cells [.slice none 0 0, .slice none 0 0] (some 2))) (.pointer (some ⟨m2.next, 0, none⟩)) (.agg #[.slice none 0 0, .slice none 0 0]) = some (m2.new (.cells [.slice none 0 0, .slice none 0 0] (some 2))) := by
    have e : (#[Value.slice none 0 0, Value.slice none 0 0] : Array Value) = [Value.slice none 0 0, Value.slice none 0 0].toArray := rfl
    rw [e]
    simp only [go_sem, Int.reduceBEq, Int.reduceBNe, Int.reduceNeg, reduceCtorEq, Nat.reduceEqDiff, Nat.reduceAdd, Nat.reduceLeDiff, Nat.reduceMul, Nat.reduceSub, Int.reduceToNat, Int.reduceLT, Int.reduceLE, load_w, load_a, store_b, idxS_b, set_blk, new_blk, set_next, new_next, len_s, ldW_c, ldA_c, stB_c, toArr_one, size_one, toList_toArr, size_toArr, List.length_cons, List.length_nil, List.getElem?_cons_zero, List.getElem?_cons_succ, Nat.zero_add, Nat.add_zero]
  simp only [go_sem, Int.reduceBEq, Int.reduceBNe, Int.reduceNeg, reduceCtorEq, Nat.reduceEqDiff, Nat.reduceAdd, Nat.reduceLeDiff, Nat.reduceMul, Nat.reduceSub, Int.reduceToNat, Int.reduceLT, Int.reduceLE, hst0]
  have hx3 : Ext m2 (m2.new (.cells [.slice none 0 0, .slice none 0 0] (some 2))) := Ext.new
  have hb3 : Bk (m2.new (.cells [.slice none 0 0, .slice none 0 0] (some 2))) m2.next [.slice none 0 0, .slice none 0 0] 2 := Bk.new
  generalize m2.new (.cells [.slice none 0 0, .slice none 0 0] (some 2)) = m3 at hx3 hb3 ⊢
  have hY0 : YV m2 m3 m2.next [] [] (.slice none 0 0) (.slice none 0 0) := ⟨hb3, .nil rfl rfl, .nil rfl rfl, hx3, Nat.le_refl _, by simp [vb], by simp [vb], by simp [vb]⟩
  refine WL.of (fun n e m' => ∃ (k : Nat) (wv gv : Value), k ≤ L.length ∧ n = L.length - k ∧ e = [(1, .int .i64 x), (2, .pointer (some ⟨m.next, 0, none⟩)), (4, .pointer (some ⟨m1.next, 0, none⟩)), (6, .pointer (some ⟨m2.next, 0, none⟩)), (7, .int .i64 k)] ∧
      YV m2 m' m2.next (keys (keepX x (L.take k))) (gots (keepX x (L.take k))) wv gv) L.length
    ⟨0, _, _, by omega, by omega, by simp only [go_sem, Int.reduceBEq, Int.reduceBNe, Int.reduceNeg, reduceCtorEq, Nat.reduceEqDiff, Nat.reduceAdd, Nat.reduceLeDiff, Nat.reduceMul, Nat.reduceSub, Int.reduceToNat, Int.reduceLT, Int.reduceLE] <;> rfl, hY0⟩ ?_
  rintro _ _ m4 ⟨k, wv', gv', hk, rfl, rfl, hY⟩
  have hR4 := hR.keep ((hx1.trans hx2).trans hY.ext)
  have hb14 := hb12.keep hY.ext
  have hb24 := hb2.keep hY.ext
  have hwl := hR4.w.len
  rw [keys_length] at hwl
  simp only [RB.ref15_Drop_1, go_sem, Int.reduceBEq, Int.reduceBNe, Int.reduceNeg, reduceCtorEq, Nat.reduceEqDiff, Nat.reduceAdd, Nat.reduceLeDiff, Nat.reduceMul, Nat.reduceSub, Int.reduceToNat, Int.reduceLT, Int.reduceLE, ldA2_0 hb14, hwl]
  refine gT.of (fun g1' => ?_) (fun g1' => ?_) <;> (have g1 := g1'; try simp only [decide_eq_true_eq, decide_eq_false_iff_not, beq_iff_eq, bne_iff_ne, beq_eq_false_iff_ne, ne_eq, Bool.not_eq_true', Bool.not_eq_false', bne_eq_false_iff_eq, Int.not_lt, Int.not_le] at g1)
  · have hkl : k < L.length := by omega
    have s1 := step1 (show k < 1000000 by omega)
    obtain ⟨bw, ow, r1, r2, r3, r4⟩ := hR4.w.elem spV_len (k := .i64) (i := k) (by rw [keys_length]; exact hkl)
    have hku : (keys L)[k]'(by rw [keys_length]; exact hkl) = (L[k].u, L[k].s) := by simp [keys]
    rw [hku] at r2 r3
    have ru : aLoad false 1 m4 (.pointer (some ⟨bw, ow + 0, none⟩)) = some (.int .i64 L[k].u) := r3 0 (by omega)
    have htk : L.take (k + 1) = L.take k ++ [L[k]] := List.take_succ_eq_append_getElem hkl
    simp only [go_sem, Int.reduceBEq, Int.reduceBNe, Int.reduceNeg, reduceCtorEq, Nat.reduceEqDiff, Nat.reduceAdd, Nat.reduceLeDiff, Nat.reduceMul, Nat.reduceSub, Int.reduceToNat, Int.reduceLT, Int.reduceLE, g1', ldA2_0 hb14, r1, ru]
    by_cases g2 : L[k].u = x
    · have e2 : (L[k].u != x) = false := by rw [g2]; exact bne_self_eq_false _
      simp only [go_sem, Int.reduceBEq, Int.reduceBNe, Int.reduceNeg, reduceCtorEq, Nat.reduceEqDiff, Nat.reduceAdd, Nat.reduceLeDiff, Nat.reduceMul, Nat.reduceSub, Int.reduceToNat, Int.reduceLT, Int.reduceLE, e2, s1]
      refine ⟨L.length - (k + 1), by omega, k + 1, wv', gv', by omega, rfl, rfl, ?_⟩
      rw [htk, keepX_snoc, if_pos g2]; exact hY
    · have e2 : (L[k].u != x) = true := by rw [bne_iff_ne]; exact g2
      have hkp : (keepX x (L.take k)).length ≤ k := by
        have := List.length_filter_le (fun e : En => e.u != x) (L.take k)
        rw [List.length_take] at this
        unfold keepX; omega
      simp only [go_sem, Int.reduceBEq, Int.reduceBNe, Int.reduceNeg, reduceCtorEq, Nat.reduceEqDiff, Nat.reduceAdd, Nat.reduceLeDiff, Nat.reduceMul, Nat.reduceSub, Int.reduceToNat, Int.reduceLT, Int.reduceLE, e2, ldA2_0 hY.box, ldA2_0 hb14, r1, r2]
      obtain ⟨v5, m5, m6, f1, f2, hY6⟩ := hY.appW (w := (L[k].u, L[k].s)) (N := 11) (s := 7) (t := 8) (by rw [keys_length]; omega) (by omega) (by omega)
      refine ⟨rfl, rfl, ?_⟩
      have pad : spV (L[k].u, L[k].s) ++ List.drop (spV (L[k].u, L[k].s)).length [Value.int IntKind.i64 0, Value.int IntKind.i64 0] = spV (L[k].u, L[k].s) := rfl
      rw [pad, f1]
      have hR6 := hR.keep ((hx1.trans hx2).trans hY6.ext)
      have hb16 := hb12.keep hY6.ext
      obtain ⟨pg, d1, d2⟩ := hR6.g.get (k := .i64) (i := k) (by rw [gots_length]; exact hkl)
      rw [intsZ_get (by rw [gots_length]; exact hkl), show (gots L)[k]'(by rw [gots_length]; exact hkl) = (L[k].g : Int) by simp [gots]] at d2
      simp only [go_sem, Int.reduceBEq, Int.reduceBNe, Int.reduceNeg, reduceCtorEq, Nat.reduceEqDiff, Nat.reduceAdd, Nat.reduceLeDiff, Nat.reduceMul, Nat.reduceSub, Int.reduceToNat, Int.reduceLT, Int.reduceLE, f2, ldA2_1 hY6.box, ldA2_1 hb16, d1, d2]
      obtain ⟨v7, m7, m8, f3, f4, hY8⟩ := hY6.appG (x := (L[k].g : Int)) (N := 11) (s := 7) (t := 8) (by rw [gots_length]; omega) (by omega) (by omega)
      rw [f3]
      simp only [go_sem, Int.reduceBEq, Int.reduceBNe, Int.reduceNeg, reduceCtorEq, Nat.reduceEqDiff, Nat.reduceAdd, Nat.reduceLeDiff, Nat.reduceMul, Nat.reduceSub, Int.reduceToNat, Int.reduceLT, Int.reduceLE, f4, s1]
      refine ⟨L.length - (k + 1), by omega, k + 1, v5, v7, by omega, rfl, rfl, ?_⟩
      rw [htk, keepX_snoc, if_neg g2]
      have e1 : keys (keepX x (L.take k) ++ [L[k]]) = keys (keepX x (L.take k)) ++ [(L[k].u, L[k].s)] := by unfold keys; rw [List.map_append]; rfl
      have e2 : gots (keepX x (L.take k) ++ [L[k]]) = gots (keepX x (L.take k)) ++ [(L[k].g : Int)] := by unfold gots; rw [List.map_append]; rfl
      rw [e1, e2]; exact hY8
  · have : k = L.length := by omega
    subst this
    rw [List.take_length] at hY
    obtain ⟨m5, st, hb25, hu5⟩ := stA2 (x' := wv') (y' := gv') hb24 (by unfold oneCells; simp [hY.ow.sl.one, hY.og.sl.one])
    have hne1 : m2.next ≠ m1.next := by have := hb2.lt; omega
    have hne2 : m.next ≠ m1.next := by have := hb1.lt; omega
    have k1 := hu5.same m2.next hY.box.lt (by simpa using hne1)
    have k2 := hu5.same m.next hb14.lt (by simpa using hne2)
    have hx05 : Ext m m5 := hu5.ext_of ((hx1.trans hx2).trans hY.ext) (by have := hx1.next; simpa using this)
    have hkl := hY.ow.sl.len
    rw [keys_length] at hkl
    simp only [go_sem, Int.reduceBEq, Int.reduceBNe, Int.reduceNeg, reduceCtorEq, Nat.reduceEqDiff, Nat.reduceAdd, Nat.reduceLeDiff, Nat.reduceMul, Nat.reduceSub, Int.reduceToNat, Int.reduceLT, Int.reduceLE, g1', ldA2 hY.box, ldA2_0 hY.box, hkl, ldA2_0 hb14, hwl, st, watchOk_cons, watchOk_nil, blkOf_ptr, k1, k2, ldA2 hb25]
    have hew : decide (((keepX x L).length : Int) < (L.length : Int)) = decide ((keepX x L).length < L.length) := by rw [decide_eq_decide]; omega
    have hvw : m1.next ∉ vb wv' := fun h => by have := hY.ow.ge _ h; have := hb2.lt; omega
    have hvg : m1.next ∉ vb gv' := fun h => by have := hY.og.ge _ h; have := hb2.lt; omega
    have hw5 := hY.ow.updq hu5 (fun c hc => by simp; intro e; subst e; exact hvw hc)
    have hg5 := hY.og.updq hu5 (fun c hc => by simp; intro e; subst e; exact hvg hc)
    exact ⟨⟨wv', gv', ⟨hw5.sl, hw5.lt, hw5.cut, hg5.sl, hg5.lt, hg5.cut⟩, fun c hc => Nat.le_trans (hx1.trans hx2).next (hw5.ge c hc), fun c hc => Nat.le_trans (hx1.trans hx2).next (hg5.ge c hc), by rw [hew]⟩, hx05⟩
end Go.Am


/- The reference's local: made. -/
set_option linter.unusedVariables false
set_option linter.unusedSimpArgs false
namespace Go.Am
variable {m : Mem}

/-- Ahead of the first one that is not below. -/
def insU (L : List En) (w : Sp) : List En := L.takeWhile (fun e => decide (e.u < w.1)) ++ ent w :: L.dropWhile (fun e => decide (e.u < w.1))
def newL (l : List Sp) : List En := l.foldl insU []
theorem tkw {α : Type} {p : α → Bool} : ∀ {L : List α} {j : Nat} (hj : j ≤ L.length), (∀ i (h : i < L.length), i < j → p L[i] = true) → (∀ h : j < L.length, p L[j] = false) → L.takeWhile p = L.take j ∧ L.dropWhile p = L.drop j
  | [], j, hj, _, _ => by simp at hj; subst hj; simp
  | x :: L, 0, _, _, h2 => by
    have := h2 (by simp)
    simp only [List.getElem_cons_zero] at this
    simp [List.takeWhile_cons, List.dropWhile_cons, this]
  | x :: L, j + 1, hj, h1, h2 => by
    have h0 := h1 0 (by simp) (by omega)
    simp only [List.getElem_cons_zero] at h0
    obtain ⟨a, b⟩ := tkw (p := p) (L := L) (j := j) (by simpa using hj) (fun i h hi => by have := h1 (i + 1) (by simpa using h) (by omega); rw [List.getElem_cons_succ] at this; exact this) (fun h => by have := h2 (by simpa using h); rw [List.getElem_cons_succ] at this; exact this)
    simp [List.takeWhile_cons, List.dropWhile_cons, h0, a, b]
theorem insU_at {L : List En} {w : Sp} {j : Nat} (hj : j ≤ L.length) (h1 : ∀ i (h : i < L.length), i < j → L[i].u < w.1) (h2 : ∀ h : j < L.length, ¬ L[j].u < w.1) : insU L w = L.take j ++ ent w :: L.drop j := by
  obtain ⟨a, b⟩ := tkw (p := fun e : En => decide (e.u < w.1)) hj (fun i h hi => decide_eq_true (h1 i h hi)) (fun h => decide_eq_false (h2 h))
  unfold insU; rw [a, b]

theorem YV.keep {m0 m m' : Mem} {b : Nat} {ws : List Sp} {gs : List Int} {wv gv : Value} (h : YV m0 m b ws gs wv gv) (hx : Ext m m') : YV m0 m' b ws gs wv gv :=
  ⟨h.box.keep hx, h.ow.keep hx, h.og.keep hx, h.ext.trans hx, h.ge, h.offw, h.offg, h.apart⟩

theorem YV.setW {m0 m m' : Mem} {b : Nat} {ws ws' : List Sp} {gs : List Int} {wv gv v' : Value} (h : YV m0 m b ws gs wv gv) (hx : Ext m m') (ho : Own m m' 2 ws'.length (ws'.flatMap spV) v') :
    ∃ m'', aStore 1 m' (.pointer (some ⟨b, 0, none⟩)) v' = some m'' ∧ YV m0 m'' b ws' gs v' gv := by
  have hge := ho.ge
  have hk := h.keep hx
  have hbl := h.box.lt
  have hgl := SlLt.vb_iff.1 h.og.lt
  have hvo : ∀ c ∈ vb v', c ≠ b := fun c hc => by have := hge c hc; omega
  obtain ⟨m'', st, hb3, hu3⟩ := stA2_0 hk.box ho.sl.cells ho.sl.one
  exact ⟨m'', st, hb3, (ho.weak h.ext).updq hu3 (fun c hc => by simpa using hvo c hc), hk.og.updq hu3 (fun c hc => by simpa using h.offg c hc), hu3.ext_of hk.ext (by simpa using h.ge), h.ge, hvo, h.offg,
    fun c hc hm => by have := hge c hc; have := hgl c hm; omega⟩

theorem YV.appGs {m0 m : Mem} {b : Nat} {ws : List Sp} {gs : List Int} {wv gv : Value} {x : Int} (h : YV m0 m b ws gs wv gv) (hl : gs.length < 100000) :
    ∃ v' m' m'', aApp none 1 8 (m.new (.cells [.int .i64 x] (some 1))) gv (.slice (some ⟨m.next, 0, none⟩) 1 1) = some (v', m') ∧
      aStore 1 m' (.pointer (some ⟨b, 1, none⟩)) v' = some m'' ∧ YV m0 m'' b ws (gs ++ [x]) wv v' := by
  obtain ⟨v', m', e1, e2, e3⟩ := h.og.app (by_ := 8) (es := [.int .i64 x]) h.ext (by omega) rfl rfl (by omega) (by omega)
  have hx : Ext m (m.new (.cells [.int .i64 x] (some 1))) := Ext.new
  obtain ⟨a1, a2, a3⟩ := app_updA (M := m.next) e1 (fun k hk => by cases hk) hx.next
  have hu : Upd m m' (vb gv) := ⟨Nat.le_trans hx.next a1, fun c hc hn => by rw [a2 c hc hn, hx.same c hc]⟩
  have hb2 := h.box.upd hu (fun hm => h.offg b hm rfl)
  have hw2 := h.ow.updq hu (fun c hc hm => h.apart c hc hm)
  have hwlt := SlLt.vb_iff.1 h.ow.lt
  have hvo : ∀ c ∈ vb v', c ≠ b := fun c hc => by
    have := h.box.lt
    rcases a3 with e | ⟨k, e, hk⟩
    · rw [e] at hc; exact h.offg c hc
    · rw [e] at hc; simp at hc; omega
  have hap : ∀ c ∈ vb wv, c ∉ vb v' := fun c hm hc => by
    have := hwlt c hm
    rcases a3 with e | ⟨k, e, hk⟩
    · rw [e] at hc; exact h.apart c hm hc
    · rw [e] at hc; simp at hc; omega
  obtain ⟨m'', st, hb3, hu3⟩ := stA2_1 hb2 e2.sl.cells e2.sl.one
  refine ⟨v', m', m'', e1, st, hb3, hw2.updq hu3 (fun c hc => by simpa using h.offw c hc), ?_, hu3.ext_of e3 (by simpa using h.ge), h.ge, h.offw, hvo, hap⟩
  have := e2.updq hu3 (fun c hc => by simpa using hvo c hc)
  unfold intsZ at *
  rw [List.length_append, List.map_append]
  simpa using this

theorem Own.len {m0 m : Mem} {u n : Nat} {cs : List Value} {v : Value} (h : Own m0 m u n cs v) : aLen v = some (.int .i64 n) := h.sl.len
theorem keys_getE {L : List En} {i : Nat} (h : i < (keys L).length) : (keys L)[i] = ((L[i]'(by rw [← keys_length]; exact h)).u, (L[i]'(by rw [← keys_length]; exact h)).s) := by simp [keys]

/-- Where a want goes. -/
theorem ref15New_loop {m0 : Mem} {b i : Nat} {L : List En} {l : List Sp} {gs : List Int} {v p2 wv gv : Value} (hY : YV m0 m b (keys L) gs wv gv) (hs : Sl m 2 l.length (l.flatMap spV) v) (hi : i < l.length) (hL : L.length < 1000) :
    WL R [0, 2, 3, 4, 5] RB.ref15_New_1 [(0, v), (2, p2), (3, .pointer (some ⟨b, 0, none⟩)), (4, .int .i64 i), (5, .int .i64 (0 : Nat))] m fun x e' m' =>
      m' = m ∧ x = .exit 2 ∧ ∃ (j : Nat) (rest : Env), j ≤ L.length ∧ insU L l[i] = L.take j ++ ent l[i] :: L.drop j ∧ e' = (0, v) :: (2, p2) :: (3, .pointer (some ⟨b, 0, none⟩)) :: (4, .int .i64 i) :: (5, .int .i64 j) :: rest := by
  have hsl := hY.ow.sl
  have hwl := hsl.len
  rw [keys_length] at hwl hsl
  obtain ⟨bl, ol, r1, -, r3, -⟩ := hs.elem spV_len (k := .i64) (i := i) hi
  have rl : aLoad false 1 m (.pointer (some ⟨bl, ol + 0, none⟩)) = some (.int .i64 l[i].1) := r3 0 (by omega)
  have lw := ldA2_0 hY.box
  refine WL.of (fun n e m' => ∃ j : Nat, j ≤ L.length ∧ n = L.length - j ∧ m' = m ∧ e = [(0, v), (2, p2), (3, .pointer (some ⟨b, 0, none⟩)), (4, .int .i64 i), (5, .int .i64 j)] ∧ ∀ q (h : q < L.length), q < j → L[q].u < l[i].1) L.length
    ⟨0, by omega, by omega, rfl, by simp only [go_sem, Int.reduceBEq, Int.reduceBNe, Int.reduceNeg, reduceCtorEq, Nat.reduceEqDiff, Nat.reduceAdd, Nat.reduceLeDiff, Nat.reduceMul, Nat.reduceSub, Int.reduceToNat, Int.reduceLT, Int.reduceLE] <;> rfl, fun _ _ h => by omega⟩ ?_
  rintro _ _ m1 ⟨j, hj, rfl, hm, rfl, hall⟩
  subst hm
  simp only [RB.ref15_New_1, go_sem, Int.reduceBEq, Int.reduceBNe, Int.reduceNeg, reduceCtorEq, Nat.reduceEqDiff, Nat.reduceAdd, Nat.reduceLeDiff, Nat.reduceMul, Nat.reduceSub, Int.reduceToNat, Int.reduceLT, Int.reduceLE, lw, hwl]
  by_cases g1 : j < L.length
  · have e1 : decide ((j : Int) < (L.length : Int)) = true := decide_eq_true (by omega)
    have s1 := step1 (show j < 1000000 by omega)
    have hjk : j < (keys L).length := by rw [keys_length]; exact g1
    obtain ⟨bw, ow, q1, -, q3, -⟩ := hY.ow.sl.elem spV_len (k := .i64) (i := j) hjk
    rw [keys_getE hjk] at q3
    have rw_ : aLoad false 1 m1 (.pointer (some ⟨bw, ow + 0, none⟩)) = some (.int .i64 L[j].u) := q3 0 (by omega)
    simp only [go_sem, Int.reduceBEq, Int.reduceBNe, Int.reduceNeg, reduceCtorEq, Nat.reduceEqDiff, Nat.reduceAdd, Nat.reduceLeDiff, Nat.reduceMul, Nat.reduceSub, Int.reduceToNat, Int.reduceLT, Int.reduceLE, e1, lw, q1, r1, rw_, rl]
    by_cases g2 : L[j].u < l[i].1
    · have e2 : decide (L[j].u < l[i].1) = true := decide_eq_true g2
      simp only [go_sem, Int.reduceBEq, Int.reduceBNe, Int.reduceNeg, reduceCtorEq, Nat.reduceEqDiff, Nat.reduceAdd, Nat.reduceLeDiff, Nat.reduceMul, Nat.reduceSub, Int.reduceToNat, Int.reduceLT, Int.reduceLE, e2, s1]
      refine ⟨L.length - (j + 1), by omega, j + 1, by omega, rfl, rfl, fun q h hq => ?_⟩
      by_cases e : q = j
      · subst e; exact g2
      · exact hall q h (by omega)
    · have e2 : decide (L[j].u < l[i].1) = false := decide_eq_false g2
      simp only [go_sem, Int.reduceBEq, Int.reduceBNe, Int.reduceNeg, reduceCtorEq, Nat.reduceEqDiff, Nat.reduceAdd, Nat.reduceLeDiff, Nat.reduceMul, Nat.reduceSub, Int.reduceToNat, Int.reduceLT, Int.reduceLE, e2]
      exact ⟨j, _, hj, insU_at hj hall fun _ => g2, rfl⟩
  · have e1 : decide ((j : Int) < (L.length : Int)) = false := decide_eq_false (by omega)
    simp only [go_sem, Int.reduceBEq, Int.reduceBNe, Int.reduceNeg, reduceCtorEq, Nat.reduceEqDiff, Nat.reduceAdd, Nat.reduceLeDiff, Nat.reduceMul, Nat.reduceSub, Int.reduceToNat, Int.reduceLT, Int.reduceLE, e1]
    exact ⟨j, _, hj, insU_at hj hall fun h => absurd h g1, rfl⟩

theorem newL_succ {l : List Sp} {i : Nat} (h : i < l.length) : newL (l.take (i + 1)) = insU (newL (l.take i)) l[i] := by
  unfold newL; rw [List.take_succ_eq_append_getElem h, List.foldl_append]; rfl
theorem insU_len {L : List En} {w : Sp} : (insU L w).length = L.length + 1 := by
  unfold insU
  have := congrArg List.length (List.takeWhile_append_dropWhile (p := fun e : En => decide (e.u < w.1)) (l := L))
  rw [List.length_append] at this
  simp; omega
theorem newL_len {l : List Sp} : (newL l).length = l.length := by
  suffices h : ∀ (l : List Sp) (L : List En), (l.foldl insU L).length = L.length + l.length by have := h l []; simpa [newL] using this
  intro l
  induction l with
  | nil => intro L; rfl
  | cons w l ih => intro L; rw [List.foldl_cons, ih, insU_len, List.length_cons]; omega
theorem flat_take {α : Type} {f : α → List Value} {u : Nat} (hf : ∀ a, (f a).length = u) {l : List α} {i : Nat} (h : i ≤ l.length) : (l.flatMap f).take (i * u) = (l.take i).flatMap f := by
  have e : l.flatMap f = (l.take i).flatMap f ++ (l.drop i).flatMap f := by rw [← List.flatMap_append, List.take_append_drop]
  rw [e, List.take_left' (by rw [flat_len hf, List.length_take]; congr 1; omega)]
theorem flat_dropF {α : Type} {f : α → List Value} {u : Nat} (hf : ∀ a, (f a).length = u) {l : List α} {i : Nat} (h : i ≤ l.length) : (l.flatMap f).drop (i * u) = (l.drop i).flatMap f := by
  have e : l.flatMap f = (l.take i).flatMap f ++ (l.drop i).flatMap f := by rw [← List.flatMap_append, List.take_append_drop]
  rw [e, List.drop_left' (by rw [flat_len hf, List.length_take]; congr 1; omega)]
theorem full0 {b : Nat} : Full (.slice (some ⟨b, 0, none⟩) 0 0) := fun _ _ _ e => by cases e; rfl

set_option maxHeartbeats 2000000 in
theorem ref15New {l : List Sp} {v : Value} (hs : Sl m 2 l.length (l.flatMap spV) v) (hb : SlLt m v) (hl : l.length < 1000) :
    WC R F.ref15_New [v] m fun r m' => (∃ wv gv, r = .agg #[wv, gv] ∧ RefL m' (newL l) wv gv ∧ (∀ c ∈ vb wv, m.next ≤ c) ∧ ∀ c ∈ vb gv, m.next ≤ c) ∧ Ext m m' := by
  refine WC.of R.ref15_New rfl ?_
  simp only [RC.ref15_New, go_sem, Int.reduceBEq, Int.reduceBNe, Int.reduceNeg, reduceCtorEq, Nat.reduceEqDiff, Nat.reduceAdd, Nat.reduceLeDiff, Nat.reduceMul, Nat.reduceSub, Int.reduceToNat, Int.reduceLT, Int.reduceLE]
  have hx1 : Ext m (m.new (.cells [.slice none 0 0, .slice none 0 0] (some 2))) := Ext.new
  have hb1 : Bk (m.new (.cells [.slice none 0 0, .slice none 0 0] (some 2))) m.next [.slice none 0 0, .slice none 0 0] 2 := Bk.new
  generalize m.new (.cells [.slice none 0 0, .slice none 0 0] (some 2)) = m1 at hx1 hb1 ⊢
  have hst0 : aStore 2 (m1.new (.cells [.slice none 0 0, .slice none 0 0] (some 2))) (.pointer (some ⟨m1.next, 0, none⟩)) (.agg #[.slice none 0 0, .slice none 0 0]) = some (m1.new (.cells [.slice none 0 0, .slice none 0 0] (some 2))) := by
    have e : (#[Value.slice none 0 0, Value.slice none 0 0] : Array Value) = [Value.slice none 0 0, Value.slice none 0 0].toArray := rfl
    rw [e]
    simp only [go_sem, Int.reduceBEq, Int.reduceBNe, Int.reduceNeg, reduceCtorEq, Nat.reduceEqDiff, Nat.reduceAdd, Nat.reduceLeDiff, Nat.reduceMul, Nat.reduceSub, Int.reduceToNat, Int.reduceLT, Int.reduceLE, load_w, load_a, store_b, idxS_b, set_blk, new_blk, set_next, new_next, len_s, ldW_c, ldA_c, stB_c, toArr_one, size_one, toList_toArr, size_toArr, List.length_cons, List.length_nil, List.getElem?_cons_zero, List.getElem?_cons_succ, Nat.zero_add, Nat.add_zero]
  simp only [go_sem, Int.reduceBEq, Int.reduceBNe, Int.reduceNeg, reduceCtorEq, Nat.reduceEqDiff, Nat.reduceAdd, Nat.reduceLeDiff, Nat.reduceMul, Nat.reduceSub, Int.reduceToNat, Int.reduceLT, Int.reduceLE, hst0]
  have hx2 : Ext m1 (m1.new (.cells [.slice none 0 0, .slice none 0 0] (some 2))) := Ext.new
  have hb2 : Bk (m1.new (.cells [.slice none 0 0, .slice none 0 0] (some 2))) m1.next [.slice none 0 0, .slice none 0 0] 2 := Bk.new
  generalize m1.new (.cells [.slice none 0 0, .slice none 0 0] (some 2)) = m2 at hx2 hb2 ⊢
  have hY0 : YV m1 m2 m1.next (keys []) [] (.slice none 0 0) (.slice none 0 0) := ⟨hb2, .nil rfl rfl, .nil rfl rfl, hx2, Nat.le_refl _, by simp [vb], by simp [vb], by simp [vb]⟩
  refine WL.of (fun n e m' => ∃ (i : Nat) (wv gv : Value), i ≤ l.length ∧ n = l.length - i ∧ e = [(0, v), (2, .pointer (some ⟨m.next, 0, none⟩)), (3, .pointer (some ⟨m1.next, 0, none⟩)), (4, .int .i64 i)] ∧
      YV m1 m' m1.next (keys (newL (l.take i))) (List.replicate i 0) wv gv) l.length
    ⟨0, _, _, by omega, by omega, by simp only [go_sem, Int.reduceBEq, Int.reduceBNe, Int.reduceNeg, reduceCtorEq, Nat.reduceEqDiff, Nat.reduceAdd, Nat.reduceLeDiff, Nat.reduceMul, Nat.reduceSub, Int.reduceToNat, Int.reduceLT, Int.reduceLE] <;> rfl, hY0⟩ ?_
  rintro _ _ m4 ⟨i, wv, gv, hi, rfl, rfl, hY⟩
  have hs4 := hs.keep hb (hx1.trans hY.ext)
  simp only [RB.ref15_New_2, go_sem, Int.reduceBEq, Int.reduceBNe, Int.reduceNeg, reduceCtorEq, Nat.reduceEqDiff, Nat.reduceAdd, Nat.reduceLeDiff, Nat.reduceMul, Nat.reduceSub, Int.reduceToNat, Int.reduceLT, Int.reduceLE, hs4.len]
  by_cases g1 : i < l.length
  · have e1 : decide ((i : Int) < (l.length : Int)) = true := decide_eq_true (by omega)
    have s1 := step1 (show i < 1000000 by omega)
    generalize hL : newL (l.take i) = L at hY
    have hLl : L.length = i := by rw [← hL, newL_len, List.length_take]; omega
    simp only [go_sem, Int.reduceBEq, Int.reduceBNe, Int.reduceNeg, reduceCtorEq, Nat.reduceEqDiff, Nat.reduceAdd, Nat.reduceLeDiff, Nat.reduceMul, Nat.reduceSub, Int.reduceToNat, Int.reduceLT, Int.reduceLE, e1]
    refine WL.mono (ref15New_loop hY hs4 g1 (by omega)) ?_
    rintro _ _ m5 ⟨hm5, rfl, j, rest, hj, hins, rfl⟩
    replace hm5 := hm5.symm
    subst hm5
    have hkl := keys_length (L := L)
    have hone : ∀ l : List Sp, oneCells (l.flatMap spV) = true := spV_flat
    have hxa : Ext m4 (m4.new (.cells [] (some 2))) := Ext.new
    obtain ⟨vk, t1, t2, -, -⟩ := ((hY.keep hxa).ow.sl).to (hY.keep hxa).ow.cut (k := .i64) (i := j) (by omega)
    rw [flat_take spV_len (by omega)] at t2
    obtain ⟨v1, m6, f1, f2, f3⟩ := app_copy (by_ := 16) t2 (hone _) (by omega) (by omega)
    have F1 := app_full f1 t2.src.2 full0
    obtain ⟨v2, m8, f4, f5, f6⟩ := f2.app (by_ := 16) (es := spV l[i]) f3 (by omega) rfl rfl (by omega) (by omega)
    have F2 := app_full f4 rfl F1
    have hY8 := hY.keep f6
    obtain ⟨vr, t3, t4, -, -⟩ := (hY8.ow.sl).from hY8.ow.cut (k := .i64) (i := j) (by omega)
    rw [flat_dropF spV_len (by omega)] at t4
    obtain ⟨v3, m9, f7, f8, f9⟩ := f5.appAll (by_ := 16) f6 t4 (hone _) (by omega) (by omega) F2
    have hk2 : keys (insU L l[i]) = (keys L).take j ++ l[i] :: (keys L).drop j := by
      rw [hins]; unfold keys; rw [List.map_append, List.map_cons, List.map_take, List.map_drop]; rfl
    have hO : Own m4 m9 2 (keys (insU L l[i])).length ((keys (insU L l[i])).flatMap spV) v3 := by
      have e2 : (keys (insU L l[i])).length = j + 1 + ((keys L).length - j) := by rw [keys_length, insU_len, hkl]; omega
      rw [e2, hk2]
      simpa using f8
    obtain ⟨m10, st1, hY10⟩ := hY.setW f9 hO
    obtain ⟨v4, m11, m12, f10, st2, hY12⟩ := hY10.appGs (x := 0) (by simp; omega)
    have hb6 := hY.box.keep hxa
    have pad : spV l[i] ++ List.drop (spV l[i]).length [Value.int IntKind.i64 0, Value.int IntKind.i64 0] = spV l[i] := rfl
    have hxb : Ext m4 (m6.new (.cells (spV l[i]) (some 2))) := f3.trans Ext.new
    obtain ⟨bl, ol, r1, r2, -, -⟩ := (hs4.keep (hb.keep (hx1.trans hY.ext)) f3).elem spV_len (k := .i64) (i := i) g1
    simp only [go_sem, Int.reduceBEq, Int.reduceBNe, Int.reduceNeg, reduceCtorEq, Nat.reduceEqDiff, Nat.reduceAdd, Nat.reduceLeDiff, Nat.reduceMul, Nat.reduceSub, Int.reduceToNat, Int.reduceLT, Int.reduceLE, ldA2_0 hb6, t1, f1]
    simp only [go_sem, Int.reduceBEq, Int.reduceBNe, Int.reduceNeg, reduceCtorEq, Nat.reduceEqDiff, Nat.reduceAdd, Nat.reduceLeDiff, Nat.reduceMul, Nat.reduceSub, Int.reduceToNat, Int.reduceLT, Int.reduceLE, r1, r2]
    refine ⟨rfl, rfl, ?_⟩
    rw [pad, f4]
    simp only [go_sem, Int.reduceBEq, Int.reduceBNe, Int.reduceNeg, reduceCtorEq, Nat.reduceEqDiff, Nat.reduceAdd, Nat.reduceLeDiff, Nat.reduceMul, Nat.reduceSub, Int.reduceToNat, Int.reduceLT, Int.reduceLE, ldA2_0 hY8.box, t3, f7, st1]
    simp only [go_sem, Int.reduceBEq, Int.reduceBNe, Int.reduceNeg, reduceCtorEq, Nat.reduceEqDiff, Nat.reduceAdd, Nat.reduceLeDiff, Nat.reduceMul, Nat.reduceSub, Int.reduceToNat, Int.reduceLT, Int.reduceLE, ldA2_1 hY10.box, f10, st2, s1]
    refine ⟨l.length - (i + 1), by omega, i + 1, v3, v4, by omega, rfl, rfl, ?_⟩
    rw [newL_succ g1, hL, List.replicate_succ']
    exact hY12
  · have : i = l.length := by omega
    subst this
    have e1 : decide ((l.length : Int) < (l.length : Int)) = false := decide_eq_false (by omega)
    rw [List.take_length] at hY
    have hb14 : Bk m4 m.next [.slice none 0 0, .slice none 0 0] 2 := hb1.keep hY.ext
    have hne : m1.next ≠ m.next := by have := hb1.lt; omega
    obtain ⟨m5, st, hb5, hu5⟩ := stA2 (x' := wv) (y' := gv) hb14 (by unfold oneCells; simp [hY.ow.sl.one, hY.og.sl.one])
    have hx05 : Ext m m5 := hu5.ext_of (hx1.trans hY.ext) (by simp)
    simp only [go_sem, Int.reduceBEq, Int.reduceBNe, Int.reduceNeg, reduceCtorEq, Nat.reduceEqDiff, Nat.reduceAdd, Nat.reduceLeDiff, Nat.reduceMul, Nat.reduceSub, Int.reduceToNat, Int.reduceLT, Int.reduceLE, e1, ldA2 hY.box, st, ldA2 hb5]
    have hvw : m.next ∉ vb wv := fun h => by have := hY.ow.ge _ h; have := hb1.lt; omega
    have hvg : m.next ∉ vb gv := fun h => by have := hY.og.ge _ h; have := hb1.lt; omega
    have hw5 := hY.ow.updq hu5 (fun c hc => by simp; intro e; subst e; exact hvw hc)
    have hg5 := hY.og.updq hu5 (fun c hc => by simp; intro e; subst e; exact hvg hc)
    have hg : List.replicate l.length (0 : Int) = gots (newL l) := by
      unfold gots
      rw [← newL_len (l := l)]
      suffices h : ∀ (l : List Sp) (L : List En), (∀ e ∈ L, e.g = 0) → ∀ e ∈ l.foldl insU L, e.g = 0 by
        have h0 : ∀ e ∈ newL l, e.g = 0 := h l [] (by simp)
        refine List.ext_getElem (by simp) fun i h1 h2 => ?_
        simp [h0 _ (List.getElem_mem _)]
      intro l
      induction l with
      | nil => intro L h; exact h
      | cons w l ih =>
        intro L h
        refine ih _ fun e he => ?_
        unfold insU at he
        rw [List.mem_append, List.mem_cons] at he
        rcases he with he | rfl | he
        · exact h e ((List.takeWhile_sublist _).subset he)
        · rfl
        · exact h e (List.dropWhile_sublist _ |>.subset he)
    rw [hg] at hg5
    exact ⟨⟨wv, gv, rfl, ⟨hw5.sl, hw5.lt, hw5.cut, hg5.sl, hg5.lt, hg5.cut⟩, fun c hc => Nat.le_trans hx1.next (hw5.ge c hc), fun c hc => Nat.le_trans hx1.next (hg5.ge c hc)⟩, hx05⟩
end Go.Am


/- LocalJust. -/
set_option linter.unusedVariables false
set_option linter.unusedSimpArgs false
namespace Go.Am
variable {m : Mem}

theorem w_read {m : Mem} {v : Value} (h : Rd m (.sl [.int .i64, .int .i64]) v) : ∃ l : List Sp, Sl m 2 l.length (l.flatMap spV) v ∧ SlLt m v ∧ Cut 2 m v ∧ ∀ w ∈ l, inR w.1 ∧ inR w.2 := by
  obtain ⟨l, h1, h2, -⟩ := Rd.slice (f := fun (s : { s : Sp // inR s.1 ∧ inR s.2 }) => spV s.1) (fun cs hc => by
    obtain ⟨c, r, rfl, h1, h2⟩ := hc.one
    obtain ⟨d, r2, rfl, h3, h4⟩ := h2.one
    cases h4.none
    obtain ⟨a, rfl, a1, a2⟩ := h1.i64
    obtain ⟨b, rfl, b1, b2⟩ := h3.i64
    exact ⟨⟨(a, b), ⟨a1, a2⟩, b1, b2⟩, rfl⟩) h
  refine ⟨l.map Subtype.val, ?_, h2, h.free.cut, fun w hw => ?_⟩
  · rw [List.length_map, List.flatMap_map]
    exact h1
  · obtain ⟨s, -, rfl⟩ := List.mem_map.1 hw
    exact s.2

/-- The first ones of an argument. -/
theorem cutTo {l : List Sp} {v : Value} {N : Nat} (hs : Sl m 2 l.length (l.flatMap spV) v) (hb : SlLt m v) (hc : Cut 2 m v) :
    ∃ v', aSub 2 m v none (some (.int .i64 ((min l.length N : Nat) : Int))) none = some v' ∧ Sl m 2 (l.take N).length ((l.take N).flatMap spV) v' ∧ SlLt m v' ∧ (l.take N).length ≤ N := by
  obtain ⟨v', a1, a2, a3, a4⟩ := hs.to hc (k := .i64) (i := min l.length N) (by omega)
  have h : (l.take N).length = min l.length N := by rw [List.length_take]; omega
  have h2 : (l.flatMap spV).take (min l.length N * 2) = (l.take N).flatMap spV := by
    have e : l.flatMap spV = (l.take N).flatMap spV ++ (l.drop N).flatMap spV := by rw [← List.flatMap_append, List.take_append_drop]
    rw [e, List.take_left' (by rw [flat_len spV_len, h])]
  rw [h2, ← h] at a2
  exact ⟨v', a1, a2, a3 hb, by rw [h]; omega⟩

theorem same_unit : ∀ {l : List Sp}, (l.map Prod.fst).Nodup → ∀ {x y : Sp}, x ∈ l → y ∈ l → x.1 = y.1 → x = y
  | [], _, _, _, h, _, _ => by simp at h
  | w :: l, hn, x, y, hx, hy, e => by
    rw [List.map_cons, List.nodup_cons] at hn
    rcases List.mem_cons.1 hx with h1 | h1 <;> rcases List.mem_cons.1 hy with h2 | h2
    · rw [h1, h2]
    · exact absurd (List.mem_map.2 ⟨y, h2, by rw [← e, h1]⟩) hn.1
    · exact absurd (List.mem_map.2 ⟨x, h1, by rw [e, h2]⟩) hn.1
    · exact same_unit hn.2 h1 h2 e

/-- Behind some picks, with nobody off. -/
structure Picks (l : List Sp) (L : List En) (t : Nat) : Prop where
  perm : (keys L).Perm l
  fair : ∀ i, i < L.length → Fair L i
  sum : sumN gI L = t
  bd : Bd L t
theorem Picks.start {l : List Sp} {L : List En} (h : MadeL l L) : Picks l L 0 := by
  refine ⟨h.perm, fun i hi hi' j hj => ?_, ?_, h.bd⟩
  · rw [h.zero _ (List.getElem_mem hj), h.zero _ (List.getElem_mem hi)]
    have := (h.bd.s _ (List.getElem_mem hj)).1
    simp; omega
  · rw [sumN_congr (g := fun _ => 0) fun e he => by show (e.g : Int) = 0; rw [h.zero e he]; rfl, sumN_const]; simp
theorem Picks.pick {l : List Sp} {L : List En} {t : Nat} (h : Picks l L t) (h0 : 0 < L.length) : Picks l (pick L (offF [])) (t + 1) ∧ ∃ b, bst L (offF []) L.length = some b := by
  have hk := pick_keys (off := offF []) h.bd.pos
  have hl := keys_len hk
  obtain ⟨-, hs, hb⟩ := pick_fair (off := offF []) h.bd.pos h0 rfl (h.fair 0 h0)
  refine ⟨⟨by rw [hk]; exact h.perm, fun i hi => (pick_fair (off := offF []) h.bd.pos (by omega) rfl (h.fair i (by omega))).1, by rw [hs, h.sum]; omega, h.bd.pick⟩, hb⟩
theorem Picks.total {l : List Sp} {L : List En} {t : Nat} (h : Picks l L t) : sumN sI L = sumW l := by
  rw [← sumW_wts, wts_keys]; exact sumW_perm h.perm
theorem Picks.len {l : List Sp} {L : List En} {t : Nat} (h : Picks l L t) : L.length = l.length := by
  have := h.perm.length_eq; simpa [keys] using this
/-- Each want is there. -/
theorem Picks.there {l : List Sp} {L : List En} {t : Nat} (h : Picks l L t) {w : Sp} (hw : w ∈ l) : ∃ e ∈ L, e.u = w.1 := by
  obtain ⟨e, he, heq⟩ := List.mem_map.1 (h.perm.mem_iff.2 hw)
  exact ⟨e, he, congrArg Prod.fst heq⟩
theorem Picks.share {l : List Sp} {L : List En} {t : Nat} (h : Picks l L t) (hn : (l.map Prod.fst).Nodup) {w : Sp} (hw : w ∈ l) {i : Nat} (hi : i < L.length) (e : L[i].u = w.1) : L[i].s = w.2 := by
  have h1 : (L[i].u, L[i].s) ∈ l := h.perm.mem_iff.1 (List.mem_map.2 ⟨L[i], List.getElem_mem hi, rfl⟩)
  have := same_unit hn h1 hw e
  exact congrArg Prod.snd this

set_option maxHeartbeats 2000000 in
theorem LocalJust_spec {l : List Sp} {v : Value} {f : Int} (hs : Sl m 2 l.length (l.flatMap spV) v) (hb : SlLt m v) (hc : Cut 2 m v) (hr : ∀ w ∈ l, inR w.1 ∧ inR w.2) : WC R F.law15_LocalJust [.int .i64 f, v] m fun r _ => r = .bool true := by
  refine WC.of R.law15_LocalJust rfl ?_
  simp only [RC.law15_LocalJust, go_sem, Int.reduceBEq, Int.reduceBNe, Int.reduceNeg, reduceCtorEq, Nat.reduceEqDiff, Nat.reduceAdd, Nat.reduceLeDiff, Nat.reduceMul, Nat.reduceSub, Int.reduceToNat, Int.reduceLT, Int.reduceLE, hs.len]
  have e : (if (80 : Int) < l.length then (80 : Int) else l.length) = ((min l.length 80 : Nat) : Int) := by
    split <;> omega
  obtain ⟨v', a1, hs', hb', hL⟩ := cutTo (N := 80) hs hb hc
  have hrL : ∀ w ∈ l.take 80, inR w.2 := fun w hw => (hr w (List.mem_of_mem_take hw)).2
  generalize l.take 80 = l' at hs' hL hrL
  simp only [go_sem, Int.reduceBEq, Int.reduceBNe, Int.reduceNeg, reduceCtorEq, Nat.reduceEqDiff, Nat.reduceAdd, Nat.reduceLeDiff, Nat.reduceMul, Nat.reduceSub, Int.reduceToNat, Int.reduceLT, Int.reduceLE, e, a1]
  refine gC.of (locMade hs' hb' hL hrL) ?_
  rintro _ m1 (⟨hE, rfl, hx⟩ | ⟨hE, b, L, lv, rfl, hV, hM⟩)
  · simp only [go_sem, Int.reduceBEq, Int.reduceBNe, Int.reduceNeg, reduceCtorEq, Nat.reduceEqDiff, Nat.reduceAdd, Nat.reduceLeDiff, Nat.reduceMul, Nat.reduceSub, Int.reduceToNat, Int.reduceLT, Int.reduceLE, aExt0, aExt1]
    refine gC.of (ref15Check (hs'.keep hb' hx) (by omega) hrL) ?_
    rintro _ _ ⟨rfl, hm⟩
    subst hm
    have e1 : (newE f l' != 0) = true := by rw [bne_iff_ne]; exact hE
    simp only [go_sem, Int.reduceBEq, Int.reduceBNe, Int.reduceNeg, reduceCtorEq, Nat.reduceEqDiff, Nat.reduceAdd, Nat.reduceLeDiff, Nat.reduceMul, Nat.reduceSub, Int.reduceToNat, Int.reduceLT, Int.reduceLE, e1]
    refine gC.of (ok_spec R.law15_awake) ?_
    rintro _ m_ ⟨rfl, hm_⟩
    replace hm_ := hm_.symm
    subst hm_
    simp only [go_sem, Int.reduceBEq, Int.reduceBNe, Int.reduceNeg, reduceCtorEq, Nat.reduceEqDiff, Nat.reduceAdd, Nat.reduceLeDiff, Nat.reduceMul, Nat.reduceSub, Int.reduceToNat, Int.reduceLT, Int.reduceLE]
  · obtain ⟨f1, f2, k1, k2, k3⟩ := newE_zero hE (by omega)
    simp only [go_sem, Int.reduceBEq, Int.reduceBNe, Int.reduceNeg, reduceCtorEq, Nat.reduceEqDiff, Nat.reduceAdd, Nat.reduceLeDiff, Nat.reduceMul, Nat.reduceSub, Int.reduceToNat, Int.reduceLT, Int.reduceLE, aExt0, aExt1]
    have hR0 := Picks.start hM
    refine gC.of (locTotal hV (by have := hR0.len; omega) (fun e he => by have := hR0.bd.s e he; omega)) ?_
    rintro _ m2 ⟨rfl, hx2⟩
    have hV2 := hV.keep hx2
    rw [hR0.total]
    have hW : ∀ w ∈ l', 0 ≤ w.2 := fun w hw => by have := k1 w hw; omega
    have hT := sumW_nn hW
    simp only [go_sem, Int.reduceBEq, Int.reduceBNe, Int.reduceNeg, reduceCtorEq, Nat.reduceEqDiff, Nat.reduceAdd, Nat.reduceLeDiff, Nat.reduceMul, Nat.reduceSub, Int.reduceToNat, Int.reduceLT, Int.reduceLE]
    refine WL.of (fun n e m' => ∃ (t : Nat) (L : List En), (t : Int) ≤ sumW l' ∧ n = (sumW l').toNat - t ∧ e = [(1, v'), (5, .pointer (some ⟨b, 0, none⟩)), (33, .int .i64 (sumW l')), (34, .int .i64 t)] ∧ LocV m m' b L lv ∧ Picks l' L t) (sumW l').toNat
      ⟨0, L, by omega, by omega, by simp only [go_sem, Int.reduceBEq, Int.reduceBNe, Int.reduceNeg, reduceCtorEq, Nat.reduceEqDiff, Nat.reduceAdd, Nat.reduceLeDiff, Nat.reduceMul, Nat.reduceSub, Int.reduceToNat, Int.reduceLT, Int.reduceLE] <;> rfl, hV2, hR0⟩ ?_
    rintro _ _ m3 ⟨t, L, ht, rfl, rfl, hV3, hR⟩
    have hRl := hR.len
    simp only [RB.law15_LocalJust_2, go_sem, Int.reduceBEq, Int.reduceBNe, Int.reduceNeg, reduceCtorEq, Nat.reduceEqDiff, Nat.reduceAdd, Nat.reduceLeDiff, Nat.reduceMul, Nat.reduceSub, Int.reduceToNat, Int.reduceLT, Int.reduceLE]
    refine gT.of (fun g1' => ?_) (fun g1' => ?_) <;> (have g1 := g1'; try simp only [decide_eq_true_eq, decide_eq_false_iff_not, beq_iff_eq, bne_iff_ne, beq_eq_false_iff_ne, ne_eq, Bool.not_eq_true', Bool.not_eq_false', bne_eq_false_iff_eq, Int.not_lt, Int.not_le] at g1)
    · have h0 : 0 < L.length := by
        by_cases h : L.length = 0
        · have : l' = [] := List.eq_nil_of_length_eq_zero (by omega)
          subst this
          simp only [sumW] at g1; omega
        · omega
      obtain ⟨hR', bb, hbb⟩ := hR.pick h0
      have s1 := step1 (show t < 1000000 by omega)
      simp only [go_sem, Int.reduceBEq, Int.reduceBNe, Int.reduceNeg, reduceCtorEq, Nat.reduceEqDiff, Nat.reduceAdd, Nat.reduceLeDiff, Nat.reduceMul, Nat.reduceSub, Int.reduceToNat, Int.reduceLT, Int.reduceLE, g1']
      refine gC.of (locPick (off := []) hV3 (hR.bd.sm (by omega)) (by omega) (.nil rfl rfl) trivial (by simp)) ?_
      rintro _ m4 ⟨⟨hn, -⟩ | ⟨i, hi, rfl⟩, hV4⟩
      · rw [hbb] at hn; cases hn
      · simp only [go_sem, Int.reduceBEq, Int.reduceBNe, Int.reduceNeg, reduceCtorEq, Nat.reduceEqDiff, Nat.reduceAdd, Nat.reduceLeDiff, Nat.reduceMul, Nat.reduceSub, Int.reduceToNat, Int.reduceLT, Int.reduceLE, aExt0, aExt1, s1]
        exact ⟨(sumW l').toNat - (t + 1), by omega, t + 1, _, by omega, rfl, rfl, hV4, hR'⟩
    · have htS : (t : Int) = sumW l' := by omega
      simp only [go_sem, Int.reduceBEq, Int.reduceBNe, Int.reduceNeg, reduceCtorEq, Nat.reduceEqDiff, Nat.reduceAdd, Nat.reduceLeDiff, Nat.reduceMul, Nat.reduceSub, Int.reduceToNat, Int.reduceLT, Int.reduceLE, g1']
      refine WL.of (fun n e m' => ∃ j : Nat, j ≤ l'.length ∧ n = l'.length - j ∧ e = [(1, v'), (5, .pointer (some ⟨b, 0, none⟩)), (9, .int .i64 j)] ∧ LocV m m' b L lv) l'.length
        ⟨0, by omega, by omega, by simp only [go_sem, Int.reduceBEq, Int.reduceBNe, Int.reduceNeg, reduceCtorEq, Nat.reduceEqDiff, Nat.reduceAdd, Nat.reduceLeDiff, Nat.reduceMul, Nat.reduceSub, Int.reduceToNat, Int.reduceLT, Int.reduceLE] <;> rfl, hV3⟩ ?_
      rintro _ _ m5 ⟨j, hj, rfl, rfl, hV5⟩
      have hs5 := hs'.keep hb' hV5.ext
      simp only [RB.law15_LocalJust_1, go_sem, Int.reduceBEq, Int.reduceBNe, Int.reduceNeg, reduceCtorEq, Nat.reduceEqDiff, Nat.reduceAdd, Nat.reduceLeDiff, Nat.reduceMul, Nat.reduceSub, Int.reduceToNat, Int.reduceLT, Int.reduceLE, hs5.len]
      refine gT.of (fun g2' => ?_) (fun g2' => ?_) <;> (have g2 := g2'; try simp only [decide_eq_true_eq, decide_eq_false_iff_not, beq_iff_eq, bne_iff_ne, beq_eq_false_iff_ne, ne_eq, Bool.not_eq_true', Bool.not_eq_false', bne_eq_false_iff_eq, Int.not_lt, Int.not_le] at g2)
      · have hjl : j < l'.length := by omega
        have s1 := step1 (show j < 1000000 by omega)
        obtain ⟨p, o, a1, -, a3, -⟩ := hs5.elem spV_len (k := .i64) hjl
        have c1 : aLoad false 1 m5 (.pointer (some ⟨p, o + 0, none⟩)) = some (.int .i64 l'[j].1) := a3 0 (by omega)
        have hw := List.getElem_mem hjl
        simp only [go_sem, Int.reduceBEq, Int.reduceBNe, Int.reduceNeg, reduceCtorEq, Nat.reduceEqDiff, Nat.reduceAdd, Nat.reduceLeDiff, Nat.reduceMul, Nat.reduceSub, Int.reduceToNat, Int.reduceLT, Int.reduceLE, g2', a1, c1]
        refine gC.of (locGot hV5 (by omega)) ?_
        rintro _ m6 ⟨⟨hno, rfl⟩ | ⟨i, hi, rfl, hu⟩, hx6⟩
        · obtain ⟨e, he, heq⟩ := hR.there hw
          exact absurd heq (hno e he)
        · obtain ⟨p, o, a1, -, a3, -⟩ := (hs5.keep (hb'.keep hV5.ext) hx6).elem spV_len (k := .i64) hjl
          have c2 : aLoad false 1 m6 (.pointer (some ⟨p, o + 1, none⟩)) = some (.int .i64 l'[j].2) := a3 1 (by omega)
          have hjust := fair_just hR.bd.pos hR.fair (by rw [hR.sum, hR.total]; exact htS) hi
          rw [hR.share k2 hw hi hu] at hjust
          have e3 : ((L[i].g : Int) != l'[j].2) = false := by rw [hjust]; exact bne_self_eq_false _
          simp only [go_sem, Int.reduceBEq, Int.reduceBNe, Int.reduceNeg, reduceCtorEq, Nat.reduceEqDiff, Nat.reduceAdd, Nat.reduceLeDiff, Nat.reduceMul, Nat.reduceSub, Int.reduceToNat, Int.reduceLT, Int.reduceLE, aExt0, aExt1, a1, c2, e3, s1]
          exact ⟨l'.length - (j + 1), by omega, j + 1, by omega, rfl, rfl, hV5.keep hx6⟩
      · simp only [go_sem, Int.reduceBEq, Int.reduceBNe, Int.reduceNeg, reduceCtorEq, Nat.reduceEqDiff, Nat.reduceAdd, Nat.reduceLeDiff, Nat.reduceMul, Nat.reduceSub, Int.reduceToNat, Int.reduceLT, Int.reduceLE, g2']
        refine gC.of (ok_spec R.law15_awake) ?_
        rintro _ m_ ⟨rfl, hm_⟩
        replace hm_ := hm_.symm
        subst hm_
        simp only [go_sem, Int.reduceBEq, Int.reduceBNe, Int.reduceNeg, reduceCtorEq, Nat.reduceEqDiff, Nat.reduceAdd, Nat.reduceLeDiff, Nat.reduceMul, Nat.reduceSub, Int.reduceToNat, Int.reduceLT, Int.reduceLE]
end Go.Am


/- LocalPromised. -/
set_option linter.unusedVariables false
set_option linter.unusedSimpArgs false
namespace Go.Am
variable {m : Mem}

theorem LocV.updm {m0 m m' : Mem} {b r : Nat} {L : List En} {lv : Value} (h : LocV m0 m b L lv) (hx : Upd m m' [r]) (h1 : b ≠ r) (h2 : r ∉ vb lv) (h3 : m0.next ≤ r) : LocV m0 m' b L lv :=
  ⟨h.box.upd hx (by simpa using h1), h.own.updq hx (fun c hc => by simp; intro e; subst e; exact h2 hc), hx.ext_of h.ext (by simpa using h3), h.ge, h.off⟩

def offM (M : List (Int × Bool)) (u : Int) : Bool := (lkp M u).getD false

structure PInv (l : List Sp) (L : List En) (t : Nat) (M : List (Int × Bool)) : Prop where
  perm : (keys L).Perm l
  bd : Bd L t
  fair : ∀ i (hi : i < L.length), offM M L[i].u = false → Fair L i ∧ sumN gI L = t

theorem PInv.start {l : List Sp} {L : List En} (h : MadeL l L) : PInv l L 0 [] := by
  have hR := Picks.start h
  exact ⟨hR.perm, hR.bd, fun i hi _ => ⟨hR.fair i hi, hR.sum⟩⟩

theorem PInv.pick {l : List Sp} {L : List En} {t : Nat} {M M' : List (Int × Bool)} {now : List Int} (h : PInv l L t M) (hM : ∀ u, offM M' u = (offM M u || decide (u ∈ now))) : PInv l (pick L (offF now)) (t + 1) M' := by
  have hk := pick_keys (off := offF now) h.bd.pos
  refine ⟨by rw [hk]; exact h.perm, h.bd.pick, fun i hi ho => ?_⟩
  have hi' : i < L.length := by rw [← keys_len hk]; exact hi
  have hu := (keys_get hk hi).1
  rw [hM, Bool.or_eq_false_iff, hu] at ho
  obtain ⟨f1, f2⟩ := h.fair i hi' ho.1
  obtain ⟨g1, g2, -⟩ := pick_fair (off := offF now) h.bd.pos hi' (by show decide _ = false; exact ho.2) f1
  exact ⟨g1, by rw [g2, f2]; omega⟩

/-- Rows of numbers. -/
structure OffsV (m : Mem) (n : Nat) (cs : List Value) (v : Value) : Prop where
  sl : Sl m 1 n cs v
  lt : SlLt m v
  el : ∀ i, i < n → ∃ (vi : Value) (li : List Int), cs[i]? = some vi ∧ Sl m 1 li.length (intsZ li) vi ∧ SlLt m vi ∧ Cut 1 m vi
theorem OffsV.keep {m m' : Mem} {n : Nat} {cs : List Value} {v : Value} (h : OffsV m n cs v) (hx : Ext m m') : OffsV m' n cs v :=
  ⟨h.sl.keep h.lt hx, h.lt.keep hx, fun i hi => by
    obtain ⟨vi, li, a, b, c, d⟩ := h.el i hi
    exact ⟨vi, li, a, b.keep c hx, c.keep hx, d.keep c hx⟩⟩
theorem offs_read {m : Mem} {v : Value} (h : Rd m (.sl [.sl [.int .i64]]) v) : ∃ n cs, OffsV m n cs v := by
  simp only [Rd] at h
  obtain ⟨n, cs, h1, h2, h3, h4, -⟩ := h
  refine ⟨n, cs, h1, h2, fun i hi => ?_⟩
  have hR := h4 i hi
  obtain ⟨c, r, hcr, k1, k2⟩ := hR.one
  have hv : cs[i]? = some c := by
    have := congrArg (fun l : List Value => l[0]?) hcr
    simp at this
    exact this
  obtain ⟨li, a, b, -⟩ := ints_read k1
  exact ⟨c, li, hv, a, b, k1.free.cut⟩

theorem aSub_ext {u : Nat} {m m' : Mem} {v : Value} {lo hi mx : Option Value} (hx : Ext m m') (hb : SlLt m v) : aSub u m' v lo hi mx = aSub u m v lo hi mx := by
  unfold aSub
  split
  · rfl
  · rename_i b o n c
    have : unitOk u m' b = unitOk u m b := by unfold unitOk; rw [hx.same b hb]
    rw [this]
  · rfl

/-- Those who are off are put down. -/
theorem Promised_off {m0 : Mem} {b r t : Nat} {L : List En} {lv nv v1 v2 v3 : Value} {now : List Int} {M : List (Int × Bool)} (hV : LocV m0 m b L lv) (hM : Mp m r vB M) (hbr : b ≠ r) (hrv : r ∉ vb lv) (h0r : m0.next ≤ r) (hs : Sl m0 1 now.length (intsZ now) nv) (hb : SlLt m0 nv) (hl : now.length ≤ 1000) :
    WL R [1, 2, 3, 9, 11, 12, 13, 14] RB.law15_LocalPromised_2 [(1, v1), (2, v2), (3, v3), (9, .pointer (some ⟨b, 0, none⟩)), (11, .map (some r)), (12, .int .i64 t), (13, nv), (14, .int .i64 0)] m fun x e' m' =>
      x = .exit 2 ∧ (∃ rest, e' = (1, v1) :: (2, v2) :: (3, v3) :: (9, .pointer (some ⟨b, 0, none⟩)) :: (11, .map (some r)) :: (12, .int .i64 t) :: (13, nv) :: rest) ∧ LocV m0 m' b L lv ∧ ∃ M', Mp m' r vB M' ∧ ∀ u, offM M' u = (offM M u || decide (u ∈ now)) := by
  refine WL.of (fun n e m' => ∃ (j : Nat) (M' : List (Int × Bool)), j ≤ now.length ∧ n = now.length - j ∧ e = [(1, v1), (2, v2), (3, v3), (9, .pointer (some ⟨b, 0, none⟩)), (11, .map (some r)), (12, .int .i64 t), (13, nv), (14, .int .i64 j)] ∧ LocV m0 m' b L lv ∧ Mp m' r vB M' ∧ ∀ u, offM M' u = (offM M u || decide (u ∈ now.take j))) now.length
    ⟨0, M, by omega, by omega, by simp only [go_sem, Int.reduceBEq, Int.reduceBNe, Int.reduceNeg, reduceCtorEq, Nat.reduceEqDiff, Nat.reduceAdd, Nat.reduceLeDiff, Nat.reduceMul, Nat.reduceSub, Int.reduceToNat, Int.reduceLT, Int.reduceLE] <;> rfl, hV, hM, fun u => by simp⟩ ?_
  rintro _ _ m5 ⟨j, M', hj, rfl, rfl, hV5, hM5, hMM⟩
  have hs5 := hs.keep hb hV5.ext
  simp only [RB.law15_LocalPromised_2, go_sem, Int.reduceBEq, Int.reduceBNe, Int.reduceNeg, reduceCtorEq, Nat.reduceEqDiff, Nat.reduceAdd, Nat.reduceLeDiff, Nat.reduceMul, Nat.reduceSub, Int.reduceToNat, Int.reduceLT, Int.reduceLE, hs5.len]
  refine gT.of (fun g2' => ?_) (fun g2' => ?_) <;> (have g2 := g2'; try simp only [decide_eq_true_eq, decide_eq_false_iff_not, beq_iff_eq, bne_iff_ne, beq_eq_false_iff_ne, ne_eq, Bool.not_eq_true', Bool.not_eq_false', bne_eq_false_iff_eq, Int.not_lt, Int.not_le] at g2)
  · have hjl : j < now.length := by omega
    have s1 := step1 (show j < 1000000 by omega)
    obtain ⟨p, a1, a2⟩ := hs5.get (k := .i64) hjl
    rw [intsZ_get hjl] at a2
    have pt := hM5.put (x := now[j]) (a := true)
    simp only [vB] at pt
    simp only [go_sem, Int.reduceBEq, Int.reduceBNe, Int.reduceNeg, reduceCtorEq, Nat.reduceEqDiff, Nat.reduceAdd, Nat.reduceLeDiff, Nat.reduceMul, Nat.reduceSub, Int.reduceToNat, Int.reduceLT, Int.reduceLE, g2', a1, a2, pt, s1]
    have hu : Upd m5 (m5.set r (some (.map (mpL vB (updL M' now[j] true))))) [r] := Upd.set (by simp)
    refine ⟨now.length - (j + 1), by omega, j + 1, updL M' now[j] true, by omega, rfl, rfl, hV5.updm hu hbr hrv h0r, hM5.self, fun u => ?_⟩
    unfold offM
    rw [lkp_upd, List.take_succ_eq_append_getElem hjl]
    by_cases e : u = now[j]
    · rw [if_pos e]
      have : decide (u ∈ now.take j ++ [now[j]]) = true := decide_eq_true (List.mem_append.2 (.inr (by rw [e]; exact List.mem_singleton.2 rfl)))
      rw [this]; simp
    · rw [if_neg e]
      have h1 := hMM u
      unfold offM at h1
      rw [h1]
      congr 1
      rw [decide_eq_decide, List.mem_append, List.mem_singleton]
      exact ⟨.inl, fun h => h.elim id fun h => absurd h e⟩
  · have : j = now.length := by omega
    subst this
    rw [List.take_length] at hMM
    simp only [go_sem, Int.reduceBEq, Int.reduceBNe, Int.reduceNeg, reduceCtorEq, Nat.reduceEqDiff, Nat.reduceAdd, Nat.reduceLeDiff, Nat.reduceMul, Nat.reduceSub, Int.reduceToNat, Int.reduceLT, Int.reduceLE, g2']
    exact ⟨⟨_, rfl⟩, hV5, M', hM5, hMM⟩

set_option maxHeartbeats 4000000 in
theorem LocalPromised_spec {l : List Sp} {v ov : Value} {f k : Int} {on : Nat} {ocs : List Value} (hs : Sl m 2 l.length (l.flatMap spV) v) (hb : SlLt m v) (hc : Cut 2 m v) (hr : ∀ w ∈ l, inR w.1 ∧ inR w.2) (hO : OffsV m on ocs ov) (hk0 : 0 ≤ k) (hk1 : k ≤ 255) : WC R F.law15_LocalPromised [.int .i64 f, v, ov, .int .u8 k] m fun r _ => r = .bool true := by
  refine WC.of R.law15_LocalPromised rfl ?_
  simp only [RC.law15_LocalPromised, go_sem, Int.reduceBEq, Int.reduceBNe, Int.reduceNeg, reduceCtorEq, Nat.reduceEqDiff, Nat.reduceAdd, Nat.reduceLeDiff, Nat.reduceMul, Nat.reduceSub, Int.reduceToNat, Int.reduceLT, Int.reduceLE, hs.len]
  have e : (if (80 : Int) < l.length then (80 : Int) else l.length) = ((min l.length 80 : Nat) : Int) := by
    split <;> omega
  obtain ⟨v', a1, hs', hb', hL⟩ := cutTo (N := 80) hs hb hc
  have hrL : ∀ w ∈ l.take 80, inR w.2 := fun w hw => (hr w (List.mem_of_mem_take hw)).2
  generalize l.take 80 = l' at hs' hL hrL
  simp only [go_sem, Int.reduceBEq, Int.reduceBNe, Int.reduceNeg, reduceCtorEq, Nat.reduceEqDiff, Nat.reduceAdd, Nat.reduceLeDiff, Nat.reduceMul, Nat.reduceSub, Int.reduceToNat, Int.reduceLT, Int.reduceLE, e, a1]
  refine gC.of (locMade hs' hb' hL hrL) ?_
  rintro _ m1 (⟨hE, rfl, hx⟩ | ⟨hE, b, L, lv, rfl, hV, hM⟩)
  · simp only [go_sem, Int.reduceBEq, Int.reduceBNe, Int.reduceNeg, reduceCtorEq, Nat.reduceEqDiff, Nat.reduceAdd, Nat.reduceLeDiff, Nat.reduceMul, Nat.reduceSub, Int.reduceToNat, Int.reduceLT, Int.reduceLE, aExt0, aExt1]
    refine gC.of (ref15Check (hs'.keep hb' hx) (by omega) hrL) ?_
    rintro _ _ ⟨rfl, hm⟩
    subst hm
    have e1 : (newE f l' != 0) = true := by rw [bne_iff_ne]; exact hE
    simp only [go_sem, Int.reduceBEq, Int.reduceBNe, Int.reduceNeg, reduceCtorEq, Nat.reduceEqDiff, Nat.reduceAdd, Nat.reduceLeDiff, Nat.reduceMul, Nat.reduceSub, Int.reduceToNat, Int.reduceLT, Int.reduceLE, e1]
    refine gC.of (ok_spec R.law15_awake) ?_
    rintro _ m_ ⟨rfl, hm_⟩
    replace hm_ := hm_.symm
    subst hm_
    simp only [go_sem, Int.reduceBEq, Int.reduceBNe, Int.reduceNeg, reduceCtorEq, Nat.reduceEqDiff, Nat.reduceAdd, Nat.reduceLeDiff, Nat.reduceMul, Nat.reduceSub, Int.reduceToNat, Int.reduceLT, Int.reduceLE]
  · obtain ⟨f1, f2, k1, k2, k3⟩ := newE_zero hE (by omega)
    simp only [go_sem, Int.reduceBEq, Int.reduceBNe, Int.reduceNeg, reduceCtorEq, Nat.reduceEqDiff, Nat.reduceAdd, Nat.reduceLeDiff, Nat.reduceMul, Nat.reduceSub, Int.reduceToNat, Int.reduceLT, Int.reduceLE, aExt0, aExt1]
    have hR0 := PInv.start hM
    have hT := (Picks.start hM).total
    have hlen0 := (Picks.start hM).len
    have hk00 := hM.perm
    have hx2 : Ext m1 (m1.new (.map [])) := Ext.new
    have hMp : Mp (m1.new (.map [])) m1.next vB [] := Mp.new
    have hbr : b ≠ m1.next := by have := hV.box.lt; omega
    have hrv : m1.next ∉ vb lv := fun h => by have := SlLt.vb_iff.1 hV.own.lt _ h; omega
    have h0r : m.next ≤ m1.next := hV.ext.next
    have hV2 := hV.keep hx2
    generalize m1.new (.map []) = m2 at hx2 hMp hV2 ⊢
    have hW : ∀ w ∈ l', 0 ≤ w.2 := fun w hw => by have := k1 w hw; omega
    have hS0 := sumW_nn hW
    refine WL.of (fun n e m' => ∃ (t : Nat) (L' : List En) (M : List (Int × Bool)), t ≤ 200 ∧ n = 200 - t ∧ e = [(1, v'), (2, ov), (3, .int .u8 k), (9, .pointer (some ⟨b, 0, none⟩)), (11, .map (some m1.next)), (12, .int .i64 t)] ∧ LocV m m' b L' lv ∧ Mp m' m1.next vB M ∧ PInv l' L' t M) 200
      ⟨0, L, [], by omega, by omega, by simp only [go_sem, Int.reduceBEq, Int.reduceBNe, Int.reduceNeg, reduceCtorEq, Nat.reduceEqDiff, Nat.reduceAdd, Nat.reduceLeDiff, Nat.reduceMul, Nat.reduceSub, Int.reduceToNat, Int.reduceLT, Int.reduceLE] <;> rfl, hV2, hMp, hR0⟩ ?_
    rintro _ _ m3 ⟨t, L', M, ht, rfl, rfl, hV3, hM3, hP⟩
    have hPl : L'.length = l'.length := by have := hP.perm.length_eq; simpa [keys] using this
    have hSum : sumN sI L' = sumW l' := by rw [← sumW_wts, wts_keys]; exact sumW_perm hP.perm
    simp only [RB.law15_LocalPromised_3, go_sem, Int.reduceBEq, Int.reduceBNe, Int.reduceNeg, reduceCtorEq, Nat.reduceEqDiff, Nat.reduceAdd, Nat.reduceLeDiff, Nat.reduceMul, Nat.reduceSub, Int.reduceToNat, Int.reduceLT, Int.reduceLE]
    refine gC.of (locTotal hV3 (by omega) (fun e he => by have := hP.bd.s e he; omega)) ?_
    rintro _ m4 ⟨rfl, hx4⟩
    rw [hSum]
    have hwk : IntKind.wrap .i64 k = k := wrap_i64 (by omega) (by omega)
    have hT1 : k.tmod 40 < 40 := Int.tmod_lt_of_pos _ (by omega)
    have hT0 : 0 ≤ k.tmod 40 := Int.tmod_nonneg _ (by omega)
    have hV4 := hV3.keep hx4
    have hM4 := hM3.keep hx4
    simp only [go_sem, Int.reduceBEq, Int.reduceBNe, Int.reduceNeg, reduceCtorEq, Nat.reduceEqDiff, Nat.reduceAdd, Nat.reduceLeDiff, Nat.reduceMul, Nat.reduceSub, Int.reduceToNat, Int.reduceLT, Int.reduceLE, hwk]
    generalize k.tmod 40 = T at hT1 hT0
    have w1 : IntKind.wrap .i64 (sumW l' + T) = sumW l' + T := wrap_i64 (by omega) (by omega)
    refine ⟨by omega, ?_⟩
    rw [w1]
    have hO4 := hO.keep hV4.ext
    refine gT.of (fun g1' => ?_) (fun g1' => ?_) <;> (have g1 := g1'; try simp only [decide_eq_true_eq, decide_eq_false_iff_not, beq_iff_eq, bne_iff_ne, beq_eq_false_iff_ne, ne_eq, Bool.not_eq_true', Bool.not_eq_false', bne_eq_false_iff_eq, Int.not_lt, Int.not_le] at g1)
    · have s1 := step1 (show t < 1000000 by omega)
      simp only [go_sem, Int.reduceBEq, Int.reduceBNe, Int.reduceNeg, reduceCtorEq, Nat.reduceEqDiff, Nat.reduceAdd, Nat.reduceLeDiff, Nat.reduceMul, Nat.reduceSub, Int.reduceToNat, Int.reduceLT, Int.reduceLE, g1', hO4.sl.len]
      refine gT_mid (fun e m' => m' = m4 ∧ ∃ (nv : Value) (now : List Int) (rest : Env), e = (1, v') :: (2, ov) :: (3, .int .u8 k) :: (9, .pointer (some ⟨b, 0, none⟩)) :: (11, .map (some m1.next)) :: (12, .int .i64 t) :: (13, nv) :: rest ∧ Sl m 1 now.length (intsZ now) nv ∧ SlLt m nv ∧ now.length ≤ 40) (fun g => ?_) (fun g => ?_) ?_
      · have htn : t < on := by simp only [decide_eq_true_eq] at g; omega
        obtain ⟨vi, li, e1, e2, e3, e4⟩ := hO.el t htn
        obtain ⟨p, p1, p2⟩ := hO4.sl.get (k := .i64) htn
        rw [e1] at p2
        have hl2 := (e2.keep e3 hV4.ext).len
        have em : (if (40 : Int) < li.length then (40 : Int) else li.length) = ((min li.length 40 : Nat) : Int) := by
          split <;> omega
        obtain ⟨nv, q1, q2, q3, -⟩ := e2.to e4 (k := .i64) (i := min li.length 40) (by omega)
        rw [← aSub_ext hV4.ext e3] at q1
        have hlt : (li.take 40).length = min li.length 40 := by rw [List.length_take]; omega
        have htk : (intsZ li).take (min li.length 40 * 1) = intsZ (li.take 40) := by
          rw [Nat.mul_one]; unfold intsZ
          rw [List.map_take, ← List.take_take]
          exact List.take_of_length_le (by rw [List.length_take, List.length_map]; omega)
        rw [htk, ← hlt] at q2
        simp only [go_sem, Int.reduceBEq, Int.reduceBNe, Int.reduceNeg, reduceCtorEq, Nat.reduceEqDiff, Nat.reduceAdd, Nat.reduceLeDiff, Nat.reduceMul, Nat.reduceSub, Int.reduceToNat, Int.reduceLT, Int.reduceLE, p1, p2, hl2, em, q1]
        exact ⟨nv, li.take 40, _, rfl, q2, q3 e3, by rw [hlt]; omega⟩
      · simp only [go_sem, Int.reduceBEq, Int.reduceBNe, Int.reduceNeg, reduceCtorEq, Nat.reduceEqDiff, Nat.reduceAdd, Nat.reduceLeDiff, Nat.reduceMul, Nat.reduceSub, Int.reduceToNat, Int.reduceLT, Int.reduceLE]
        exact ⟨.slice none 0 0, [], _, rfl, .nil rfl rfl, trivial, by simp⟩
      · rintro e' m' ⟨rfl, nv, now, rest, rfl, n1, n2, n3⟩
        simp only [go_sem, Int.reduceBEq, Int.reduceBNe, Int.reduceNeg, reduceCtorEq, Nat.reduceEqDiff, Nat.reduceAdd, Nat.reduceLeDiff, Nat.reduceMul, Nat.reduceSub, Int.reduceToNat, Int.reduceLT, Int.reduceLE]
        refine WL.mono (Promised_off hV4 hM4 hbr hrv h0r n1 n2 (by omega)) ?_
        rintro _ _ m5 ⟨rfl, ⟨rest, rfl⟩, hV5, M', hM5, hMM⟩
        simp only [go_sem, Int.reduceBEq, Int.reduceBNe, Int.reduceNeg, reduceCtorEq, Nat.reduceEqDiff, Nat.reduceAdd, Nat.reduceLeDiff, Nat.reduceMul, Nat.reduceSub, Int.reduceToNat, Int.reduceLT, Int.reduceLE]
        refine gC.of (locPickU hV5 (hP.bd.sm (by omega)) (by omega) (n1.keep n2 hV5.ext) (n2.keep hV5.ext) (by omega)) ?_
        rintro _ m6 ⟨-, hV6, hu6⟩
        simp only [go_sem, Int.reduceBEq, Int.reduceBNe, Int.reduceNeg, reduceCtorEq, Nat.reduceEqDiff, Nat.reduceAdd, Nat.reduceLeDiff, Nat.reduceMul, Nat.reduceSub, Int.reduceToNat, Int.reduceLT, Int.reduceLE, s1]
        exact ⟨200 - (t + 1), by omega, t + 1, _, M', by omega, rfl, rfl, hV6, hM5.upd hu6 hrv, hP.pick hMM⟩
    · simp only [go_sem, Int.reduceBEq, Int.reduceBNe, Int.reduceNeg, reduceCtorEq, Nat.reduceEqDiff, Nat.reduceAdd, Nat.reduceLeDiff, Nat.reduceMul, Nat.reduceSub, Int.reduceToNat, Int.reduceLT, Int.reduceLE, g1']
      have hge : sumW l' ≤ (t : Int) := by omega
      refine WL.of (fun n e m' => ∃ j : Nat, j ≤ l'.length ∧ n = l'.length - j ∧ e = [(1, v'), (9, .pointer (some ⟨b, 0, none⟩)), (11, .map (some m1.next)), (15, .int .i64 j)] ∧ LocV m m' b L' lv ∧ Mp m' m1.next vB M) l'.length
        ⟨0, by omega, by omega, by simp only [go_sem, Int.reduceBEq, Int.reduceBNe, Int.reduceNeg, reduceCtorEq, Nat.reduceEqDiff, Nat.reduceAdd, Nat.reduceLeDiff, Nat.reduceMul, Nat.reduceSub, Int.reduceToNat, Int.reduceLT, Int.reduceLE] <;> rfl, hV4, hM4⟩ ?_
      rintro _ _ m5 ⟨j, hj, rfl, rfl, hV5, hM5⟩
      have hs5 := hs'.keep hb' hV5.ext
      simp only [RB.law15_LocalPromised_1, go_sem, Int.reduceBEq, Int.reduceBNe, Int.reduceNeg, reduceCtorEq, Nat.reduceEqDiff, Nat.reduceAdd, Nat.reduceLeDiff, Nat.reduceMul, Nat.reduceSub, Int.reduceToNat, Int.reduceLT, Int.reduceLE, hs5.len]
      refine gT.of (fun g2' => ?_) (fun g2' => ?_) <;> (have g2 := g2'; try simp only [decide_eq_true_eq, decide_eq_false_iff_not, beq_iff_eq, bne_iff_ne, beq_eq_false_iff_ne, ne_eq, Bool.not_eq_true', Bool.not_eq_false', bne_eq_false_iff_eq, Int.not_lt, Int.not_le] at g2)
      · have hjl : j < l'.length := by omega
        have s1 := step1 (show j < 1000000 by omega)
        obtain ⟨p, o, a1, -, a3, -⟩ := hs5.elem spV_len (k := .i64) hjl
        have c1 : aLoad false 1 m5 (.pointer (some ⟨p, o + 0, none⟩)) = some (.int .i64 l'[j].1) := a3 0 (by omega)
        have hw := List.getElem_mem hjl
        simp only [go_sem, Int.reduceBEq, Int.reduceBNe, Int.reduceNeg, reduceCtorEq, Nat.reduceEqDiff, Nat.reduceAdd, Nat.reduceLeDiff, Nat.reduceMul, Nat.reduceSub, Int.reduceToNat, Int.reduceLT, Int.reduceLE, g2', a1, c1]
        refine gC.of (locGot hV5 (by omega)) ?_
        rintro _ m6 ⟨⟨hno, rfl⟩ | ⟨i, hi, rfl, hu⟩, hx6⟩
        · obtain ⟨e, he, heq⟩ := List.mem_map.1 (hP.perm.mem_iff.2 hw)
          exact absurd (congrArg Prod.fst heq) (hno e he)
        · obtain ⟨p, o, a1, -, a3, -⟩ := (hs5.keep (hb'.keep hV5.ext) hx6).elem spV_len (k := .i64) hjl
          have c1 : aLoad false 1 m6 (.pointer (some ⟨p, o + 0, none⟩)) = some (.int .i64 l'[j].1) := a3 0 (by omega)
          have c2 : aLoad false 1 m6 (.pointer (some ⟨p, o + 1, none⟩)) = some (.int .i64 l'[j].2) := a3 1 (by omega)
          have hM6 := hM5.keep hx6
          have lk := hM6.look (x := l'[j].1) (z := false)
          simp only [vB] at lk
          have hsh : L'[i].s = l'[j].2 := by
            have h1 : (L'[i].u, L'[i].s) ∈ l' := hP.perm.mem_iff.1 (List.mem_map.2 ⟨L'[i], List.getElem_mem hi, rfl⟩)
            exact congrArg Prod.snd (same_unit k2 h1 hw hu)
          simp only [go_sem, Int.reduceBEq, Int.reduceBNe, Int.reduceNeg, reduceCtorEq, Nat.reduceEqDiff, Nat.reduceAdd, Nat.reduceLeDiff, Nat.reduceMul, Nat.reduceSub, Int.reduceToNat, Int.reduceLT, Int.reduceLE, aExt0, aExt1, a1, c1, lk]
          cases hoff : (lkp M l'[j].1).getD false with
          | true =>
            simp only [go_sem, Int.reduceBEq, Int.reduceBNe, Int.reduceNeg, reduceCtorEq, Nat.reduceEqDiff, Nat.reduceAdd, Nat.reduceLeDiff, Nat.reduceMul, Nat.reduceSub, Int.reduceToNat, Int.reduceLT, Int.reduceLE, s1]
            exact ⟨l'.length - (j + 1), by omega, j + 1, by omega, rfl, rfl, hV5.keep hx6, hM6⟩
          | false =>
            obtain ⟨hf, hsum⟩ := hP.fair i hi (by unfold offM; rw [hu]; exact hoff)
            have hfs := fair_share hP.bd.pos hi hf (by rw [hsum, hSum]; exact hge)
            have e3 : decide ((L'[i].g : Int) < l'[j].2) = false := decide_eq_false (by rw [← hsh]; omega)
            simp only [go_sem, Int.reduceBEq, Int.reduceBNe, Int.reduceNeg, reduceCtorEq, Nat.reduceEqDiff, Nat.reduceAdd, Nat.reduceLeDiff, Nat.reduceMul, Nat.reduceSub, Int.reduceToNat, Int.reduceLT, Int.reduceLE, a1, c2, e3, s1]
            exact ⟨l'.length - (j + 1), by omega, j + 1, by omega, rfl, rfl, hV5.keep hx6, hM6⟩
      · simp only [go_sem, Int.reduceBEq, Int.reduceBNe, Int.reduceNeg, reduceCtorEq, Nat.reduceEqDiff, Nat.reduceAdd, Nat.reduceLeDiff, Nat.reduceMul, Nat.reduceSub, Int.reduceToNat, Int.reduceLT, Int.reduceLE, g2']
        refine gC.of (ok_spec R.law15_awake) ?_
        rintro _ m_ ⟨rfl, hm_⟩
        replace hm_ := hm_.symm
        subst hm_
        simp only [go_sem, Int.reduceBEq, Int.reduceBNe, Int.reduceNeg, reduceCtorEq, Nat.reduceEqDiff, Nat.reduceAdd, Nat.reduceLeDiff, Nat.reduceMul, Nat.reduceSub, Int.reduceToNat, Int.reduceLT, Int.reduceLE]
end Go.Am


/- LocalPlays. -/
set_option linter.unusedVariables false
set_option linter.unusedSimpArgs false
namespace Go.Am
variable {m : Mem}

theorem gp_cut {R : Nat → Option FEnt} {a b : RCode} {e : Env} {Q : Ex → Env → Mem → Prop} (K : Env → Mem → Prop) (h1 : gp R a e m (fun x e' m' => x = .normal ∧ K e' m')) (h2 : ∀ e' m', K e' m' → gp R b e' m' Q) : gp R (.seq a b) e m Q :=
  wp.mono (c := a) (fun x e m ⟨hx, hk⟩ => by subst hx; exact h2 e m hk) h1
theorem gp_mono {R : Nat → Option FEnt} {a : RCode} {e : Env} {Q Q' : Ex → Env → Mem → Prop} (h1 : gp R a e m Q') (h2 : ∀ x e' m', Q' x e' m' → Q x e' m') : gp R a e m Q := wp.mono (c := a) h2 h1

theorem refSame8 {l k : List Sp} {v w : Value} (hs : Sl m 2 l.length (l.flatMap spV) v) (ht : Sl m 2 k.length (k.flatMap spV) w) (hl : l.length < 1000000) (hk : k.length < 1000000) :
    WC R F.ref08_Same [v, w] m fun r m' => r = .bool (decide (l = k)) ∧ m' = m := by
  refine WC.of R.ref08_Same rfl ?_
  simp only [RC.ref08_Same, go_sem, Int.reduceBEq, Int.reduceBNe, Int.reduceNeg, reduceCtorEq, Nat.reduceEqDiff, Nat.reduceAdd, Nat.reduceLeDiff, Nat.reduceMul, Nat.reduceSub, Int.reduceToNat, Int.reduceLT, Int.reduceLE, hs.len, ht.len]
  refine gT.of (fun h => ?_) (fun h => ?_)
  · simp only [bne_iff_ne] at h
    have : l ≠ k := by rintro rfl; exact h rfl
    try simp only [go_sem, Int.reduceBEq, Int.reduceBNe, Int.reduceNeg, reduceCtorEq, Nat.reduceEqDiff, Nat.reduceAdd, Nat.reduceLeDiff, Nat.reduceMul, Nat.reduceSub, Int.reduceToNat, Int.reduceLT, Int.reduceLE, load_w, load_a, store_b, idxS_b, set_blk, new_blk, set_next, new_next, len_s, ldW_c, ldA_c, stB_c, toArr_one, size_one, toList_toArr, size_toArr, List.length_cons, List.length_nil, List.getElem?_cons_zero, List.getElem?_cons_succ, Nat.zero_add, Nat.add_zero]
    simp [this]
  · have hlk' : (l.length : Int) = k.length := by simpa using h
    have hlk : l.length = k.length := by omega
    try simp only [go_sem, Int.reduceBEq, Int.reduceBNe, Int.reduceNeg, reduceCtorEq, Nat.reduceEqDiff, Nat.reduceAdd, Nat.reduceLeDiff, Nat.reduceMul, Nat.reduceSub, Int.reduceToNat, Int.reduceLT, Int.reduceLE, load_w, load_a, store_b, idxS_b, set_blk, new_blk, set_next, new_next, len_s, ldW_c, ldA_c, stB_c, toArr_one, size_one, toList_toArr, size_toArr, List.length_cons, List.length_nil, List.getElem?_cons_zero, List.getElem?_cons_succ, Nat.zero_add, Nat.add_zero, h]
    refine WL.of (fun n e m' => ∃ i : Nat, i ≤ l.length ∧ n = l.length - i ∧ e = [(0, v), (1, w), (5, .int .i64 i)] ∧ (∀ j (h1 : j < l.length) (h2 : j < k.length), j < i → l[j] = k[j]) ∧ m' = m) l.length
      ⟨0, by omega, by omega, by simp only [go_sem, Int.reduceBEq, Int.reduceBNe, Int.reduceNeg, reduceCtorEq, Nat.reduceEqDiff, Nat.reduceAdd, Nat.reduceLeDiff, Nat.reduceMul, Nat.reduceSub, Int.reduceToNat, Int.reduceLT, Int.reduceLE] <;> rfl, fun _ _ _ h => by omega, rfl⟩ ?_
    rintro _ _ _ ⟨i, hi, rfl, rfl, hj, rfl⟩
    simp only [RB.ref08_Same_1, go_sem, Int.reduceBEq, Int.reduceBNe, Int.reduceNeg, reduceCtorEq, Nat.reduceEqDiff, Nat.reduceAdd, Nat.reduceLeDiff, Nat.reduceMul, Nat.reduceSub, Int.reduceToNat, Int.reduceLT, Int.reduceLE, hs.len]
    refine gT.of (fun h2 => ?_) (fun h2 => ?_)
    · simp only [decide_eq_true_eq] at h2
      have hil : i < l.length := by omega
      have hik : i < k.length := by omega
      obtain ⟨b, o, a1, a2, a3, a4⟩ := hs.elem spV_len (k := .i64) hil
      obtain ⟨b', o', c1, c2, c3, c4⟩ := ht.elem spV_len (k := .i64) hik
      simp only [spV] at a2 c2
      try simp only [go_sem, Int.reduceBEq, Int.reduceBNe, Int.reduceNeg, reduceCtorEq, Nat.reduceEqDiff, Nat.reduceAdd, Nat.reduceLeDiff, Nat.reduceMul, Nat.reduceSub, Int.reduceToNat, Int.reduceLT, Int.reduceLE, load_w, load_a, store_b, idxS_b, set_blk, new_blk, set_next, new_next, len_s, ldW_c, ldA_c, stB_c, toArr_one, size_one, toList_toArr, size_toArr, List.length_cons, List.length_nil, List.getElem?_cons_zero, List.getElem?_cons_succ, Nat.zero_add, Nat.add_zero, a1, a2, c1, c2]
      refine gT.of (fun h3 => ?_) (fun h3 => ?_)
      · have : l ≠ k := by rintro rfl; simp at h3
        try simp only [go_sem, Int.reduceBEq, Int.reduceBNe, Int.reduceNeg, reduceCtorEq, Nat.reduceEqDiff, Nat.reduceAdd, Nat.reduceLeDiff, Nat.reduceMul, Nat.reduceSub, Int.reduceToNat, Int.reduceLT, Int.reduceLE, load_w, load_a, store_b, idxS_b, set_blk, new_blk, set_next, new_next, len_s, ldW_c, ldA_c, stB_c, toArr_one, size_one, toList_toArr, size_toArr, List.length_cons, List.length_nil, List.getElem?_cons_zero, List.getElem?_cons_succ, Nat.zero_add, Nat.add_zero]
        simp [this]
      · have h4 : l[i] = k[i] := by
          apply Prod.ext <;> simp at h3 <;> omega
        try simp only [go_sem, Int.reduceBEq, Int.reduceBNe, Int.reduceNeg, reduceCtorEq, Nat.reduceEqDiff, Nat.reduceAdd, Nat.reduceLeDiff, Nat.reduceMul, Nat.reduceSub, Int.reduceToNat, Int.reduceLT, Int.reduceLE, load_w, load_a, store_b, idxS_b, set_blk, new_blk, set_next, new_next, len_s, ldW_c, ldA_c, stB_c, toArr_one, size_one, toList_toArr, size_toArr, List.length_cons, List.length_nil, List.getElem?_cons_zero, List.getElem?_cons_succ, Nat.zero_add, Nat.add_zero, h3, step1 (show i < 1000000 by omega)]
        refine ⟨l.length - (i + 1), by omega, i + 1, by omega, rfl, rfl, ?_⟩
        intro j g1 g2 g3
        by_cases e : j = i
        · subst e; exact h4
        · exact hj j g1 g2 (by omega)
    · simp only [decide_eq_false_iff_not] at h2
      have : l = k := List.ext_getElem hlk fun j g1 g2 => hj j g1 g2 (by omega)
      try simp only [go_sem, Int.reduceBEq, Int.reduceBNe, Int.reduceNeg, reduceCtorEq, Nat.reduceEqDiff, Nat.reduceAdd, Nat.reduceLeDiff, Nat.reduceMul, Nat.reduceSub, Int.reduceToNat, Int.reduceLT, Int.reduceLE, load_w, load_a, store_b, idxS_b, set_blk, new_blk, set_next, new_next, len_s, ldW_c, ldA_c, stB_c, toArr_one, size_one, toList_toArr, size_toArr, List.length_cons, List.length_nil, List.getElem?_cons_zero, List.getElem?_cons_succ, Nat.zero_add, Nat.add_zero]
      simp [this]

/-- Calls of a local. -/
structure ActsV (m : Mem) (n : Nat) (cs : List Value) (v : Value) : Prop where
  sl : Sl m 3 n cs v
  lt : SlLt m v
  el : ∀ i, i < n → ∃ (k : Int) (vi : Value) (li : List Int) (u : Int), (cs.drop (i * 3)).take 3 = [.int .i64 k, vi, .int .i64 u] ∧ Sl m 1 li.length (intsZ li) vi ∧ SlLt m vi ∧ Cut 1 m vi
theorem ActsV.keep {m m' : Mem} {n : Nat} {cs : List Value} {v : Value} (h : ActsV m n cs v) (hx : Ext m m') : ActsV m' n cs v :=
  ⟨h.sl.keep h.lt hx, h.lt.keep hx, fun i hi => by
    obtain ⟨k, vi, li, u, a, b, c, d⟩ := h.el i hi
    exact ⟨k, vi, li, u, a, b.keep c hx, c.keep hx, d.keep c hx⟩⟩
theorem acts_read {m : Mem} {v : Value} (h : Rd m (.sl [.int .i64, .sl [.int .i64], .int .i64]) v) : ∃ n cs, ActsV m n cs v := by
  simp only [Rd] at h
  obtain ⟨n, cs, h1, h2, h3, h4, -⟩ := h
  refine ⟨n, cs, h1, h2, fun i hi => ?_⟩
  obtain ⟨c, r, hcr, k1, k2⟩ := (h4 i hi).one
  obtain ⟨c2, r2, rfl, k3, k4⟩ := k2.one
  obtain ⟨c3, r3, rfl, k5, k6⟩ := k4.one
  cases k6.none
  obtain ⟨k, rfl, -⟩ := k1.i64
  obtain ⟨u, rfl, -⟩ := k5.i64
  obtain ⟨li, a, b, -⟩ := ints_read k3
  exact ⟨k, c2, li, u, hcr, a, b, k3.free.cut⟩

theorem Cut.upd {u : Nat} {m m' : Mem} {v : Value} {fp : List Nat} (h : Cut u m v) (hb : SlLt m v) (ho : SlOff fp v) (hx : Upd m m' fp) : Cut u m' v := by
  intro b o n c e
  have := h b o n c e
  subst e
  unfold unitOk at this ⊢
  rw [hx.same b hb ho]; exact this
theorem RefL.upd {m m' : Mem} {L : List En} {wv gv : Value} {fp : List Nat} (h : RefL m L wv gv) (hx : Upd m m' fp) (hw : ∀ x ∈ vb wv, x ∉ fp) (hg : ∀ x ∈ vb gv, x ∉ fp) : RefL m' L wv gv :=
  have hw := SlOff.vb_iff.2 hw
  have hg := SlOff.vb_iff.2 hg
  ⟨h.w.upd h.wl hw hx, h.wl.upd hx, h.wc.upd h.wl hw hx, h.g.upd h.gl hg hx, h.gl.upd hx, h.gc.upd h.gl hg hx⟩

/-- The local and the reference's, side by side. -/
structure PlI (m0 m : Mem) (b c K : Nat) (L : List En) (lv wv gv : Value) : Prop where
  loc : LocV m0 m b L lv
  box : Bk m c [wv, gv] 2
  ref : RefL m L wv gv
  bK : b < K
  lK : ∀ x ∈ vb lv, x < K
  cK : K ≤ c
  wK : ∀ x ∈ vb wv, K ≤ x ∧ x ≠ c
  gK : ∀ x ∈ vb gv, K ≤ x ∧ x ≠ c
theorem PlI.keep {m0 m m' : Mem} {b c K : Nat} {L : List En} {lv wv gv : Value} (h : PlI m0 m b c K L lv wv gv) (hx : Ext m m') : PlI m0 m' b c K L lv wv gv :=
  ⟨h.loc.keep hx, h.box.keep hx, h.ref.keep hx, h.bK, h.lK, h.cK, h.wK, h.gK⟩

/-- What a local may be behind k calls. -/
structure LI (L : List En) (k : Nat) : Prop where
  bd : Bd L k
  nd : (L.map En.u).Nodup
  len : L.length ≤ 80
  up : ∀ e ∈ L, 0 < e.u
theorem LI.pick {L : List En} {k : Nat} {off : Int → Bool} (h : LI L k) : LI (pick L off) (k + 1) := by
  have hk := pick_keys (off := off) h.bd.pos
  refine ⟨h.bd.pick, ?_, by rw [keys_len hk]; exact h.len, fun e he => ?_⟩
  rotate_left
  · have : (e.u, e.s) ∈ keys L := by rw [← hk]; exact List.mem_map.2 ⟨e, he, rfl⟩
    obtain ⟨e', he', heq⟩ := List.mem_map.1 this
    have h1 := h.up e' he'
    have h2 : e'.u = e.u := congrArg Prod.fst heq
    omega
  have e : ∀ L : List En, L.map En.u = (keys L).map Prod.fst := fun L => by unfold keys; rw [List.map_map]; rfl
  rw [e, hk, ← e]; exact h.nd
theorem LI.begin_ {L : List En} {k : Nat} (h : LI L k) : LI (L.map fun e => { e with g := 0 }) (k + 1) := by
  refine ⟨⟨fun e he => ?_, fun e he => ?_⟩, ?_, by rw [List.length_map]; exact h.len, fun e he => ?_⟩
  · obtain ⟨e', he', rfl⟩ := List.mem_map.1 he; exact h.bd.s e' he'
  · obtain ⟨e', he', rfl⟩ := List.mem_map.1 he; exact Nat.zero_le _
  · rw [List.map_map]; exact h.nd
  · obtain ⟨e', he', rfl⟩ := List.mem_map.1 he; exact h.up e' he'
theorem LI.more {L : List En} {k : Nat} (h : LI L k) : LI L (k + 1) := ⟨⟨h.bd.s, fun e he => by have := h.bd.g e he; omega⟩, h.nd, h.len, h.up⟩
theorem LI.erase {L : List En} {k i : Nat} (h : LI L k) : LI (L.eraseIdx i) (k + 1) := by
  have hs := List.eraseIdx_sublist L i
  exact ⟨⟨fun e he => h.bd.s e (hs.subset he), fun e he => by have := h.bd.g e (hs.subset he); omega⟩, h.nd.sublist (hs.map _), Nat.le_trans hs.length_le h.len, fun e he => h.up e (hs.subset he)⟩
theorem keepX_none {x : Int} {L : List En} (h : ∀ e ∈ L, e.u ≠ x) : keepX x L = L := by
  unfold keepX
  rw [List.filter_eq_self]
  intro e he; simpa using h e he
theorem keepX_at {x : Int} : ∀ {L : List En} {i : Nat} (hi : i < L.length), (L.map En.u).Nodup → L[i].u = x → keepX x L = L.eraseIdx i
  | e :: L, 0, _, hn, h => by
    rw [List.map_cons, List.nodup_cons] at hn
    simp only [List.getElem_cons_zero] at h
    have hk := keepX_none (x := x) (L := L) fun e' he' h' => hn.1 (List.mem_map.2 ⟨e', he', by rw [h', h]⟩)
    unfold keepX at hk ⊢
    rw [List.filter_cons, if_neg (by simp [h]), hk]; rfl
  | e :: L, i + 1, hi, hn, h => by
    rw [List.map_cons, List.nodup_cons] at hn
    simp only [List.getElem_cons_succ] at h
    have hk := keepX_at (x := x) (L := L) (i := i) (by simpa using hi) hn.2 h
    have hne : e.u ≠ x := fun h' => hn.1 (List.mem_map.2 ⟨L[i]'(by simpa using hi), List.getElem_mem _, by rw [h, h']⟩)
    unfold keepX at hk ⊢
    rw [List.filter_cons, if_pos (by simpa using hne), hk]; rfl

/-- What is found of a unit. -/
def gotF (L : List En) (x : Int) : Nat × Bool := match L.find? (fun e => e.u == x) with | some e => (e.g, true) | none => (0, false)

abbrev actE (av : Value) (ask : Int) (b c i : Nat) : Env := [(2, av), (3, .int .i64 ask), (9, .pointer (some ⟨b, 0, none⟩)), (11, .pointer (some ⟨c, 0, none⟩)), (12, .int .i64 i)]

theorem Plays_got {L : List En} {av wv gv : Value} {ask g : Int} {b c i : Nat} {is : Bool} (hb : Bk m c [wv, gv] 2) (hR : RefL m L wv gv) (hl : L.length ≤ 80) :
    WL R [2, 3, 9, 11, 12, 20, 22, 23, 24, 25] RB.law15_LocalPlays_1 (actE av ask b c i ++ [(20, .int .i64 g), (22, .bool is), (23, .int .i64 (0 : Nat)), (24, .bool false), (25, .int .i64 (0 : Nat))]) m fun x e' m' =>
      m' = m ∧ x = .exit 3 ∧ ∃ (j : Nat) (t : Bool) (rest : Env), e' = actE av ask b c i ++ ((20, .int .i64 g) :: (22, .bool is) :: (23, .int .i64 j) :: (24, .bool t) :: rest) ∧ ((∃ q, ∃ h : q < L.length, L[q].u = ask ∧ (j : Int) = L[q].g ∧ t = true) ∨ ((∀ e ∈ L, e.u ≠ ask) ∧ j = 0 ∧ t = false)) := by
  have hw := hR.w
  have hwl := hw.len
  rw [keys_length] at hwl
  have lw := ldA2_0 hb
  have lg := ldA2_1 hb
  refine WL.of (fun n e m' => ∃ (k j : Nat) (t : Bool), k ≤ L.length ∧ n = L.length - k ∧ m' = m ∧ e = actE av ask b c i ++ [(20, .int .i64 g), (22, .bool is), (23, .int .i64 j), (24, .bool t), (25, .int .i64 k)] ∧
      ((∃ q, ∃ h : q < L.length, q < k ∧ L[q].u = ask ∧ (j : Int) = L[q].g ∧ t = true) ∨ ((∀ q (h : q < L.length), q < k → L[q].u ≠ ask) ∧ j = 0 ∧ t = false))) L.length
    ⟨0, 0, false, by omega, by omega, rfl, by simp only [actE, List.cons_append, List.nil_append, go_sem, Int.reduceBEq, Int.reduceBNe, Int.reduceNeg, reduceCtorEq, Nat.reduceEqDiff, Nat.reduceAdd, Nat.reduceLeDiff, Nat.reduceMul, Nat.reduceSub, Int.reduceToNat, Int.reduceLT, Int.reduceLE] <;> rfl, .inr ⟨fun _ _ h => by omega, rfl, rfl⟩⟩ ?_
  rintro _ _ m1 ⟨k, j, t, hk, rfl, hm, rfl, hI⟩
  subst hm
  simp only [actE, List.cons_append, List.nil_append]
  simp only [RB.law15_LocalPlays_1, go_sem, Int.reduceBEq, Int.reduceBNe, Int.reduceNeg, reduceCtorEq, Nat.reduceEqDiff, Nat.reduceAdd, Nat.reduceLeDiff, Nat.reduceMul, Nat.reduceSub, Int.reduceToNat, Int.reduceLT, Int.reduceLE, lw, hwl]
  by_cases g1 : k < L.length
  · have e1 : decide ((k : Int) < (L.length : Int)) = true := decide_eq_true (by omega)
    have s1 := step1 (show k < 1000000 by omega)
    have hkk : k < (keys L).length := by rw [keys_length]; exact g1
    obtain ⟨bw, ow, q1, -, q3, -⟩ := hw.elem spV_len (k := .i64) (i := k) hkk
    rw [keys_getE hkk] at q3
    have ru : aLoad false 1 m1 (.pointer (some ⟨bw, ow + 0, none⟩)) = some (.int .i64 L[k].u) := q3 0 (by omega)
    obtain ⟨pg, d1, d2⟩ := hR.g.get (k := .i64) (i := k) (by rw [gots_length]; exact g1)
    rw [intsZ_get (by rw [gots_length]; exact g1), show (gots L)[k]'(by rw [gots_length]; exact g1) = (L[k].g : Int) by simp [gots]] at d2
    simp only [go_sem, Int.reduceBEq, Int.reduceBNe, Int.reduceNeg, reduceCtorEq, Nat.reduceEqDiff, Nat.reduceAdd, Nat.reduceLeDiff, Nat.reduceMul, Nat.reduceSub, Int.reduceToNat, Int.reduceLT, Int.reduceLE, e1, lw, q1, ru]
    by_cases g2 : L[k].u = ask
    · have e2 : (L[k].u == ask) = true := beq_iff_eq.2 g2
      simp only [go_sem, Int.reduceBEq, Int.reduceBNe, Int.reduceNeg, reduceCtorEq, Nat.reduceEqDiff, Nat.reduceAdd, Nat.reduceLeDiff, Nat.reduceMul, Nat.reduceSub, Int.reduceToNat, Int.reduceLT, Int.reduceLE, e2, lg, d1, d2, s1]
      exact ⟨L.length - (k + 1), by omega, k + 1, L[k].g, true, by omega, rfl, rfl, .inl ⟨k, g1, by omega, g2, rfl, rfl⟩⟩
    · have e2 : (L[k].u == ask) = false := by rw [beq_eq_false_iff_ne]; exact g2
      simp only [go_sem, Int.reduceBEq, Int.reduceBNe, Int.reduceNeg, reduceCtorEq, Nat.reduceEqDiff, Nat.reduceAdd, Nat.reduceLeDiff, Nat.reduceMul, Nat.reduceSub, Int.reduceToNat, Int.reduceLT, Int.reduceLE, e2, s1]
      refine ⟨L.length - (k + 1), by omega, k + 1, j, t, by omega, rfl, rfl, ?_⟩
      rcases hI with ⟨q, h, h1, h2⟩ | ⟨h1, h2⟩
      · exact .inl ⟨q, h, by omega, h2⟩
      · refine .inr ⟨fun q h hq => ?_, h2⟩
        by_cases e : q = k
        · subst e; exact g2
        · exact h1 q h (by omega)
  · have : k = L.length := by omega
    subst this
    have e1 : decide ((L.length : Int) < (L.length : Int)) = false := decide_eq_false (by omega)
    simp only [go_sem, Int.reduceBEq, Int.reduceBNe, Int.reduceNeg, reduceCtorEq, Nat.reduceEqDiff, Nat.reduceAdd, Nat.reduceLeDiff, Nat.reduceMul, Nat.reduceSub, Int.reduceToNat, Int.reduceLT, Int.reduceLE, e1]
    refine ⟨j, t, _, rfl, ?_⟩
    rcases hI with ⟨q, h, h1, h2⟩ | ⟨h1, h2⟩
    · exact .inl ⟨q, h, h2⟩
    · refine .inr ⟨fun e he => ?_, h2⟩
      obtain ⟨q, hq, rfl⟩ := List.getElem_of_mem he
      exact h1 q hq hq
end Go.Am


/- LocalPlays: one call. -/
set_option linter.unusedVariables false
set_option linter.unusedSimpArgs false
namespace Go.Am
variable {m : Mem}

theorem PlI.set {m0 m : Mem} {b c K : Nat} {L' : List En} {lv' wv gv wv' gv' : Value} (hb : Bk m c [wv, gv] 2) (hV : LocV m0 m b L' lv') (hR : RefL m L' wv' gv') (bK : b < K) (lK : ∀ x ∈ vb lv', x < K) (cK : K ≤ c) (hK : m0.next ≤ K)
    (wK : ∀ x ∈ vb wv', K ≤ x ∧ x ≠ c) (gK : ∀ x ∈ vb gv', K ≤ x ∧ x ≠ c) :
    ∃ m', aStore 2 m (.pointer (some ⟨c, 0, none⟩)) (.agg #[wv', gv']) = some m' ∧ PlI m0 m' b c K L' lv' wv' gv' := by
  obtain ⟨m', st, hb', hu⟩ := stA2 (x' := wv') (y' := gv') hb (by
    have h1 : wv'.oneCell' = true := hR.w.one
    have h2 : gv'.oneCell' = true := hR.g.one
    unfold oneCells; simp [h1, h2])
  exact ⟨m', st, hV.updm hu (by omega) (fun h => by have := lK _ h; omega) (by omega), hb', hR.upd hu (fun x hx => by simpa using (wK x hx).2) (fun x hx => by simpa using (gK x hx).2), bK, lK, cK, wK, gK⟩

theorem PlI.set2 {m0 m : Mem} {b c K : Nat} {L L' : List En} {lv wv gv wv' gv' : Value} (hb : Bk m c [wv, gv] 2) (hV : LocV m0 m b L lv) (hR : RefL m L' wv' gv') (bK : b < K) (lK : ∀ x ∈ vb lv, x < K) (cK : K ≤ c) (hK : m0.next ≤ K)
    (wK : ∀ x ∈ vb wv', K ≤ x ∧ x ≠ c) (gK : ∀ x ∈ vb gv', K ≤ x ∧ x ≠ c) :
    ∃ m', aStore 2 m (.pointer (some ⟨c, 0, none⟩)) (.agg #[wv', gv']) = some m' ∧ LocV m0 m' b L lv ∧ Bk m' c [wv', gv'] 2 ∧ RefL m' L' wv' gv' ∧ Upd m m' [c] := by
  obtain ⟨m', st, hb', hu⟩ := stA2 (x' := wv') (y' := gv') hb (by
    have h1 : wv'.oneCell' = true := hR.w.one
    have h2 : gv'.oneCell' = true := hR.g.one
    unfold oneCells; simp [h1, h2])
  exact ⟨m', st, hV.updm hu (by omega) (fun h => by have := lK _ h; omega) (by omega), hb', hR.upd hu (fun x hx => by simpa using (wK x hx).2) (fun x hx => by simpa using (gK x hx).2), hu⟩

def sqA : RCode → RCode | .seq a _ => a | c => c
def sqB : RCode → RCode | .seq _ b => b | c => c
def bkC : RCode → RCode | .block _ c _ => c | c => c
def pCond : RCode := sqA RB.law15_LocalPlays_2
def pBlk : RCode := bkC (sqA (sqB RB.law15_LocalPlays_2))
def pAct : RCode := sqA pBlk
def pCut : RCode := sqA (sqB pBlk)
def pSw : RCode := sqA (sqB (sqB pBlk))
def pRest : RCode := sqB (sqB (sqB pBlk))
def pInc : RCode := sqB (sqB RB.law15_LocalPlays_2)
theorem plays_eq : RB.law15_LocalPlays_2 = .seq pCond (.seq (.block 1 (.seq pAct (.seq pCut (.seq pSw pRest))) [2, 3, 9, 11, 12]) pInc) := rfl

def cnA : RCode → RCode | .cond _ a _ => a | c => c
def cnB : RCode → RCode | .cond _ _ b => b | c => c
def pSwA : RCode := sqA pSw
def pS1 : RCode := sqA (bkC (sqB pSw))
def pPick : RCode := cnA (sqB (bkC (sqB pSw)))
def pOth : RCode := cnB (sqB (bkC (sqB pSw)))
theorem sw_eq : pSw = .seq pSwA (.block 2 (.seq pS1 (.cond (.t 83) pPick pOth)) [2, 3, 9, 11, 12]) := rfl

set_option maxHeartbeats 4000000 in
theorem Plays_sw {m0 : Mem} {rest : Env} {b c K i d : Nat} {L : List En} {lv wv gv av ov : Value} {ask k u : Int} {li : List Int} (hI : PlI m0 m b c K L lv wv gv) (hL : LI L i) (hi2 : i < 100) (hK : m0.next ≤ K) (hKm : K ≤ d) (hb : Bk m d [.int .i64 k, ov, .int .i64 u] 3) (hcd : c < d)
    (ho : Sl m 1 li.length (intsZ li) ov) (hol : SlLt m ov) (hll : li.length ≤ 40) (hov : ∀ x ∈ vb ov, x < m0.next) :
    gp R pSw (actE av ask b c i ++ ((13, .pointer (some ⟨d, 0, none⟩)) :: rest)) m fun x e' m' => x = .normal ∧ e' = actE av ask b c i ∧ ∃ L' lv' wv' gv', PlI m0 m' b c K L' lv' wv' gv' ∧ LI L' (i + 1) := by
  have ldk : ∀ {m' : Mem}, Bk m' d [.int .i64 k, ov, .int .i64 u] 3 → aLoad false 1 m' (.pointer (some ⟨d, 0, none⟩)) = some (.int .i64 k) := fun h => by simp only [go_sem, Int.reduceBEq, Int.reduceBNe, Int.reduceNeg, reduceCtorEq, Nat.reduceEqDiff, Nat.reduceAdd, Nat.reduceLeDiff, Nat.reduceMul, Nat.reduceSub, Int.reduceToNat, Int.reduceLT, Int.reduceLE, load_w, load_a, store_b, idxS_b, set_blk, new_blk, set_next, new_next, len_s, ldW_c, ldA_c, stB_c, toArr_one, size_one, toList_toArr, size_toArr, List.length_cons, List.length_nil, List.getElem?_cons_zero, List.getElem?_cons_succ, Nat.zero_add, Nat.add_zero, h.at_]
  have ldo : ∀ {m' : Mem}, Bk m' d [.int .i64 k, ov, .int .i64 u] 3 → aLoad false 1 m' (.pointer (some ⟨d, 1, none⟩)) = some ov := fun h => by simp only [go_sem, Int.reduceBEq, Int.reduceBNe, Int.reduceNeg, reduceCtorEq, Nat.reduceEqDiff, Nat.reduceAdd, Nat.reduceLeDiff, Nat.reduceMul, Nat.reduceSub, Int.reduceToNat, Int.reduceLT, Int.reduceLE, load_w, load_a, store_b, idxS_b, set_blk, new_blk, set_next, new_next, len_s, ldW_c, ldA_c, stB_c, toArr_one, size_one, toList_toArr, size_toArr, List.length_cons, List.length_nil, List.getElem?_cons_zero, List.getElem?_cons_succ, Nat.zero_add, Nat.add_zero, h.at_]
  have ldu : ∀ {m' : Mem}, Bk m' d [.int .i64 k, ov, .int .i64 u] 3 → aLoad false 1 m' (.pointer (some ⟨d, 2, none⟩)) = some (.int .i64 u) := fun h => by simp only [go_sem, Int.reduceBEq, Int.reduceBNe, Int.reduceNeg, reduceCtorEq, Nat.reduceEqDiff, Nat.reduceAdd, Nat.reduceLeDiff, Nat.reduceMul, Nat.reduceSub, Int.reduceToNat, Int.reduceLT, Int.reduceLE, load_w, load_a, store_b, idxS_b, set_blk, new_blk, set_next, new_next, len_s, ldW_c, ldA_c, stB_c, toArr_one, size_one, toList_toArr, size_toArr, List.length_cons, List.length_nil, List.getElem?_cons_zero, List.getElem?_cons_succ, Nat.zero_add, Nat.add_zero, h.at_]
  have hS : ∀ e ∈ L, Sm e := hL.bd.sm (by omega)
  have hlen := hL.len
  have lge := hI.loc.own.ge
  rw [sw_eq]
  simp only [pSwA, pSw, pBlk, sqA, sqB, bkC, RB.law15_LocalPlays_2, actE, List.cons_append, List.nil_append]
  simp only [go_sem, Int.reduceBEq, Int.reduceBNe, Int.reduceNeg, reduceCtorEq, Nat.reduceEqDiff, Nat.reduceAdd, Nat.reduceLeDiff, Nat.reduceMul, Nat.reduceSub, Int.reduceToNat, Int.reduceLT, Int.reduceLE, ldk hb]
  refine gp_mono (Q' := fun x e' m' => x = .normal ∧ m' = m ∧ e' = actE av ask b c i ++ [(13, .pointer (some ⟨d, 0, none⟩)), (82, .int .i64 k), (83, .bool (decide (k = 0 ∨ k = 1 ∨ k = 2)))]) ?_ ?_
  · simp only [pS1, pSw, pBlk, sqA, sqB, bkC, RB.law15_LocalPlays_2, actE, List.cons_append, List.nil_append, go_sem, Int.reduceBEq, Int.reduceBNe, Int.reduceNeg, reduceCtorEq, Nat.reduceEqDiff, Nat.reduceAdd, Nat.reduceLeDiff, Nat.reduceMul, Nat.reduceSub, Int.reduceToNat, Int.reduceLT, Int.reduceLE]
    refine gT.of (fun h0' => ?_) (fun h0' => ?_) <;> (have h0 := h0'; try simp only [decide_eq_true_eq, decide_eq_false_iff_not, beq_iff_eq, bne_iff_ne, beq_eq_false_iff_ne, ne_eq, Bool.not_eq_true', Bool.not_eq_false', bne_eq_false_iff_eq, Int.not_lt, Int.not_le] at h0)
    · have : (k = 0 ∨ k = 1 ∨ k = 2) := .inl h0
      simp only [go_sem, Int.reduceBEq, Int.reduceBNe, Int.reduceNeg, reduceCtorEq, Nat.reduceEqDiff, Nat.reduceAdd, Nat.reduceLeDiff, Nat.reduceMul, Nat.reduceSub, Int.reduceToNat, Int.reduceLT, Int.reduceLE, h0', decide_eq_true this]
      try simp [this]
    · simp only [go_sem, Int.reduceBEq, Int.reduceBNe, Int.reduceNeg, reduceCtorEq, Nat.reduceEqDiff, Nat.reduceAdd, Nat.reduceLeDiff, Nat.reduceMul, Nat.reduceSub, Int.reduceToNat, Int.reduceLT, Int.reduceLE, h0']
      refine gT.of (fun h1' => ?_) (fun h1' => ?_) <;> (have h1 := h1'; try simp only [decide_eq_true_eq, decide_eq_false_iff_not, beq_iff_eq, bne_iff_ne, beq_eq_false_iff_ne, ne_eq, Bool.not_eq_true', Bool.not_eq_false', bne_eq_false_iff_eq, Int.not_lt, Int.not_le] at h1)
      · have : (k = 0 ∨ k = 1 ∨ k = 2) := .inr (.inl h1)
        simp only [go_sem, Int.reduceBEq, Int.reduceBNe, Int.reduceNeg, reduceCtorEq, Nat.reduceEqDiff, Nat.reduceAdd, Nat.reduceLeDiff, Nat.reduceMul, Nat.reduceSub, Int.reduceToNat, Int.reduceLT, Int.reduceLE, h1']
        try simp [this]
      · simp only [go_sem, Int.reduceBEq, Int.reduceBNe, Int.reduceNeg, reduceCtorEq, Nat.reduceEqDiff, Nat.reduceAdd, Nat.reduceLeDiff, Nat.reduceMul, Nat.reduceSub, Int.reduceToNat, Int.reduceLT, Int.reduceLE, h1']
        have e : (k == 2) = decide (k = 0 ∨ k = 1 ∨ k = 2) := by rw [Bool.eq_iff_iff]; simp [h0, h1]
        rw [e]
  rintro _ _ m' ⟨rfl, hm, rfl⟩
  replace hm := hm.symm
  subst hm
  simp only [actE, List.cons_append, List.nil_append]
  by_cases hk : k = 0 ∨ k = 1 ∨ k = 2
  · have ek := decide_eq_true hk
    simp only [go_sem, Int.reduceBEq, Int.reduceBNe, Int.reduceNeg, reduceCtorEq, Nat.reduceEqDiff, Nat.reduceAdd, Nat.reduceLeDiff, Nat.reduceMul, Nat.reduceSub, Int.reduceToNat, Int.reduceLT, Int.reduceLE, ek]
    simp only [pPick, pSw, pBlk, sqA, sqB, bkC, cnA, RB.law15_LocalPlays_2]
    simp only [go_sem, Int.reduceBEq, Int.reduceBNe, Int.reduceNeg, reduceCtorEq, Nat.reduceEqDiff, Nat.reduceAdd, Nat.reduceLeDiff, Nat.reduceMul, Nat.reduceSub, Int.reduceToNat, Int.reduceLT, Int.reduceLE, ldo hb]
    refine gC.of (locPickU hI.loc hS (by omega) ho hol (by omega)) ?_
    rintro r1 m2 ⟨hr, hV2, hu2⟩
    have hc2 := hI.box.upd hu2 (fun h => by have := hI.lK _ h; have := hI.cK; omega)
    have hR2 := hI.ref.upd hu2 (fun x hx hm => by have := hI.lK _ hm; have := (hI.wK x hx).1; omega) (fun x hx hm => by have := hI.lK _ hm; have := (hI.gK x hx).1; omega)
    have hd2 := hb.upd hu2 (fun h => by have := hI.lK _ h; omega)
    have hoo : SlOff (vb lv) ov := SlOff.vb_iff.2 fun x hx hm => by have := hov x hx; have := lge x hm; omega
    have ho2 := ho.upd hol hoo hu2
    have hol2 := hol.upd hu2
    have hrr : ∃ x y, r1 = .tuple #[.int .i64 x, .bool y] ∧ ((bst L (offF li) L.length = none ∧ x = 0 ∧ y = false) ∨ ∃ q, bst L (offF li) L.length = some q ∧ x = L[q]!.u ∧ y = true) := by
      rcases hr with ⟨h1, rfl⟩ | ⟨q, h1, rfl⟩
      · exact ⟨_, _, rfl, .inl ⟨h1, rfl, rfl⟩⟩
      · exact ⟨_, _, rfl, .inr ⟨q, h1, rfl, rfl⟩⟩
    obtain ⟨x, y, rfl, hxy⟩ := hrr
    clear hr
    simp only [go_sem, Int.reduceBEq, Int.reduceBNe, Int.reduceNeg, reduceCtorEq, Nat.reduceEqDiff, Nat.reduceAdd, Nat.reduceLeDiff, Nat.reduceMul, Nat.reduceSub, Int.reduceToNat, Int.reduceLT, Int.reduceLE, aExt0, aExt1, ldA2 hc2, ldo hd2]
    refine gC.of (ref15Pick hR2 hS (by omega) ho2 hol2 (by omega)) ?_
    rintro r2 m3 ⟨⟨gv', hR3, hgn, hr⟩, hx3⟩
    have hrr : ∃ z, r2 = .tuple #[.agg #[wv, gv'], .int .i64 z] ∧ z = x ∧ (y = decide (0 < z)) := by
      have pos : ∀ e ∈ L, 0 < e.s := fun e he => (hS e he).1
      have sp := bst_spec (off := offF li) pos L.length (Nat.le_refl _)
      rcases hr with ⟨h1, rfl⟩ | ⟨q, h1, rfl⟩
      · rcases hxy with ⟨-, rfl, rfl⟩ | ⟨q, h2, -⟩
        · exact ⟨_, rfl, rfl, rfl⟩
        · rw [h1] at h2; cases h2
      · rcases hxy with ⟨h2, -⟩ | ⟨q', h2, rfl, rfl⟩
        · rw [h1] at h2; cases h2
        · rw [h1] at h2; cases h2
          refine ⟨_, rfl, rfl, ?_⟩
          rw [h1] at sp
          obtain ⟨i1, -⟩ := sp
          have := hL.up _ (List.getElem_mem i1)
          rw [← getElem!_pos L q i1] at this
          rw [decide_eq_true this]
    obtain ⟨z, rfl, rfl, rfl⟩ := hrr
    clear hr hxy
    have hst : aStore 2 (m3.new (.cells [.slice none 0 0, .slice none 0 0] (some 2))) (.pointer (some ⟨m3.next, 0, none⟩)) (.agg #[wv, gv']) = some (m3.new (.cells [wv, gv'] (some 2))) := by
      have e : (#[wv, gv'] : Array Value) = [wv, gv'].toArray := rfl
      have h1 : wv.oneCell' = true := hR3.w.one
      have h2 : gv'.oneCell' = true := hR3.g.one
      have h3 : oneCells [wv, gv'] = true := by unfold oneCells; simp [h1, h2]
      rw [e]
      simp only [go_sem, Int.reduceBEq, Int.reduceBNe, Int.reduceNeg, reduceCtorEq, Nat.reduceEqDiff, Nat.reduceAdd, Nat.reduceLeDiff, Nat.reduceMul, Nat.reduceSub, Int.reduceToNat, Int.reduceLT, Int.reduceLE, load_w, load_a, store_b, idxS_b, set_blk, new_blk, set_next, new_next, len_s, ldW_c, ldA_c, stB_c, toArr_one, size_one, toList_toArr, size_toArr, List.length_cons, List.length_nil, List.getElem?_cons_zero, List.getElem?_cons_succ, Nat.zero_add, Nat.add_zero, h3]
    have hx4 : Ext m3 (m3.new (.cells [wv, gv'] (some 2))) := Ext.new
    have hb4 : Bk (m3.new (.cells [wv, gv'] (some 2))) m3.next [wv, gv'] 2 := Bk.new
    simp only [go_sem, Int.reduceBEq, Int.reduceBNe, Int.reduceNeg, reduceCtorEq, Nat.reduceEqDiff, Nat.reduceAdd, Nat.reduceLeDiff, Nat.reduceMul, Nat.reduceSub, Int.reduceToNat, Int.reduceLT, Int.reduceLE, aExt0, aExt1, hst]
    generalize m3.new (.cells [wv, gv'] (some 2)) = m4 at hx4 hb4 ⊢
    have hc4 := (hc2.keep hx3).keep hx4
    have h02 := hu2.next
    have h23 := hx3.next
    have hcl := hI.box.lt
    obtain ⟨m5, st5, hI5⟩ := PlI.set hc4 ((hV2.keep hx3).keep hx4) (hR3.keep hx4) hI.bK hI.lK hI.cK hK hI.wK (fun x hx => by
      rcases hgn x hx with h | h
      · have := hb.lt; have := hI.cK; constructor <;> omega
      · exact hI.gK x h)
    simp only [go_sem, Int.reduceBEq, Int.reduceBNe, Int.reduceNeg, reduceCtorEq, Nat.reduceEqDiff, Nat.reduceAdd, Nat.reduceLeDiff, Nat.reduceMul, Nat.reduceSub, Int.reduceToNat, Int.reduceLT, Int.reduceLE, ldA2 hb4, st5]
    have e3 : (z != z) = false := bne_self_eq_false _
    have e4 : aEq .bool (.bool (decide (0 < z))) (.bool (decide (0 < z))) = some true := by rw [eq_bool]; simp
    exact ⟨pick L (offF li), lv, wv, gv', hI5, hL.pick⟩
  · have ek := decide_eq_false hk
    simp only [go_sem, Int.reduceBEq, Int.reduceBNe, Int.reduceNeg, reduceCtorEq, Nat.reduceEqDiff, Nat.reduceAdd, Nat.reduceLeDiff, Nat.reduceMul, Nat.reduceSub, Int.reduceToNat, Int.reduceLT, Int.reduceLE, ek]
    simp only [pOth, pSw, pBlk, sqA, sqB, bkC, cnB, RB.law15_LocalPlays_2]
    simp only [go_sem, Int.reduceBEq, Int.reduceBNe, Int.reduceNeg, reduceCtorEq, Nat.reduceEqDiff, Nat.reduceAdd, Nat.reduceLeDiff, Nat.reduceMul, Nat.reduceSub, Int.reduceToNat, Int.reduceLT, Int.reduceLE]
    refine gT.of (fun h3' => ?_) (fun h3' => ?_) <;> (have h3 := h3'; try simp only [decide_eq_true_eq, decide_eq_false_iff_not, beq_iff_eq, bne_iff_ne, beq_eq_false_iff_ne, ne_eq, Bool.not_eq_true', Bool.not_eq_false', bne_eq_false_iff_eq, Int.not_lt, Int.not_le] at h3)
    · simp only [go_sem, Int.reduceBEq, Int.reduceBNe, Int.reduceNeg, reduceCtorEq, Nat.reduceEqDiff, Nat.reduceAdd, Nat.reduceLeDiff, Nat.reduceMul, Nat.reduceSub, Int.reduceToNat, Int.reduceLT, Int.reduceLE, h3']
      refine gC.of (locBeginU hI.loc (by omega)) ?_
      rintro _ m2 ⟨hV2, hu2⟩
      have hc2 := hI.box.upd hu2 (fun h => by have := hI.lK _ h; have := hI.cK; omega)
      have hR2 := hI.ref.upd hu2 (fun x hx hm => by have := hI.lK _ hm; have := (hI.wK x hx).1; omega) (fun x hx hm => by have := hI.lK _ hm; have := (hI.gK x hx).1; omega)
      simp only [go_sem, Int.reduceBEq, Int.reduceBNe, Int.reduceNeg, reduceCtorEq, Nat.reduceEqDiff, Nat.reduceAdd, Nat.reduceLeDiff, Nat.reduceMul, Nat.reduceSub, Int.reduceToNat, Int.reduceLT, Int.reduceLE, ldA2 hc2]
      refine gC.of (ref15Begin hR2 (by omega)) ?_
      rintro _ m3 ⟨⟨gv', rfl, hR3, hgn⟩, hx3⟩
      have h02 := hu2.next
      obtain ⟨m5, st5, hI5⟩ := PlI.set (hc2.keep hx3) (hV2.keep hx3) hR3 hI.bK hI.lK hI.cK hK hI.wK (fun x hx => by
        have h := hgn x hx
        have := hb.lt; have := hI.cK; constructor <;> omega)
      simp only [go_sem, Int.reduceBEq, Int.reduceBNe, Int.reduceNeg, reduceCtorEq, Nat.reduceEqDiff, Nat.reduceAdd, Nat.reduceLeDiff, Nat.reduceMul, Nat.reduceSub, Int.reduceToNat, Int.reduceLT, Int.reduceLE, st5]
      exact ⟨_, lv, wv, gv', hI5, hL.begin_⟩
    · simp only [go_sem, Int.reduceBEq, Int.reduceBNe, Int.reduceNeg, reduceCtorEq, Nat.reduceEqDiff, Nat.reduceAdd, Nat.reduceLeDiff, Nat.reduceMul, Nat.reduceSub, Int.reduceToNat, Int.reduceLT, Int.reduceLE, h3']
      refine gT.of (fun h4' => ?_) (fun h4' => ?_) <;> (have h4 := h4'; try simp only [decide_eq_true_eq, decide_eq_false_iff_not, beq_iff_eq, bne_iff_ne, beq_eq_false_iff_ne, ne_eq, Bool.not_eq_true', Bool.not_eq_false', bne_eq_false_iff_eq, Int.not_lt, Int.not_le] at h4)
      · simp only [go_sem, Int.reduceBEq, Int.reduceBNe, Int.reduceNeg, reduceCtorEq, Nat.reduceEqDiff, Nat.reduceAdd, Nat.reduceLeDiff, Nat.reduceMul, Nat.reduceSub, Int.reduceToNat, Int.reduceLT, Int.reduceLE, h4', ldA2 hI.box, ldu hb]
        refine gC.of (ref15Drop hI.ref (by omega)) ?_
        rintro _ m2 ⟨⟨wv', gv', hR2, hwn, hgn, rfl⟩, hx2⟩
        have hst : aStore 2 (m2.new (.cells [.slice none 0 0, .slice none 0 0] (some 2))) (.pointer (some ⟨m2.next, 0, none⟩)) (.agg #[wv', gv']) = some (m2.new (.cells [wv', gv'] (some 2))) := by
          have e : (#[wv', gv'] : Array Value) = [wv', gv'].toArray := rfl
          have h1 : wv'.oneCell' = true := hR2.w.one
          have h2 : gv'.oneCell' = true := hR2.g.one
          have h3 : oneCells [wv', gv'] = true := by unfold oneCells; simp [h1, h2]
          rw [e]
          simp only [go_sem, Int.reduceBEq, Int.reduceBNe, Int.reduceNeg, reduceCtorEq, Nat.reduceEqDiff, Nat.reduceAdd, Nat.reduceLeDiff, Nat.reduceMul, Nat.reduceSub, Int.reduceToNat, Int.reduceLT, Int.reduceLE, load_w, load_a, store_b, idxS_b, set_blk, new_blk, set_next, new_next, len_s, ldW_c, ldA_c, stB_c, toArr_one, size_one, toList_toArr, size_toArr, List.length_cons, List.length_nil, List.getElem?_cons_zero, List.getElem?_cons_succ, Nat.zero_add, Nat.add_zero, h3]
        have hx4 : Ext m2 (m2.new (.cells [wv', gv'] (some 2))) := Ext.new
        have hb4 : Bk (m2.new (.cells [wv', gv'] (some 2))) m2.next [wv', gv'] 2 := Bk.new
        simp only [go_sem, Int.reduceBEq, Int.reduceBNe, Int.reduceNeg, reduceCtorEq, Nat.reduceEqDiff, Nat.reduceAdd, Nat.reduceLeDiff, Nat.reduceMul, Nat.reduceSub, Int.reduceToNat, Int.reduceLT, Int.reduceLE, aExt0, aExt1, hst]
        generalize m2.new (.cells [wv', gv'] (some 2)) = m4 at hx4 hb4 ⊢
        have hc4 := (hI.box.keep hx2).keep hx4
        have hd4 := (hb.keep hx2).keep hx4
        have h02 := hx2.next
        have hcl := hI.box.lt
        have hbl := hb.lt
        have cK := hI.cK
        have wK : ∀ x ∈ vb wv', K ≤ x ∧ x ≠ c := fun x hx => by
          have h := hwn x hx
          constructor <;> omega
        have gK : ∀ x ∈ vb gv', K ≤ x ∧ x ≠ c := fun x hx => by
          have h := hgn x hx
          constructor <;> omega
        obtain ⟨m5, st5, hV5, hc5, hR5, hu5⟩ := PlI.set2 hc4 ((hI.loc.keep hx2).keep hx4) (hR2.keep hx4) hI.bK hI.lK cK hK wK gK
        have hd5 := hd4.upd hu5 (by simp; omega)
        simp only [go_sem, Int.reduceBEq, Int.reduceBNe, Int.reduceNeg, reduceCtorEq, Nat.reduceEqDiff, Nat.reduceAdd, Nat.reduceLeDiff, Nat.reduceMul, Nat.reduceSub, Int.reduceToNat, Int.reduceLT, Int.reduceLE, ldA2 hb4, st5, ldu hd5]
        refine gC.of (locDrop hV5 (by omega)) ?_
        rintro r1 m6 (⟨hno, rfl, hV6, hx6⟩ | ⟨q, hq, hqu, -, rfl, lv6, hV6, hvb6, hu6⟩)
        · have hk : keepX u L = L := keepX_none hno
          have e1 : decide ((keepX u L).length < L.length) = false := decide_eq_false (by rw [hk]; omega)
          simp only [go_sem, Int.reduceBEq, Int.reduceBNe, Int.reduceNeg, reduceCtorEq, Nat.reduceEqDiff, Nat.reduceAdd, Nat.reduceLeDiff, Nat.reduceMul, Nat.reduceSub, Int.reduceToNat, Int.reduceLT, Int.reduceLE, e1, eq_bool]
          refine ⟨L, lv, wv', gv', ⟨hV6, hc5.keep hx6, ?_, hI.bK, hI.lK, cK, wK, gK⟩, hL.more⟩
          have := hR5.keep hx6
          rw [hk] at this
          exact this
        · have hk : keepX u L = L.eraseIdx q := keepX_at hq hL.nd hqu
          have e1 : decide ((keepX u L).length < L.length) = true := decide_eq_true (by rw [hk, List.length_eraseIdx_of_lt hq]; omega)
          simp only [go_sem, Int.reduceBEq, Int.reduceBNe, Int.reduceNeg, reduceCtorEq, Nat.reduceEqDiff, Nat.reduceAdd, Nat.reduceLeDiff, Nat.reduceMul, Nat.reduceSub, Int.reduceToNat, Int.reduceLT, Int.reduceLE, e1, eq_bool]
          have hbK := hI.bK
          have hlK := hI.lK
          have hfp : ∀ x, K ≤ x → x ∉ b :: vb lv := fun x hx hm => by
            rcases List.mem_cons.1 hm with h | h
            · omega
            · have := hlK x h; omega
          have hR6 := hR5.upd hu6 (fun x hx => hfp x (wK x hx).1) (fun x hx => hfp x (gK x hx).1)
          rw [hk] at hR6
          exact ⟨L.eraseIdx q, lv6, wv', gv', ⟨hV6, hc5.upd hu6 (hfp c cK), hR6, hI.bK, fun x hx => hI.lK x (by rw [← hvb6]; exact hx), cK, wK, gK⟩, hL.erase⟩
      · simp only [go_sem, Int.reduceBEq, Int.reduceBNe, Int.reduceNeg, reduceCtorEq, Nat.reduceEqDiff, Nat.reduceAdd, Nat.reduceLeDiff, Nat.reduceMul, Nat.reduceSub, Int.reduceToNat, Int.reduceLT, Int.reduceLE, h4']
        exact ⟨L, lv, wv, gv, hI, hL.more⟩
end Go.Am


/- LocalPlays: what is told behind a call. -/
set_option linter.unusedVariables false
set_option linter.unusedSimpArgs false
namespace Go.Am
variable {m : Mem}

theorem nd_unique {L : List En} (h : (L.map En.u).Nodup) {i j : Nat} (hi : i < L.length) (hj : j < L.length) (e : L[i].u = L[j].u) : i = j := by
  have hp := List.pairwise_iff_getElem.1 h
  apply Classical.byContradiction
  intro hne
  rcases Nat.lt_or_gt_of_ne hne with h1 | h1
  · exact hp i j (by simpa using hi) (by simpa using hj) h1 (by simpa using e)
  · exact hp j i (by simpa using hj) (by simpa using hi) h1 (by simpa using e.symm)

set_option maxHeartbeats 4000000 in
theorem Plays_rest {m0 : Mem} {b c K i : Nat} {L : List En} {lv wv gv av : Value} {ask : Int} {Q : Ex → Env → Mem → Prop} (hI : PlI m0 m b c K L lv wv gv) (hL : LI L (i + 1)) (hi2 : i < 100)
    (hQ : ∀ m', PlI m0 m' b c K L lv wv gv → Q .normal (actE av ask b c i ++ [(184, .bool false)]) m') :
    gp R pRest (actE av ask b c i) m Q := by
  have hkb : ∀ w ∈ keys L, 0 ≤ w.2 ∧ w.2 ≤ 1000 := fun w hw => by
    obtain ⟨e, he, rfl⟩ := List.mem_map.1 hw
    have := hL.bd.s e he
    simp only; omega
  have hlen := hL.len
  have hkl := keys_length (L := L)
  have ht := totO_sum (n := 0) (l := keys L) hkb (by omega) (by omega)
  have hsum : 0 + sumW (keys L) = sumN sI L := by rw [← sumW_wts, wts_keys]; omega
  rw [hsum] at ht
  have hR := hI.ref
  simp only [pRest, pBlk, sqA, sqB, bkC, RB.law15_LocalPlays_2, actE]
  simp only [go_sem, Int.reduceBEq, Int.reduceBNe, Int.reduceNeg, reduceCtorEq, Nat.reduceEqDiff, Nat.reduceAdd, Nat.reduceLeDiff, Nat.reduceMul, Nat.reduceSub, Int.reduceToNat, Int.reduceLT, Int.reduceLE, ldA2_0 hI.box]
  refine gC.of (refTotal hR.w (by omega) (fun w hw => by have := hkb w hw; unfold inR; omega)) ?_
  rintro _ m' ⟨⟨n, hn, rfl⟩ | ⟨hn, rfl⟩, hm⟩
  rotate_left
  · rw [ht] at hn; cases hn
  rw [ht] at hn
  cases hn
  replace hm := hm.symm
  subst hm
  simp only [go_sem, Int.reduceBEq, Int.reduceBNe, Int.reduceNeg, reduceCtorEq, Nat.reduceEqDiff, Nat.reduceAdd, Nat.reduceLeDiff, Nat.reduceMul, Nat.reduceSub, Int.reduceToNat, Int.reduceLT, Int.reduceLE, aExt0, aExt1, ldA2_0 hI.box]
  refine gC.of (locWants hI.loc (by omega)) ?_
  rintro vw m1 ⟨ho1, hx1⟩
  have hI1 := hI.keep hx1
  have hcw := hx1.same c hI.box.lt
  rw [wts_keys] at ho1
  simp only [go_sem, Int.reduceBEq, Int.reduceBNe, Int.reduceNeg, reduceCtorEq, Nat.reduceEqDiff, Nat.reduceAdd, Nat.reduceLeDiff, Nat.reduceMul, Nat.reduceSub, Int.reduceToNat, Int.reduceLT, Int.reduceLE, watchOk_cons, watchOk_nil, blkOf_ptr, hcw, ldA2_0 hI1.box]
  refine gC.of (refSame8 ho1.sl hI1.ref.w (by omega) (by omega)) ?_
  rintro _ m' ⟨rfl, hm⟩
  replace hm := hm.symm
  subst hm
  have e1 : decide (keys L = keys L) = true := decide_eq_true rfl
  simp only [go_sem, Int.reduceBEq, Int.reduceBNe, Int.reduceNeg, reduceCtorEq, Nat.reduceEqDiff, Nat.reduceAdd, Nat.reduceLeDiff, Nat.reduceMul, Nat.reduceSub, Int.reduceToNat, Int.reduceLT, Int.reduceLE, e1]
  refine gC.of (locTotal hI1.loc (by omega) fun e he => by have := hL.bd.s e he; omega) ?_
  rintro _ m2 ⟨rfl, hx2⟩
  have hI2 := hI1.keep hx2
  have e2 : (sumN sI L != sumN sI L) = false := bne_self_eq_false _
  simp only [go_sem, Int.reduceBEq, Int.reduceBNe, Int.reduceNeg, reduceCtorEq, Nat.reduceEqDiff, Nat.reduceAdd, Nat.reduceLeDiff, Nat.reduceMul, Nat.reduceSub, Int.reduceToNat, Int.reduceLT, Int.reduceLE, e2]
  refine gC.of (locGot hI2.loc (by omega)) ?_
  rintro r m3 ⟨hr, hx3⟩
  have hI3 := hI2.keep hx3
  have hrr : ∃ (g : Int) (is : Bool), r = .tuple #[.int .i64 g, .bool is] ∧ ((∃ q, ∃ h : q < L.length, L[q].u = ask ∧ g = L[q].g ∧ is = true) ∨ ((∀ e ∈ L, e.u ≠ ask) ∧ g = 0 ∧ is = false)) := by
    rcases hr with ⟨h1, rfl⟩ | ⟨q, hq, rfl, h1⟩
    · exact ⟨_, _, rfl, .inr ⟨h1, rfl, rfl⟩⟩
    · exact ⟨_, _, rfl, .inl ⟨q, hq, h1, rfl, rfl⟩⟩
  obtain ⟨g, is, rfl, hgi⟩ := hrr
  simp only [go_sem, Int.reduceBEq, Int.reduceBNe, Int.reduceNeg, reduceCtorEq, Nat.reduceEqDiff, Nat.reduceAdd, Nat.reduceLeDiff, Nat.reduceMul, Nat.reduceSub, Int.reduceToNat, Int.reduceLT, Int.reduceLE, aExt0, aExt1]
  refine WL.mono (Plays_got (av := av) (b := b) (i := i) (g := g) (is := is) hI3.box hI3.ref hlen) ?_
  rintro _ _ m' ⟨hm, rfl, j, t, rest, rfl, hj⟩
  replace hm := hm.symm
  subst hm
  have hgj : g = (j : Int) ∧ is = t := by
    rcases hgi with ⟨q, hq, h1, h2, h3⟩ | ⟨h1, h2, h3⟩ <;> rcases hj with ⟨q', hq', k1, k2, k3⟩ | ⟨k1, k2, k3⟩
    · have := nd_unique hL.nd hq hq' (by rw [h1, k1])
      subst this
      exact ⟨by rw [h2, k2], by rw [h3, k3]⟩
    · exact absurd h1 (k1 _ (List.getElem_mem hq))
    · exact absurd k1 (h1 _ (List.getElem_mem hq'))
    · exact ⟨by rw [h2, k2]; rfl, by rw [h3, k3]⟩
  obtain ⟨rfl, rfl⟩ := hgj
  have e3 : ((j : Int) != (j : Int)) = false := bne_self_eq_false _
  have e4 : aEq .bool (.bool is) (.bool is) = some true := by rw [eq_bool]; simp
  simp only [actE, List.cons_append, List.nil_append]
  simp only [go_sem, Int.reduceBEq, Int.reduceBNe, Int.reduceNeg, reduceCtorEq, Nat.reduceEqDiff, Nat.reduceAdd, Nat.reduceLeDiff, Nat.reduceMul, Nat.reduceSub, Int.reduceToNat, Int.reduceLT, Int.reduceLE, e3, e4]
  exact hQ _ hI3

set_option maxHeartbeats 4000000 in
theorem Plays_body {m0 : Mem} {b c K i n : Nat} {L : List En} {lv wv gv av : Value} {cs : List Value} {ask : Int} (hA0 : ActsV m0 n cs av) (hi : i < n) (hi2 : i < 100) (hI : PlI m0 m b c K L lv wv gv) (hL : LI L i) (hK : m0.next ≤ K) :
    gp R RB.law15_LocalPlays_2 (actE av ask b c i) m fun x e' m' => x = .normal ∧ e' = actE av ask b c (i + 1) ∧ ∃ L' lv' wv' gv', PlI m0 m' b c K L' lv' wv' gv' ∧ LI L' (i + 1) := by
  have hA := hA0.keep hI.loc.ext
  obtain ⟨k, ov, li, u, hel, ho, hol, hoc⟩ := hA.el i hi
  obtain ⟨k', ov', li', u', hel', ho', hol', -⟩ := hA0.el i hi
  obtain ⟨rfl, rfl, rfl⟩ : k = k' ∧ ov = ov' ∧ u = u' := by rw [hel] at hel'; simpa using hel'
  have hov : ∀ x ∈ vb ov, x < m0.next := SlLt.vb_iff.1 hol'
  obtain ⟨ba, oa, a1, -, a3⟩ := hA.sl.cell (k := .i64) hi
  rw [hel] at a3
  have s1 := step1 (show i < 1000000 by omega)
  have e1 : decide ((i : Int) < (n : Int)) = true := decide_eq_true (by omega)
  have e2 : decide ((i : Int) < 100) = true := decide_eq_true (by omega)
  rw [plays_eq]
  simp only [pCond, pAct, pBlk, sqA, sqB, bkC, RB.law15_LocalPlays_2, actE]
  simp only [go_sem, Int.reduceBEq, Int.reduceBNe, Int.reduceNeg, reduceCtorEq, Nat.reduceEqDiff, Nat.reduceAdd, Nat.reduceLeDiff, Nat.reduceMul, Nat.reduceSub, Int.reduceToNat, Int.reduceLT, Int.reduceLE, hA.sl.len, e1, e2, a1, a3]
  have st0 : aStore 3 (m.new (.cells [.int .i64 0, .slice none 0 0, .int .i64 0] (some 3))) (.pointer (some ⟨m.next, 0, none⟩)) (.agg [.int .i64 k, ov, .int .i64 u].toArray) = some (m.new (.cells [.int .i64 k, ov, .int .i64 u] (some 3))) := by
    have h1 : ov.oneCell' = true := ho.one
    have h2 : oneCells [.int .i64 k, ov, .int .i64 u] = true := by unfold oneCells; simp [h1]; exact ⟨rfl, rfl⟩
    simp only [go_sem, Int.reduceBEq, Int.reduceBNe, Int.reduceNeg, reduceCtorEq, Nat.reduceEqDiff, Nat.reduceAdd, Nat.reduceLeDiff, Nat.reduceMul, Nat.reduceSub, Int.reduceToNat, Int.reduceLT, Int.reduceLE, load_w, load_a, store_b, idxS_b, set_blk, new_blk, set_next, new_next, len_s, ldW_c, ldA_c, stB_c, toArr_one, size_one, toList_toArr, size_toArr, List.length_cons, List.length_nil, List.getElem?_cons_zero, List.getElem?_cons_succ, Nat.zero_add, Nat.add_zero, h2]
  simp only [go_sem, Int.reduceBEq, Int.reduceBNe, Int.reduceNeg, reduceCtorEq, Nat.reduceEqDiff, Nat.reduceAdd, Nat.reduceLeDiff, Nat.reduceMul, Nat.reduceSub, Int.reduceToNat, Int.reduceLT, Int.reduceLE, st0]
  have hx1 : Ext m (m.new (.cells [.int .i64 k, ov, .int .i64 u] (some 3))) := Ext.new
  have hb1 : Bk (m.new (.cells [.int .i64 k, ov, .int .i64 u] (some 3))) m.next [.int .i64 k, ov, .int .i64 u] 3 := Bk.new
  have hml := hI.box.lt
  have hcK := hI.cK
  have hx0 := hI.loc.ext.next
  generalize m.new (.cells [.int .i64 k, ov, .int .i64 u] (some 3)) = m1 at hx1 hb1 ⊢
  have hI1 := hI.keep hx1
  refine gp_mono (Q' := fun x e' m' => x = .normal ∧ (∃ rest, e' = actE av ask b c i ++ ((13, .pointer (some ⟨m.next, 0, none⟩)) :: rest)) ∧ ∃ ov li, Bk m' m.next [.int .i64 k, ov, .int .i64 u] 3 ∧ Ext m m' ∧ Sl m' 1 li.length (intsZ li) ov ∧ SlLt m' ov ∧ li.length ≤ 40 ∧ (∀ x ∈ vb ov, x < m0.next)) ?_ ?_
  · have ld : aLoad false 1 m1 (.pointer (some ⟨m.next, 1, none⟩)) = some ov := by simp only [go_sem, Int.reduceBEq, Int.reduceBNe, Int.reduceNeg, reduceCtorEq, Nat.reduceEqDiff, Nat.reduceAdd, Nat.reduceLeDiff, Nat.reduceMul, Nat.reduceSub, Int.reduceToNat, Int.reduceLT, Int.reduceLE, load_w, load_a, store_b, idxS_b, set_blk, new_blk, set_next, new_next, len_s, ldW_c, ldA_c, stB_c, toArr_one, size_one, toList_toArr, size_toArr, List.length_cons, List.length_nil, List.getElem?_cons_zero, List.getElem?_cons_succ, Nat.zero_add, Nat.add_zero, hb1.at_]
    have ho1 := ho.keep hol hx1
    simp only [pCut, pBlk, sqA, sqB, bkC, RB.law15_LocalPlays_2, actE, List.cons_append, List.nil_append]
    simp only [go_sem, Int.reduceBEq, Int.reduceBNe, Int.reduceNeg, reduceCtorEq, Nat.reduceEqDiff, Nat.reduceAdd, Nat.reduceLeDiff, Nat.reduceMul, Nat.reduceSub, Int.reduceToNat, Int.reduceLT, Int.reduceLE, ld, ho1.len]
    by_cases h40 : 40 < li.length
    · have e4 : decide ((40 : Int) < (li.length : Int)) = true := decide_eq_true (by omega)
      obtain ⟨v', t1, t2, t3, -⟩ := ho1.to (hoc.keep hol hx1) (k := .i64) (i := 40) (by omega)
      have hv' : ∀ x ∈ vb v', x < m0.next := by
        have : vb v' = vb ov ∨ vb v' = [] := by
          unfold aSub at t1
          split at t1
          · obtain ⟨_, -, h2⟩ := Option.bind_eq_some_iff.1 t1
            cases h2; exact .inr rfl
          · split at t1
            · obtain ⟨r, -, h2⟩ := Option.bind_eq_some_iff.1 t1
              unfold cutAt at h2
              split at h2
              · cases h2; exact .inl rfl
              · cases h2
            · cases t1
          · cases t1
        intro x hx
        rcases this with h | h <;> rw [h] at hx
        · exact hov x hx
        · simp at hx
      have hone : v'.oneCell' = true := t2.one
      have st : aStore 1 m1 (.pointer (some ⟨m.next, 1, none⟩)) v' = some (m1.set m.next (some (.cells [.int .i64 k, v', .int .i64 u] (some 3)))) := by
        have : oneCells [v'] = true := by unfold oneCells; simp [hone]
        simp only [aStore, t2.cells]
        simp only [aWrite, hb1.at_]
        simp [this, writeL]
      simp only [Int.cast_ofNat_Int] at t1
      simp only [go_sem, Int.reduceBEq, Int.reduceBNe, Int.reduceNeg, reduceCtorEq, Nat.reduceEqDiff, Nat.reduceAdd, Nat.reduceLeDiff, Nat.reduceMul, Nat.reduceSub, Int.reduceToNat, Int.reduceLT, Int.reduceLE, e4, ld, t1, st]
      have hu : Upd m1 (m1.set m.next (some (.cells [.int .i64 k, v', .int .i64 u] (some 3)))) [m.next] := Upd.set (by simp)
      have hoff : SlOff [m.next] v' := SlOff.vb_iff.2 fun x hx => by have := hv' x hx; simp; omega
      refine ⟨⟨_, rfl⟩, v', li.take 40, ⟨by simp [Mem.set], hb1.lt⟩, hu.ext_of hx1 (by simp), ?_, (t3 (hol.keep hx1)).upd hu, by rw [List.length_take]; omega, hv'⟩
      have hl40 : (li.take 40).length = 40 := by rw [List.length_take]; omega
      rw [hl40]
      have e5 : (intsZ li).take (40 * 1) = intsZ (li.take 40) := by unfold intsZ; rw [List.map_take]
      rw [e5] at t2
      exact t2.upd (t3 (hol.keep hx1)) hoff hu
    · have e4 : decide ((40 : Int) < (li.length : Int)) = false := decide_eq_false (by omega)
      simp only [go_sem, Int.reduceBEq, Int.reduceBNe, Int.reduceNeg, reduceCtorEq, Nat.reduceEqDiff, Nat.reduceAdd, Nat.reduceLeDiff, Nat.reduceMul, Nat.reduceSub, Int.reduceToNat, Int.reduceLT, Int.reduceLE, e4]
      exact ⟨⟨_, rfl⟩, ov, li, hb1, hx1, ho1, hol.keep hx1, by omega, hov⟩
  rintro _ _ m2 ⟨rfl, ⟨rest, rfl⟩, ov2, li2, hb2, hx2, hos2, hol2, hll2, hov2⟩
  have hI2 := hI.keep hx2
  have hn2 := hx2.next
  simp only [actE, List.cons_append, List.nil_append]
  simp only [go_sem, Int.reduceBEq, Int.reduceBNe, Int.reduceNeg, reduceCtorEq, Nat.reduceEqDiff, Nat.reduceAdd, Nat.reduceLeDiff, Nat.reduceMul, Nat.reduceSub, Int.reduceToNat, Int.reduceLT, Int.reduceLE]
  refine gp_mono (Plays_sw (av := av) (ask := ask) hI2 hL hi2 hK (by omega) hb2 hml hos2 hol2 hll2 hov2) ?_
  rintro _ _ m3 ⟨rfl, rfl, L', lv', wv', gv', hI3, hL3⟩
  simp only [go_sem, Int.reduceBEq, Int.reduceBNe, Int.reduceNeg, reduceCtorEq, Nat.reduceEqDiff, Nat.reduceAdd, Nat.reduceLeDiff, Nat.reduceMul, Nat.reduceSub, Int.reduceToNat, Int.reduceLT, Int.reduceLE]
  refine Plays_rest hI3 hL3 hi2 fun m4 hI4 => ?_
  simp only [actE, List.cons_append, List.nil_append]
  simp only [pInc, sqA, sqB, RB.law15_LocalPlays_2]
  simp only [go_sem, Int.reduceBEq, Int.reduceBNe, Int.reduceNeg, reduceCtorEq, Nat.reduceEqDiff, Nat.reduceAdd, Nat.reduceLeDiff, Nat.reduceMul, Nat.reduceSub, Int.reduceToNat, Int.reduceLT, Int.reduceLE, s1]
  exact ⟨L', lv', wv', gv', hI4, hL3⟩
end Go.Am
