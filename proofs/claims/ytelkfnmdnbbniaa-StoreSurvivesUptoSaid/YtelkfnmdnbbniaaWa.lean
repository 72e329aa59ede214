/-
  The store's code: put, blocks.
-/
import Derived.Test.YtelkfnmdnbbniaaUf
import Derived.Test.YtelkfnmdnbbniaaVe
namespace Go.Proofs.Ytelkfnmdnbbniaa
open Go Go.Proofs.Try
set_option maxRecDepth 10000
def DS.rd (s : DS) (q : Nat) : List Int := DS.rdN s.ws q (sec s.dur q) s.ws.length
structure Up (s : DS) : Prop where
 up : s.down = false
 fuse : 0 ≤ s.fuse
theorem Up.read {s : DS} (h : Up s) {n q : Nat} (hq : q < n) : s.read n q = (s.rd q, 0) := by
 unfold DS.read
 rw [if_neg (by omega), h.up]
 simp [DS.sect, sec, DS.rd]
def putW (s : DS) (n : Nat) (a : Int) : List (List Int) → DS × Int
 | [] => s.flush
 | l :: r => if (s.write n a l).2 ≠ 0 then s.write n a l else putW (s.write n a l).1 n (a + 1) r
def wr1 (a : Nat) (l : List (List Int)) : List (Int × List Int) := (List.range l.length).map fun (i : Nat) => (((a + i : Nat) : Int), l.getD i [])
theorem wr1_cons (a : Nat) (l : List Int) (r : List (List Int)) : wr1 a (l :: r) = ((a : Int), l) :: wr1 (a + 1) r := by
 unfold wr1
 rw [List.length_cons, List.range_succ_eq_map, List.map_cons, List.map_map]
 congr 1
 apply List.map_congr_left
 intro i _
 simp only [Function.comp, List.getD_cons_succ]
 congr 2
 omega
theorem Up.ready {s : DS} (h : Up s) : (s.fuse = 1 ∧ s.ready = (s.crash s.kept, 340)) ∨ (s.fuse ≠ 1 ∧ s.ready = ({ s with fuse := max (s.fuse - 1) 0 }, 0)) := by
 unfold DS.ready
 rw [h.up]
 by_cases h1 : s.fuse = 1
 ·exact .inl ⟨h1, by simp [h1]⟩
 ·exact .inr ⟨h1, by simp [h1]⟩
structure Wrote (s : DS) (w : List (Int × List Int)) (s' : DS) : Prop where
 dur : s'.dur = s.dur
 ws : s'.ws = s.ws ++ w
 down : s'.down = false
 fuse : 0 ≤ s'.fuse
 nof : s.fuse = 0 → s'.fuse = 0
 kept : s'.kept = s.kept
theorem Up.crash {s : DS} (h : Up s) (k : List Int) : s.crash k = ⟨crN s.ws k s.dur s.ws.length, [], true, 0, []⟩ := by
 unfold DS.crash
 rw [h.up]
 rfl
theorem Up.write {s : DS} (h : Up s) {n a : Nat} {l : List Int} (ha : a < n) (hl : l.length = 64) :
  (s.fuse = 1 ∧ s.write n a l = (s.crash s.kept, 340)) ∨ ((s.write n a l).2 = 0 ∧ Wrote s [((a : Int), l)] (s.write n a l).1) := by
 have hc : ¬ ((a : Int) < 0 ∨ (n : Int) ≤ a ∨ l.length ≠ 64) := by omega
 have hf := h.fuse
 rcases h.ready with ⟨h1, h2⟩ | ⟨h1, h2⟩
 ·left
  refine ⟨h1, ?_⟩
  unfold DS.write
  rw [if_neg hc, h2]
  simp
 ·right
  unfold DS.write
  rw [if_neg hc, h2]
  exact ⟨rfl, rfl, rfl, h.up, by simp; omega, fun e => (by show max (s.fuse - 1) 0 = 0; omega), rfl⟩
structure PutOk (s : DS) (n a : Nat) (l : List (List Int)) (s' : DS) : Prop where
 dur : s'.dur = flN (s.ws ++ wr1 a l) s.dur (s.ws ++ wr1 a l).length
 ws : s'.ws = []
 down : s'.down = false
 fuse : 0 ≤ s'.fuse
 nof : s.fuse = 0 → s'.fuse = 0
 kept : s'.kept = s.kept
structure PutBad (s : DS) (n a : Nat) (l : List (List Int)) (s' : DS) : Prop where
 fz : s.fuse ≠ 0
 st : ∃ j, j ≤ l.length ∧ s' = ⟨crN (s.ws ++ wr1 a (l.take j)) s.kept s.dur (s.ws ++ wr1 a (l.take j)).length, [], true, 0, []⟩
theorem wr1_nil (a : Nat) : wr1 a [] = [] := rfl
theorem putW_cases {n : Nat} : ∀ (l : List (List Int)) {s : DS} {a : Nat}, Up s → a + l.length ≤ n → (∀ x ∈ l, x.length = 64) →
  ((putW s n a l).2 = 0 ∧ PutOk s n a l (putW s n a l).1) ∨ ((putW s n a l).2 = 340 ∧ PutBad s n a l (putW s n a l).1)
 | [], s, a, h, _, _ => by
  have hf := h.fuse
  unfold putW DS.flush
  rcases h.ready with ⟨h1, h2⟩ | ⟨h1, h2⟩
  ·right
   rw [h2]
   refine ⟨rfl, by omega, 0, by simp, ?_⟩
   simp [h.crash, wr1_nil]
  ·left
   rw [h2]
   refine ⟨rfl, ?_, rfl, h.up, by simp; omega, fun e => (by show max (s.fuse - 1) 0 = 0; omega), rfl⟩
   simp [wr1_nil]
 | x :: r, s, a, h, ha, hl => by
  have hf := h.fuse
  rw [List.length_cons] at ha
  rcases h.write (n := n) (a := a) (l := x) (by omega) (hl x (by simp)) with ⟨h1, h2⟩ | ⟨h1, h2⟩
  ·right
   unfold putW
   rw [h2, if_pos (by simp)]
   refine ⟨rfl, by omega, 0, by simp, ?_⟩
   simp [h.crash, wr1_nil]
  ·unfold putW
   rw [if_neg (by simp [h1])]
   have hup : Up (s.write n a x).1 := ⟨h2.down, h2.fuse⟩
   rw [show ((a : Int) + 1) = ((a + 1 : Nat) : Int) from rfl]
   rcases putW_cases r (n := n) (s := (s.write n a x).1) (a := a + 1) hup (by omega) (fun y hy => hl y (by simp [hy])) with ⟨h3, h4⟩ | ⟨h3, h4⟩
   ·left
    refine ⟨h3, ?_, h4.ws, h4.down, h4.fuse, fun e => h4.nof (h2.nof e), h4.kept.trans h2.kept⟩
    rw [h4.dur, h2.dur, h2.ws, wr1_cons, List.append_assoc, List.singleton_append]
   ·right
    obtain ⟨h5, j, hj, h6⟩ := h4
    refine ⟨h3, fun e => h5 (h2.nof e), j + 1, by simp; omega, ?_⟩
    rw [h6, h2.dur, h2.ws, h2.kept, List.take_succ_cons, wr1_cons, List.append_assoc, List.singleton_append]
theorem wr1_ok {n a : Nat} {l : List (List Int)} (ha : a + l.length ≤ n) (hl : ∀ x ∈ l, x.length = 64) : ∀ w ∈ wr1 a l, 0 ≤ w.1 ∧ w.1 < n ∧ w.2.length = 64 := by
 intro w hw
 obtain ⟨i, hi, rfl⟩ := List.mem_map.1 hw
 rw [List.mem_range] at hi
 refine ⟨by simp; omega, by simp; omega, ?_⟩
 simp only [List.getD_eq_getElem?_getD, List.getElem?_eq_getElem hi, Option.getD_some]
 exact hl _ (List.getElem_mem _)
theorem wr1_snoc (a : Nat) (l : List (List Int)) (x : List Int) : wr1 a (l ++ [x]) = wr1 a l ++ [(((a + l.length : Nat) : Int), x)] := by
 unfold wr1
 rw [List.length_append, List.length_singleton, List.range_succ, List.map_append]
 congr 1
 ·apply List.map_congr_left
  intro i hi
  rw [List.mem_range] at hi
  simp [List.getD_eq_getElem?_getD, List.getElem?_append_left hi]
 ·simp [List.getD_eq_getElem?_getD]
theorem rdN_wr {ws : List (Int × List Int)} {a q : Nat} {l0 : List Int} : ∀ (l : List (List Int)), DS.rdN (ws ++ wr1 a l) q l0 (ws ++ wr1 a l).length = if a ≤ q ∧ q < a + l.length then l.getD (q - a) [] else DS.rdN ws q l0 ws.length := by
 intro l
 induction h : l.length generalizing l with
 | zero =>
  obtain rfl := List.length_eq_zero_iff.1 h
  rw [wr1_nil, List.append_nil, if_neg (by omega)]
 | succ k ih =>
  obtain ⟨l', x, rfl⟩ : ∃ l' x, l = l' ++ [x] := ⟨l.dropLast, l.getLast (by intro e; simp [e] at h), (List.dropLast_concat_getLast _).symm⟩
  have hk : l'.length = k := by simpa using h
  rw [wr1_snoc, ← List.append_assoc, rdN_snoc, ih l' hk, hk]
  dsimp only
  by_cases e : a + k = q
  ·subst e
   rw [if_pos (by omega), if_pos (by omega)]
   simp [List.getD_eq_getElem?_getD, hk]
  ·rw [if_neg (by omega)]
   by_cases e2 : a ≤ q ∧ q < a + k
   ·rw [if_pos e2, if_pos (by omega)]
    simp only [List.getD_eq_getElem?_getD]
    rw [List.getElem?_append_left (by omega)]
   ·rw [if_neg e2, if_neg (by omega)]
def updD (D : Nat → List Int) (a : Nat) (l : List (List Int)) : Nat → List Int := fun q => if a ≤ q ∧ q < a + l.length then l.getD (q - a) [] else D q
theorem PutOk.rd {s s' : DS} {n a : Nat} {l : List (List Int)} (h : PutOk s n a l s') (hok : s.ok n) (ha : a + l.length ≤ n) (hl : ∀ x ∈ l, x.length = 64) (q : Nat) : s'.rd q = updD s.rd a l q := by
 unfold DS.rd updD
 rw [h.ws]
 show sec s'.dur q = _
 rw [h.dur, sec_flN (n := n) (fun w hw => ?_) hok.dur, rdN_wr]
 rcases List.mem_append.1 hw with hw | hw
 ·exact hok.ws w hw
 ·exact wr1_ok ha hl w hw
theorem sec_tear {n a q : Nat} {K D : List Int} (hD : D.length = n * 64) : ∀ (l : List (List Int)), a + l.length ≤ n → (∀ x ∈ l, x.length = 64) →
  sec (crN (wr1 a l) K D (wr1 a l).length) q = if a ≤ q ∧ q < a + l.length then (l.getD (q - a) []).take (keepN K (q - a)) ++ (sec D q).drop (keepN K (q - a)) else sec D q := by
 intro l
 have key : ∀ k, k ≤ l.length → a + l.length ≤ n → (∀ x ∈ l, x.length = 64) → sec (crN (wr1 a l) K D k) q = if a ≤ q ∧ q < a + k then (l.getD (q - a) []).take (keepN K (q - a)) ++ (sec D q).drop (keepN K (q - a)) else sec D q := by
  intro k
  induction k with
  | zero =>
   intro _ _ _
   rw [if_neg (by omega)]
   rfl
  | succ k ih =>
   intro hk ha hl
   have hw : (wr1 a l)[k]? = some (((a + k : Nat) : Int), l.getD k []) := by
    unfold wr1
    rw [List.getElem?_map, List.getElem?_range (by omega)]
    rfl
   rw [sec_crN (wr1_ok ha hl) hD hw, ih (by omega) ha hl]
   dsimp only
   rw [Int.toNat_natCast]
   by_cases e : a + k = q
   ·subst e
    rw [if_pos rfl, if_neg (by omega), if_pos (by omega), show a + k - a = k by omega]
   ·rw [if_neg e]
    by_cases e2 : a ≤ q ∧ q < a + k
    ·rw [if_pos e2, if_pos (by omega)]
    ·rw [if_neg e2, if_neg (by omega)]
 intro ha hl
 have hlen : (wr1 a l).length = l.length := by simp [wr1]
 rw [hlen]
 exact key l.length (Nat.le_refl _) ha hl
def Torn (D : Nat → List Int) (a : Nat) (l : List (List Int)) (D' : Nat → List Int) : Prop :=
 ∀ q, D' q = D q ∨ (a ≤ q ∧ q < a + l.length ∧ ∃ k, 1 ≤ k ∧ D' q = (l.getD (q - a) []).take k ++ (D q).drop k)
theorem PutBad.torn {s s' : DS} {n a : Nat} {l : List (List Int)} (h : PutBad s n a l s') (hok : s.ok n) (hw : s.ws = []) (ha : a + l.length ≤ n) (hl : ∀ x ∈ l, x.length = 64) : Torn s.rd a l s'.rd := by
 intro q
 obtain ⟨_, j, hj, h2⟩ := h
 have e1 : s.rd q = sec s.dur q := by unfold DS.rd; rw [hw]; rfl
 have e2 : s'.rd q = sec s'.dur q := by unfold DS.rd; rw [h2]; rfl
 rw [e1, e2, h2]
 dsimp only
 rw [hw, List.nil_append, sec_tear hok.dur (l.take j) (by simp; omega) (fun x hx => hl x (List.mem_of_mem_take hx))]
 have hlt : (l.take j).length = j := by simp; omega
 rw [hlt]
 by_cases e : a ≤ q ∧ q < a + j
 ·rw [if_pos e]
  have hg : (l.take j).getD (q - a) [] = l.getD (q - a) [] := by
   simp only [List.getD_eq_getElem?_getD]
   rw [List.getElem?_take_of_lt (by omega)]
  rw [hg]
  rcases Nat.eq_zero_or_pos (keepN s.kept (q - a)) with e3 | e3
  ·left
   rw [e3]
   rfl
  ·exact .inr ⟨e.1, by omega, _, e3, rfl⟩
 ·rw [if_neg e]
  exact .inl rfl
theorem PutOk.ok {s s' : DS} {n a : Nat} {l : List (List Int)} (h : PutOk s n a l s') : Up s' ∧ s'.ws = [] := ⟨⟨h.down, h.fuse⟩, h.ws⟩
abbrev kb (a : ByteArray) : List UInt8 := a.data.toList
theorem kb_inj {a b : ByteArray} (h : kb a = kb b) : a = b := by
 cases a; cases b
 simp only [kb] at h
 rw [Array.toList_inj.1 h]
abbrev ltK (a b : ByteArray) : Prop := kb a < kb b
theorem ltK_irr (a : ByteArray) : ¬ ltK a a := List.lt_irrefl _
theorem ltK_trans {a b c : ByteArray} (h : ltK a b) (k : ltK b c) : ltK a c := List.lt_trans h k
theorem ltK_tri {a b : ByteArray} (h : ¬ ltK a b) (hn : a ≠ b) : ltK b a := by
 have h1 : kb b ≤ kb a := List.not_lt.1 h
 rcases List.le_iff_lt_or_eq.1 h1 with h2 | h2
 ·exact h2
 ·exact absurd (kb_inj h2).symm hn
theorem ltK_ne {a b : ByteArray} (h : ltK a b) : a ≠ b := fun e => ltK_irr b (e ▸ h)
def lkR (k : ByteArray) : List Rc → Option (List Int)
 | [] => none
 | x :: l => if x.1 = k then some x.2 else lkR k l
def Srt (L : List Rc) : Prop := L.Pairwise fun a b => ltK a.1 b.1
theorem lkR_mem {k : ByteArray} {v : List Int} : ∀ {L : List Rc}, lkR k L = some v → (k, v) ∈ L
 | [], h => by cases h
 | x :: l, h => by
  unfold lkR at h
  by_cases e : x.1 = k
  ·rw [if_pos e] at h
   cases h
   rw [← e]
   simp
  ·rw [if_neg e] at h
   exact List.mem_cons_of_mem _ (lkR_mem h)
theorem lkR_at {k : ByteArray} {v : List Int} : ∀ {L : List Rc}, Srt L → (k, v) ∈ L → lkR k L = some v
 | [], _, h => by simp at h
 | x :: l, hs, h => by
  unfold lkR
  have hs' := List.pairwise_cons.1 hs
  rcases List.mem_cons.1 h with h | h
  ·rw [← h, if_pos rfl]
  ·have hne : x.1 ≠ k := ltK_ne (hs'.1 _ h)
   rw [if_neg hne]
   exact lkR_at hs'.2 h
def wgo (r : Rc) : Bool → List Rc → List Rc
 | d, [] => if d then [] else [r]
 | d, x :: l =>
  if d = false ∧ ltK r.1 x.1 then r :: (if x.1 = r.1 then wgo r true l else x :: wgo r true l)
  else if x.1 = r.1 then (if d then wgo r true l else r :: wgo r true l) else x :: wgo r d l
def withR (L : List Rc) (r : Rc) : List Rc := wgo r (decide (r.2.length = 0)) L
def afterR (L : List Rc) (t : List Rc) : List Rc := t.foldl withR L
theorem wgo_lk (r : Rc) (k : ByteArray) : ∀ (L : List Rc) (d : Bool), lkR k (wgo r d L) = if r.1 = k then (if d then none else some r.2) else lkR k L := by
 have ht : ∀ L : List Rc, lkR k (wgo r true L) = if r.1 = k then none else lkR k L := by
  intro L
  induction L with
  | nil => simp [wgo, lkR]
  | cons x l ih =>
   unfold wgo
   rw [if_neg (by simp)]
   by_cases e : x.1 = r.1
   ·rw [if_pos e, if_pos rfl, ih]
    by_cases e2 : r.1 = k
    ·rw [if_pos e2, if_pos e2]
    ·rw [if_neg e2, if_neg e2, lkR, if_neg (by rw [e]; exact e2)]
   ·rw [if_neg e, lkR, ih]
    by_cases e2 : r.1 = k
    ·rw [if_pos e2, if_neg (by rw [← e2]; exact e), if_pos e2]
    ·rw [if_neg e2, if_neg e2, lkR]
 intro L d
 cases d with
 | true => rw [ht]; simp
 | false =>
  induction L with
  | nil => by_cases e : r.1 = k <;> simp [wgo, lkR, e]
  | cons x l ih =>
   unfold wgo
   by_cases h1 : ltK r.1 x.1
   ·rw [if_pos ⟨rfl, h1⟩, if_neg (fun e => ltK_irr _ (e ▸ h1)), lkR]
    by_cases e : r.1 = k
    ·rw [if_pos e, if_pos e]
     simp
    ·rw [if_neg e, if_neg e, lkR, lkR, ht, if_neg e]
   ·rw [if_neg (by simp [h1])]
    by_cases e : x.1 = r.1
    ·rw [if_pos e]
     simp only [Bool.false_eq_true, if_false]
     rw [lkR]
     by_cases e2 : r.1 = k
     ·rw [if_pos e2, if_pos e2]
     ·rw [if_neg e2, if_neg e2, ht, if_neg e2, lkR, if_neg (by rw [e]; exact e2)]
    ·rw [if_neg e, lkR, ih]
     by_cases e2 : r.1 = k
     ·rw [if_neg (by rw [← e2]; exact e), if_pos e2, if_pos e2]
     ·rw [if_neg e2, if_neg e2, lkR]
theorem withR_lk (L : List Rc) (r : Rc) (k : ByteArray) : lkR k (withR L r) = if r.1 = k then (if r.2.length = 0 then none else some r.2) else lkR k L := by
 unfold withR
 rw [wgo_lk]
 simp
theorem wgo_mem {r : Rc} {x : Rc} : ∀ {L : List Rc} {d : Bool}, x ∈ wgo r d L → (x = r ∧ d = false) ∨ x ∈ L
 | [], d, h => by
  unfold wgo at h
  cases d with
  | true => simp at h
  | false => simp at h; exact .inl ⟨h, rfl⟩
 | y :: l, d, h => by
  have hc : ∀ {P : Prop} {d'}, (d' = false → d = false) → x ∈ wgo r d' l → (x = r ∧ d = false) ∨ x ∈ y :: l := fun hd h => by
   rcases wgo_mem h with h | h
   ·exact .inl ⟨h.1, hd h.2⟩
   ·exact .inr (List.mem_cons_of_mem _ h)
  unfold wgo at h
  split at h
  ·rename_i hd
   rcases List.mem_cons.1 h with h | h
   ·exact .inl ⟨h, hd.1⟩
   ·split at h
    ·exact hc (P := True) (by simp) h
    ·rcases List.mem_cons.1 h with h | h
     ·exact .inr (by simp [h])
     ·exact hc (P := True) (by simp) h
  ·split at h
   ·split at h
    ·exact hc (P := True) (by simp) h
    ·rename_i hd
     rcases List.mem_cons.1 h with h | h
     ·exact .inl ⟨h, by simpa using hd⟩
     ·exact hc (P := True) (by simp) h
   ·rcases List.mem_cons.1 h with h | h
    ·exact .inr (by simp [h])
    ·exact hc (P := True) id h
theorem wgo_srt (r : Rc) : ∀ {L : List Rc} (d : Bool), Srt L → Srt (wgo r d L)
 | [], d, _ => by
  unfold wgo
  cases d
  ·exact List.pairwise_singleton _ _
  ·exact List.Pairwise.nil
 | x :: l, d, h => by
  have h' := List.pairwise_cons.1 h
  unfold wgo
  split
  ·rename_i hd
   rw [if_neg (fun e => ltK_irr _ (e ▸ hd.2))]
   refine List.pairwise_cons.2 ⟨fun y hy => ?_, List.pairwise_cons.2 ⟨fun y hy => ?_, wgo_srt r true h'.2⟩⟩
   ·rcases List.mem_cons.1 hy with rfl | hy
    ·exact hd.2
    ·rcases wgo_mem hy with ⟨_, h⟩ | hy
     ·cases h
     ·exact ltK_trans hd.2 (h'.1 y hy)
   ·rcases wgo_mem hy with ⟨_, h⟩ | hy
    ·cases h
    ·exact h'.1 y hy
  ·rename_i hd
   split
   ·rename_i e
    split
    ·exact wgo_srt r true h'.2
    ·refine List.pairwise_cons.2 ⟨fun y hy => ?_, wgo_srt r true h'.2⟩
     rcases wgo_mem hy with ⟨_, h⟩ | hy
     ·cases h
     ·rw [← e]
      exact h'.1 y hy
   ·rename_i e
    refine List.pairwise_cons.2 ⟨fun y hy => ?_, wgo_srt r d h'.2⟩
    rcases wgo_mem hy with ⟨rfl, h⟩ | hy
    ·exact ltK_tri (fun h2 => hd ⟨h, h2⟩) (fun e2 => e e2.symm)
    ·exact h'.1 y hy
theorem withR_srt {L : List Rc} (h : Srt L) (r : Rc) : Srt (withR L r) := wgo_srt r _ h
theorem afterR_srt : ∀ {t L : List Rc}, Srt L → Srt (afterR L t)
 | [], _, h => h
 | r :: _, _, h => afterR_srt (L := withR _ r) (withR_srt h r)
theorem withR_mem {L : List Rc} {r x : Rc} (h : x ∈ withR L r) : (x = r ∧ r.2.length ≠ 0) ∨ x ∈ L := by
 rcases wgo_mem h with ⟨h1, h2⟩ | h
 ·exact .inl ⟨h1, by simpa using h2⟩
 ·exact .inr h
theorem afterR_mem {x : Rc} : ∀ {t L : List Rc}, x ∈ afterR L t → (x ∈ t ∧ x.2.length ≠ 0) ∨ x ∈ L
 | [], _, h => .inr h
 | r :: t, L, h => by
  rcases afterR_mem (t := t) (L := withR L r) h with h | h
  ·exact .inl ⟨List.mem_cons_of_mem _ h.1, h.2⟩
  ·rcases withR_mem h with ⟨h, h2⟩ | h
   ·exact .inl ⟨by simp [h], by rw [h]; exact h2⟩
   ·exact .inr h
theorem afterR_append (L t u : List Rc) : afterR L (t ++ u) = afterR (afterR L t) u := by simp [afterR]
theorem wgo_end {r : Rc} : ∀ {A : List Rc}, (∀ a ∈ A, ltK a.1 r.1) → wgo r false A = A ++ [r]
 | [], _ => rfl
 | a :: A, h => by
  have h1 := h a (by simp)
  unfold wgo
  rw [if_neg (fun hc => ltK_irr _ (ltK_trans h1 hc.2)), if_neg (ltK_ne h1), wgo_end fun b hb => h b (by simp [hb])]
  rfl
theorem afterR_self : ∀ {L A : List Rc}, Srt (A ++ L) → (∀ r ∈ L, r.2.length ≠ 0) → afterR A L = A ++ L
 | [], A, _, _ => by simp [afterR]
 | r :: L, A, h, hv => by
  have h1 : withR A r = A ++ [r] := by
   unfold withR
   rw [show decide (r.2.length = 0) = false by simpa using hv r (by simp)]
   refine wgo_end fun a ha => ?_
   exact (List.pairwise_append.1 h).2.2 a ha r (by simp)
  show afterR (withR A r) L = _
  rw [h1, afterR_self (by simpa using h) fun x hx => hv x (by simp [hx])]
  simp
def plen (L : List Rc) : Nat := (payl L).length
theorem plen_cons (r : Rc) (L : List Rc) : plen (r :: L) = r.1.size + r.2.length + 5 + plen L := by
 unfold plen
 rw [show payl (r :: L) = pay1 r ++ payl L by simp [payl], List.length_append, pay1_len]
theorem plen_nil : plen [] = 0 := rfl
theorem plen_append (L M : List Rc) : plen (L ++ M) = plen L + plen M := by simp [plen, payl_append]
theorem wgo_plen (r : Rc) : ∀ (L : List Rc) (d : Bool), plen (wgo r d L) ≤ plen L + if d then 0 else r.1.size + r.2.length + 5
 | [], d => by
  unfold wgo
  cases d <;> simp [plen_cons, plen_nil]
 | x :: l, d => by
  have h1 := wgo_plen r l true
  have h2 := wgo_plen r l d
  rw [if_pos rfl] at h1
  unfold wgo
  split
  ·rename_i hd
   rw [hd.1]
   split
   ·simp only [plen_cons, Bool.false_eq_true, if_false]; omega
   ·simp only [plen_cons, Bool.false_eq_true, if_false]; omega
  ·split
   ·cases d
    ·simp only [plen_cons, Bool.false_eq_true, if_false]; omega
    ·simp only [plen_cons, if_true]; omega
   ·simp only [plen_cons]; omega
theorem withR_plen (L : List Rc) (r : Rc) : plen (withR L r) ≤ plen L + (r.1.size + r.2.length + 5) := by
 have := wgo_plen r L (decide (r.2.length = 0))
 unfold withR
 split at this <;> omega
theorem afterR_plen : ∀ (t L : List Rc), plen (afterR L t) ≤ plen L + plen t
 | [], L => by simp [afterR, plen_nil]
 | r :: t, L => by
  have h1 := afterR_plen t (withR L r)
  have h2 := withR_plen L r
  rw [plen_cons]
  show plen (afterR (withR L r) t) ≤ _
  omega
def secs (p : Nat) : Nat := 1 + (p + 62) / 63
theorem secs_mono {p q : Nat} (h : p ≤ q) : secs p ≤ secs q := by unfold secs; omega
theorem secs_add (p q : Nat) : secs (p + q) ≤ secs p + secs q := by unfold secs; omega
def snapN (L : List Rc) : Nat := if L = [] then 0 else secs (plen L)
theorem snapN_after (L t : List Rc) : snapN (afterR L t) ≤ snapN L + secs (plen t) := by
 have h := afterR_plen t L
 unfold snapN
 by_cases e : afterR L t = []
 ·rw [if_pos e]; omega
 ·rw [if_neg e]
  by_cases e2 : L = []
  ·subst e2
   rw [plen_nil] at h
   have := secs_mono (p := plen (afterR [] t)) (q := plen t) (by omega)
   omega
  ·rw [if_neg e2]
   exact Nat.le_trans (secs_mono h) (secs_add _ _)
open Classical in
noncomputable def only (F : PH) (fs : Nat → Prop) : PH := fun b => if fs b then F b else none
theorem Spec.side {P : Program} {f : FuncId} {args : Array Value} {F : PH} {fs : Nat → Prop} {R : Value → PH → Prop} (hdom : ∀ b, fs b → F b ≠ none) (h : Spec P f args (mns F fs) R) :
  Spec P f args F fun v F' => R v (mns F' fs) ∧ ∀ b, fs b → F' b = F b := by
 have e : F = (mns F fs).and (only F fs) := by
  funext b
  by_cases hb : fs b
  ·rw [PH.and_right (by simp [mns, hb])]
   simp [only, hb]
  ·cases hf : F b with
   | some o => rw [PH.and_left (o := o) (by rw [mns_of hb, hf])]
   | none => rw [PH.and_right (by rw [mns_of hb, hf])]; simp [only, hb]
 have hb := h.beside (H := only F fs) (fun b o hb => by
  unfold only at hb
  split at hb
  ·rename_i hf
   simp [mns, hf]
  ·cases hb)
 rw [← e] at hb
 refine hb.mono ?_
 rintro v F' ⟨G, hr, rfl, hd⟩
 have hG : ∀ b, fs b → G b = none := fun b hb => by
  cases hf : F b with
  | none => exact absurd hf (hdom b hb)
  | some o => exact hd b o (by simp [only, hb, hf])
 have e2 : mns (G.and (only F fs)) fs = G := by
  funext b
  by_cases hb : fs b
  ·simp [mns, hb, hG b hb]
  ·rw [mns_of hb]
   cases hg : G b with
   | some o => rw [PH.and_left hg]
   | none => rw [PH.and_right hg]; simp [only, hb]
 rw [e2]
 exact ⟨hr, fun b hb => by rw [PH.and_right (hG b hb)]; simp [only, hb]⟩
theorem mns_mns (F : PH) (fp fq : Nat → Prop) : mns (mns F fp) fq = mns F (fun b => fp b ∨ fq b) := by
 funext b
 by_cases h1 : fp b <;> by_cases h2 : fq b <;> simp [mns, h1, h2]
theorem mns_congr {F : PH} {fp fq : Nat → Prop} (h : ∀ b, fp b ↔ fq b) : mns F fp = mns F fq := by
 have : fp = fq := funext fun b => propext (h b)
 rw [this]
theorem Step.side {F F' : PH} {fs fp fq : Nat → Prop} (h : Step fp (mns F fs) fq (mns F' fs)) (hs : ∀ b, fs b → F' b = F b) (hd : ∀ b, fq b → mns F' fs b ≠ none) : Step fp F fq F' := by
 refine ⟨fun b o hb hn => ?_, fun b hb => ?_⟩
 ·by_cases e : fs b
  ·rw [hs b e]; exact hb
  ·have := h.keep b o (by rw [mns_of e]; exact hb) hn
   rwa [mns_of e] at this
 ·have hns : ¬ fs b := fun e => hd b hb (by simp [mns, e])
  rcases h.new b hb with h1 | h1
  ·exact .inl h1
  ·rw [mns_of hns] at h1
   exact .inr h1
structure SS where
 size : Nat
 half : Nat
 num : Int
 used : Nat
 L : List Rc
 broken : Bool
abbrev scells (d cm : Nat) (x : SS) : Array Value := #[.pointer (some ⟨d, 0, none⟩), .int .i64 (x.size : Int), .int .i64 (x.half : Int), .int .u64 x.num, .int .i64 (x.used : Int), .map (some cm), .bool x.broken]
def Vals (V : PH) (m : ByteArray → Option Value) (L : List Rc) : Prop :=
 ∀ k, (lkR k L = none → m k = none) ∧ (∀ v, lkR k L = some v → ∃ s : Sl, m k = some s.v ∧ RdS V s 1 (u8s v))
theorem Vals.le {V W : PH} {m : ByteArray → Option Value} {L : List Rc} (h : Vals V m L) (l : V.le W) : Vals W m L := fun k => ⟨(h k).1, fun v hv => by
 obtain ⟨s, h1, h2⟩ := (h k).2 v hv
 exact ⟨s, h1, h2.le l⟩⟩
structure StO (C V : PH) (st cm d : Nat) (x : SS) : Prop where
 hs : C st = some (.cells (scells d cm x) 84 (0, 0))
 hm : ∃ o m, C cm = some o ∧ MapE m o ∧ Vals V m x.L
 srt : Srt x.L
theorem StO.le {C V D W : PH} {st cm d : Nat} {x : SS} (h : StO C V st cm d x) (l : C.le D) (k : V.le W) : StO D W st cm d x := by
 obtain ⟨o, m, h1, h2, h3⟩ := h.hm
 exact ⟨l _ _ h.hs, ⟨o, m, l _ _ h1, h2, h3.le k⟩, h.srt⟩
theorem StO.ne {C V : PH} {st cm d : Nat} {x : SS} (h : StO C V st cm d x) : st ≠ cm := by
 rintro rfl
 obtain ⟨o, m, h1, ⟨es, c, L, rfl, _⟩, _⟩ := h.hm
 have := h.hs.symm.trans h1
 cases this
abbrev fs2 (st cm : Nat) : Nat → Prop := fun b => b = st ∨ b = cm
structure Act (F : PH) (fp : Nat → Prop) (n : Nat) (s : DS) (st cm d : Nat) (x : SS) : Prop where
 hd : ∃ fd K, DRep (mns F (fs2 st cm)) K d fd n s ∧ ∀ b, fp b ↔ (fd b ∨ b = st ∨ b = cm)
 ho : StO F (mns F fp) st cm d x
abbrev magic : Int := 461430681189
def mk0 (b : List Int) : Int := b.headD 0
def nm (b : List Int) : Int := un8 ((b.drop 1).take 8)
def vl (b : List Int) : Int := un8 ((b.drop 9).take 8)
theorem mk_hdl (m a v : Int) : mk0 (hdl m a v) = m := rfl
theorem nm_hdl {m a v : Int} (h1 : 0 ≤ a) (h2 : a < 18446744073709551616) : nm (hdl m a v) = a := by
 have e : ((hdl m a v).drop 1).take 8 = be8 a := rfl
 unfold nm
 rw [e, un8_be8 h1 h2]
theorem vl_hdl {m a v : Int} (h1 : 0 ≤ v) (h2 : v < 18446744073709551616) : vl (hdl m a v) = v := by
 have e : ((hdl m a v).drop 9).take 8 = be8 v := rfl
 unfold vl
 rw [e, un8_be8 h1 h2]
theorem byt_app {l m : List Int} (h : Byt l) (k : Byt m) : Byt (l ++ m) := fun x hx => by
 rcases List.mem_append.1 hx with hx | hx
 ·exact h x hx
 ·exact k x hx
theorem byt_rep (n : Nat) : Byt (List.replicate n 0) := fun x hx => by
 rw [(List.mem_replicate.1 hx).2]
 omega
theorem byt_take {l : List Int} (h : Byt l) (k : Nat) : Byt (l.take k) := fun x hx => h x (List.mem_of_mem_take hx)
theorem byt_drop {l : List Int} (h : Byt l) (k : Nat) : Byt (l.drop k) := fun x hx => h x (List.mem_of_mem_drop hx)
theorem byt_hdl {m a v : Int} (h0 : 0 ≤ m) (h1 : m ≤ 255) : Byt (hdl m a v) := by
 unfold hdl
 refine byt_app (byt_app (byt_app (fun x hx => ?_) (be8_byt a)) (be8_byt v)) (byt_rep 47)
 rw [List.mem_singleton.1 hx]
 exact ⟨h0, h1⟩
def fur (d : List Int) (i : Nat) : List Int := 2 :: ((d.drop (63 * i)).take 63 ++ List.replicate (63 - (d.drop (63 * i)).length) 0)
theorem fur_len (d : List Int) (i : Nat) : (fur d i).length = 64 := by
 simp only [fur, List.length_cons, List.length_append, List.length_take, List.length_replicate]
 omega
theorem fur_byt {d : List Int} (h : Byt d) (i : Nat) : Byt (fur d i) := by
 intro x hx
 rcases List.mem_cons.1 hx with rfl | hx
 ·omega
 ·exact byt_app (byt_take (byt_drop h _) _) (byt_rep _) x hx
def blks (m num : Int) (d : List Int) : List (List Int) := hdl m num d.length :: (List.range ((d.length + 62) / 63)).map (fur d)
theorem blks_len (m num : Int) (d : List Int) : (blks m num d).length = secs d.length := by
 simp only [blks, List.length_cons, List.length_map, List.length_range, secs]
 omega
theorem blks_ok {m num : Int} {d : List Int} (h0 : 0 ≤ m) (h1 : m ≤ 255) (hd : Byt d) : ∀ x ∈ blks m num d, x.length = 64 ∧ Byt x := by
 intro x hx
 rcases List.mem_cons.1 hx with rfl | hx
 ·exact ⟨rfl, byt_hdl h0 h1⟩
 ·obtain ⟨i, _, rfl⟩ := List.mem_map.1 hx
  exact ⟨fur_len _ _, fur_byt hd _⟩
theorem blks_zero (m num : Int) (d : List Int) : (blks m num d).getD 0 [] = hdl m num d.length := rfl
theorem blks_succ {m num : Int} {d : List Int} {i : Nat} (h : i + 1 < (blks m num d).length) : (blks m num d).getD (i + 1) [] = fur d i := by
 rw [blks_len] at h
 unfold secs at h
 unfold blks
 rw [List.getD_cons_succ, List.getD_eq_getElem?_getD, List.getElem?_map, List.getElem?_range (by omega)]
 rfl
theorem blks_mk {m num : Int} {d : List Int} {i : Nat} (h : i < (blks m num d).length) : mk0 ((blks m num d).getD i []) = if i = 0 then m else 2 := by
 cases i with
 | zero => rfl
 | succ i => rw [blks_succ h]; rfl
def NoHead (b : List Int) (num : Int) : Prop := ¬ (mk0 b = 1 ∧ nm b = num)
def LowHead (b : List Int) (num : Int) : Prop := mk0 b = 1 → nm b ≤ num
def NoHdr (b : List Int) (num : Int) : Prop := ¬ (mk0 b = 1 ∧ vl b = magic ∧ num ≤ nm b)
theorem NoHead.mk {b : List Int} {num : Int} (h : mk0 b ≠ 1) : NoHead b num := fun e => h e.1
theorem LowHead.mk {b : List Int} {num : Int} (h : mk0 b ≠ 1) : LowHead b num := fun e => absurd e h
theorem NoHdr.mk {b : List Int} {num : Int} (h : mk0 b ≠ 1) : NoHdr b num := fun e => h e.1
theorem LowHead.up {b : List Int} {num : Int} (h : LowHead b num) : LowHead b (num + 1) := fun e => by
 have := h e
 omega
theorem LowHead.no {b : List Int} {num : Int} (h : LowHead b num) : NoHead b (num + 1) := fun e => by
 have := h e.1
 omega
def ValidT (t : List Rc) : Prop := ∀ r ∈ t, 1 ≤ r.1.size ∧ r.1.size ≤ 255 ∧ r.2.length ≤ 1048576 ∧ Byt r.2
theorem payl_byt {t : List Rc} (h : ValidT t) : Byt (payl t) := by
 intro x hx
 obtain ⟨r, hr, hx⟩ := List.mem_flatMap.1 hx
 unfold pay1 at hx
 have hw : ∀ y : Int, 0 ≤ IntKind.u8.wrap y ∧ IntKind.u8.wrap y ≤ 255 := fun y => by rw [wu8_mod]; omega
 rcases List.mem_append.1 hx with hx | hx
 ·rcases List.mem_append.1 hx with hx | hx
  ·rcases List.mem_append.1 hx with hx | hx
   ·rw [List.mem_singleton.1 hx]
    exact hw _
   ·exact ib_byt _ x hx
  ·unfold be4 at hx
   simp only [List.mem_cons, List.not_mem_nil, or_false] at hx
   rcases hx with rfl | rfl | rfl | rfl <;> exact hw _
 ·exact (h r hr).2.2.2 x hx
def LogAt (D : Nat → List Int) (base cap : Nat) (num : Int) : Nat → List (List Rc) → Prop
 | u, [] => u ≤ cap ∧ (u < cap → NoHead (D (base + u)) num)
 | u, t :: r => u + secs (plen t) ≤ cap ∧ (∀ i, i < secs (plen t) → D (base + u + i) = (blks 1 num (payl t)).getD i []) ∧ ValidT t ∧ LogAt D base cap num (u + secs (plen t)) r
def usedOf (ts : List (List Rc)) : Nat := (ts.map fun t => secs (plen t)).sum
theorem usedOf_cons (t : List Rc) (ts : List (List Rc)) : usedOf (t :: ts) = secs (plen t) + usedOf ts := by simp [usedOf]
theorem usedOf_append (ts us : List (List Rc)) : usedOf (ts ++ us) = usedOf ts + usedOf us := by simp [usedOf]
theorem LogAt.app {D D' : Nat → List Int} {base cap : Nat} {num : Int} {ys : List (List Rc)} : ∀ {ts : List (List Rc)} {u : Nat}, LogAt D base cap num u ts → (∀ i, u ≤ i → i < u + usedOf ts → D' (base + i) = D (base + i)) →
  LogAt D' base cap num (u + usedOf ts) ys → LogAt D' base cap num u (ts ++ ys)
 | [], u, _, _, hy => by simpa [usedOf] using hy
 | t :: ts, u, h, hd, hy => by
  rw [usedOf_cons] at hd hy
  obtain ⟨h1, h2, h3, h4⟩ := h
  refine ⟨h1, fun i hi => ?_, h3, LogAt.app h4 (fun i hi hi2 => hd i (by omega) (by omega)) (by rw [Nat.add_assoc]; exact hy)⟩
  rw [Nat.add_assoc, hd (u + i) (by omega) (by omega), ← Nat.add_assoc]
  exact h2 i hi
theorem LogAt.le {D : Nat → List Int} {base cap : Nat} {num : Int} : ∀ {ts : List (List Rc)} {u : Nat}, LogAt D base cap num u ts → u + usedOf ts ≤ cap
 | [], u, h => by simpa [usedOf] using h.1
 | t :: ts, u, h => by
  have := LogAt.le h.2.2.2
  rw [usedOf_cons]
  omega
theorem LogAt.val {D : Nat → List Int} {base cap : Nat} {num : Int} : ∀ {ts : List (List Rc)} {u : Nat}, LogAt D base cap num u ts → ∀ r ∈ ts.flatten, 1 ≤ r.1.size ∧ r.1.size ≤ 255 ∧ r.2.length ≤ 1048576 ∧ Byt r.2
 | [], _, _, r, hr => by simp at hr
 | t :: ts, u, h, r, hr => by
  rw [List.flatten_cons] at hr
  rcases List.mem_append.1 hr with hr | hr
  ·exact h.2.2.1 r hr
  ·exact LogAt.val h.2.2.2 r hr
theorem LogAt.end {D : Nat → List Int} {base cap : Nat} {num : Int} : ∀ {ts : List (List Rc)} {u : Nat}, LogAt D base cap num u ts → u + usedOf ts < cap → NoHead (D (base + (u + usedOf ts))) num
 | [], u, h, hu => by simpa [usedOf] using h.2 (by simpa [usedOf] using hu)
 | t :: ts, u, h, hu => by
  rw [usedOf_cons] at hu ⊢
  have := LogAt.end h.2.2.2 (by omega)
  rwa [show u + secs (plen t) + usedOf ts = u + (secs (plen t) + usedOf ts) by omega] at this
theorem snap_used : ∀ (ts : List (List Rc)) (L : List Rc), snapN (afterR L ts.flatten) ≤ snapN L + usedOf ts
 | [], L => by simp [usedOf, afterR]
 | t :: ts, L => by
  rw [List.flatten_cons, afterR_append, usedOf_cons]
  have h1 := snap_used ts (afterR L t)
  have h2 := snapN_after L t
  omega
structure SInv (D : Nat → List Int) (n : Nat) (x : SS) : Prop where
 n4 : 4 ≤ n
 size : x.size = n / 2
 half : x.half ≤ 1
 num1 : 1 ≤ x.num
 num2 : x.num ≤ 9223372036854775807
 byt : ∀ q, q < n → Byt (D q) ∧ (D q).length = 64
 hdr : D (x.half * x.size) = hdl 1 x.num magic
 oth : NoHdr (D ((1 - x.half) * x.size)) x.num
 log : ∃ ts, LogAt D (x.half * x.size + 1) (x.size - 1) x.num 0 ts ∧ x.L = afterR [] ts.flatten ∧ x.used = usedOf ts
 act : ∀ i, i < x.size - 1 → LowHead (D (x.half * x.size + 1 + i)) x.num
 fre : ∀ i, x.used ≤ i → i < x.size - 1 → NoHead (D (x.half * x.size + 1 + i)) x.num
 ina : ∀ i, 1 ≤ i → i < x.size - 1 → LowHead (D ((1 - x.half) * x.size + 1 + i)) x.num
section
variable {D D' : Nat → List Int} {n : Nat} {x : SS}
theorem SInv.srt (h : SInv D n x) : Srt x.L := by
 obtain ⟨ts, _, h2, _⟩ := h.log
 rw [h2]
 exact afterR_srt List.Pairwise.nil
theorem SInv.good (h : SInv D n x) : ValidT x.L ∧ ∀ r ∈ x.L, r.2.length ≠ 0 := by
 obtain ⟨ts, h1, h2, _⟩ := h.log
 rw [h2]
 refine ⟨fun r hr => ?_, fun r hr => ?_⟩ <;> rcases afterR_mem hr with hr | hr
 ·exact h1.val r hr.1
 ·simp at hr
 ·exact hr.2
 ·simp at hr
theorem SInv.snap (h : SInv D n x) : snapN x.L ≤ x.used ∧ x.used ≤ x.size - 1 := by
 obtain ⟨ts, h1, h2, h3⟩ := h.log
 rw [h2, h3]
 have := snap_used ts []
 have := h1.le
 have e : snapN [] = 0 := rfl
 omega
theorem SInv.pos (h : SInv D n x) : (x.half = 0 ∧ x.half * x.size = 0 ∧ (1 - x.half) * x.size = x.size) ∨ (x.half = 1 ∧ x.half * x.size = x.size ∧ (1 - x.half) * x.size = 0) := by
 have := h.half
 rcases Nat.lt_or_ge x.half 1 with e | e
 ·left
  obtain e : x.half = 0 := by omega
  rw [e]
  omega
 ·right
  obtain e : x.half = 1 := by omega
  rw [e]
  omega
structure Tn (n : Nat) (D : Nat → List Int) (a : Nat) (l : List (List Int)) (D' : Nat → List Int) : Prop where
 st : ∀ q, D' q = D q ∨ (a ≤ q ∧ q < a + l.length ∧ mk0 (D' q) = mk0 (l.getD (q - a) []))
 byt : ∀ q, q < n → Byt (D' q) ∧ (D' q).length = 64
theorem mk_part {l m : List Int} {k : Nat} (h : 1 ≤ k) (hl : 0 < l.length) : mk0 (l.take k ++ m) = mk0 l := by
 cases l with
 | nil => simp at hl
 | cons a l =>
  cases k with
  | zero => omega
  | succ k => rfl
theorem Torn.tn {a : Nat} {l : List (List Int)} (h : Torn D a l D') (hD : ∀ q, q < n → Byt (D q) ∧ (D q).length = 64) (hl : ∀ y ∈ l, y.length = 64 ∧ Byt y) : Tn n D a l D' := by
 have hg : ∀ q, a ≤ q → q < a + l.length → (l.getD (q - a) []).length = 64 ∧ Byt (l.getD (q - a) []) := fun q h1 h2 => by
  rw [List.getD_eq_getElem?_getD, List.getElem?_eq_getElem (by omega)]
  exact hl _ (List.getElem_mem _)
 refine ⟨fun q => ?_, fun q hq => ?_⟩
 ·rcases h q with h1 | ⟨h1, h2, k, hk, h3⟩
  ·exact .inl h1
  ·exact .inr ⟨h1, h2, by rw [h3, mk_part hk (by have := (hg q h1 h2).1; omega)]⟩
 ·rcases h q with h1 | ⟨h1, h2, k, hk, h3⟩
  ·rw [h1]
   exact hD q hq
  ·rw [h3]
   refine ⟨byt_app (byt_take (hg q h1 h2).2 _) (byt_drop (hD q hq).1 _), ?_⟩
   have e1 := (hg q h1 h2).1
   have e2 := (hD q hq).2
   simp only [List.length_append, List.length_take, List.length_drop]
   omega
theorem updD_tn {a : Nat} {l : List (List Int)} (hD : ∀ q, q < n → Byt (D q) ∧ (D q).length = 64) (hl : ∀ y ∈ l, y.length = 64 ∧ Byt y) (he : ∀ q, D' q = updD D a l q) : Tn n D a l D' := by
 refine ⟨fun q => ?_, fun q hq => ?_⟩
 ·rw [he q]
  unfold updD
  split
  ·rename_i h
   exact .inr ⟨h.1, h.2, rfl⟩
  ·exact .inl rfl
 ·rw [he q]
  unfold updD
  split
  ·rename_i h
   rw [List.getD_eq_getElem?_getD, List.getElem?_eq_getElem (by omega)]
   have := hl (l[q - a]'(by omega)) (List.getElem_mem _)
   exact ⟨this.2, this.1⟩
  ·exact hD q hq
end
section
variable {D D' : Nat → List Int} {n : Nat} {x : SS}
theorem SInv.ofAct (h : SInv D n x) (hb : ∀ q, q < n → Byt (D' q) ∧ (D' q).length = 64) (h0 : D' (x.half * x.size) = D (x.half * x.size)) (ha : ∀ i, i < x.size - 1 → D' (x.half * x.size + 1 + i) = D (x.half * x.size + 1 + i))
  (ho : NoHdr (D' ((1 - x.half) * x.size)) x.num) (hi : ∀ i, 1 ≤ i → i < x.size - 1 → LowHead (D' ((1 - x.half) * x.size + 1 + i)) x.num) : SInv D' n x := by
 obtain ⟨ts, h1, h2, h3⟩ := h.log
 have hle := h1.le
 refine ⟨h.n4, h.size, h.half, h.num1, h.num2, hb, h0.trans h.hdr, ho, ⟨ts, ?_, h2, h3⟩, fun i hi => ?_, fun i hi hi2 => ?_, hi⟩
 ·have := h1.app (D' := D') (ys := []) (fun i _ hi => ha i (by omega)) ⟨hle, fun hlt => ?_⟩
  ·rwa [List.append_nil] at this
  ·rw [ha _ hlt]
   exact h1.end hlt
 ·rw [ha i hi]
  exact h.act i hi
 ·rw [ha i hi2]
  exact h.fre i hi hi2
theorem SInv.keep1 (h : SInv D n x) {bs : List (List Int)} (t : Tn n D ((1 - x.half) * x.size + 1) bs D') (hl : bs.length ≤ x.size - 1) (hm : ∀ i, 1 ≤ i → i < bs.length → mk0 (bs.getD i []) ≠ 1) : SInv D' n x := by
 have hp := h.pos
 have hs := h.size
 have hn := h.n4
 have same : ∀ q, ¬ ((1 - x.half) * x.size + 1 ≤ q ∧ q < (1 - x.half) * x.size + 1 + bs.length) → D' q = D q := fun q hq => by
  rcases t.st q with e | ⟨e1, e2, _⟩
  ·exact e
  ·exact absurd ⟨e1, e2⟩ hq
 refine h.ofAct t.byt (same _ (by omega)) (fun i hi => same _ (by omega)) ?_ (fun i h1 h2 => ?_)
 ·rw [same _ (by omega)]
  exact h.oth
 ·rcases t.st ((1 - x.half) * x.size + 1 + i) with e | ⟨e1, e2, e3⟩
  ·rw [e]
   exact h.ina i h1 h2
  ·rw [show (1 - x.half) * x.size + 1 + i - ((1 - x.half) * x.size + 1) = i by omega] at e3
   exact .mk (by rw [e3]; exact hm i h1 (by omega))
theorem SInv.keep2 (h : SInv D n x) {b : List Int} (t : Tn n D ((1 - x.half) * x.size) [b] D') (hm : mk0 b ≠ 1) : SInv D' n x := by
 have hp := h.pos
 have hs := h.size
 have hn := h.n4
 have same : ∀ q, q ≠ (1 - x.half) * x.size → D' q = D q := fun q hq => by
  rcases t.st q with e | ⟨e1, e2, _⟩
  ·exact e
  ·rw [List.length_singleton] at e2
   omega
 refine h.ofAct t.byt (same _ (by omega)) (fun i hi => same _ (by omega)) ?_ (fun i h1 h2 => ?_)
 ·rcases t.st ((1 - x.half) * x.size) with e | ⟨e1, e2, e3⟩
  ·rw [e]
   exact h.oth
  ·rw [Nat.sub_self] at e3
   exact .mk (by rw [e3]; exact hm)
 ·rw [same _ (by omega)]
  exact h.ina i h1 h2
theorem SInv.keep3 (h : SInv D n x) {bs : List (List Int)} (t : Tn n D (x.half * x.size + 1 + x.used) bs D') (hl : x.used + bs.length ≤ x.size - 1) (hm : ∀ i, i < bs.length → mk0 (bs.getD i []) ≠ 1) : SInv D' n x := by
 have hp := h.pos
 have hs := h.size
 have hn := h.n4
 have same : ∀ q, ¬ (x.half * x.size + 1 + x.used ≤ q ∧ q < x.half * x.size + 1 + x.used + bs.length) → D' q = D q := fun q hq => by
  rcases t.st q with e | ⟨e1, e2, _⟩
  ·exact e
  ·exact absurd ⟨e1, e2⟩ hq
 have or : ∀ i, D' (x.half * x.size + 1 + i) = D (x.half * x.size + 1 + i) ∨ mk0 (D' (x.half * x.size + 1 + i)) ≠ 1 := fun i => by
  rcases t.st (x.half * x.size + 1 + i) with e | ⟨e1, e2, e3⟩
  ·exact .inl e
  ·right
   rw [e3]
   exact hm _ (by omega)
 obtain ⟨ts, h1, h2, h3⟩ := h.log
 have hfre : ∀ i, x.used ≤ i → i < x.size - 1 → NoHead (D' (x.half * x.size + 1 + i)) x.num := fun i hi hi2 => by
  rcases or i with e | e
  ·rw [e]
   exact h.fre i hi hi2
  ·exact .mk e
 refine ⟨h.n4, h.size, h.half, h.num1, h.num2, t.byt, (same _ (by omega)).trans h.hdr, ?_, ⟨ts, ?_, h2, h3⟩, fun i hi => ?_, hfre, fun i hi hi2 => ?_⟩
 ·rw [same _ (by omega)]
  exact h.oth
 ·have := h1.app (D' := D') (ys := []) (fun i _ hi => same _ (by omega)) ⟨h1.le, fun hlt => hfre _ (by omega) hlt⟩
  rwa [List.append_nil] at this
 ·rcases or i with e | e
  ·rw [e]
   exact h.act i hi
  ·exact .mk e
 ·rw [same _ (by omega)]
  exact h.ina i hi hi2
def snapB (x : SS) : List (List Int) := if x.L = [] then [List.replicate 64 0] else blks 1 (x.num + 1) (payl x.L)
def comp (x : SS) : SS := { x with half := 1 - x.half, num := x.num + 1, used := snapN x.L }
theorem plen_payl (L : List Rc) : (payl L).length = plen L := rfl
theorem snapB_len (x : SS) : (snapB x).length = max 1 (snapN x.L) := by
 unfold snapB snapN
 by_cases e : x.L = []
 ·rw [if_pos e, if_pos e]; rfl
 ·rw [if_neg e, if_neg e, blks_len, plen_payl]
  unfold secs
  omega
theorem snapB_mk (x : SS) : ∀ i, 1 ≤ i → i < (snapB x).length → mk0 ((snapB x).getD i []) ≠ 1 := by
 intro i h1 h2
 unfold snapB at *
 by_cases e : x.L = []
 ·rw [if_pos e] at h2
  simp at h2
  omega
 ·rw [if_neg e] at h2 ⊢
  rw [blks_mk h2, if_neg (by omega)]
  omega
theorem SInv.snapB_ok (h : SInv D n x) : ∀ y ∈ snapB x, y.length = 64 ∧ Byt y := by
 unfold snapB
 by_cases e : x.L = []
 ·rw [if_pos e]
  intro y hy
  rw [List.mem_singleton.1 hy]
  exact ⟨rfl, byt_rep 64⟩
 ·rw [if_neg e]
  exact blks_ok (by omega) (by omega) (payl_byt h.good.1)
theorem SInv.snapB_le (h : SInv D n x) : (snapB x).length ≤ x.size - 1 := by
 rw [snapB_len]
 have := h.snap
 have := h.size
 have := h.n4
 omega
theorem SInv.compacted (h : SInv D n x) (hb : ∀ q, q < n → Byt (D' q) ∧ (D' q).length = 64) (hnum : x.num < 9223372036854775807) (h0 : D' ((1 - x.half) * x.size) = hdl 1 (x.num + 1) magic)
  (h1 : ∀ i, i < (snapB x).length → D' ((1 - x.half) * x.size + 1 + i) = (snapB x).getD i [])
  (h2 : ∀ q, q ≠ (1 - x.half) * x.size → ¬ ((1 - x.half) * x.size + 1 ≤ q ∧ q < (1 - x.half) * x.size + 1 + (snapB x).length) → D' q = D q) : SInv D' n (comp x) := by
 have hp := h.pos
 have hs := h.size
 have hn := h.n4
 have hle := h.snapB_le
 have hsn := h.snap
 have hsl := snapB_len x
 have hn1 := h.num1
 have hh := h.half
 have e1 : (1 - (1 - x.half)) * x.size = x.half * x.size := by
  rw [show 1 - (1 - x.half) = x.half by omega]
 have hlow : ∀ i, (snapB x).length ≤ i → i < x.size - 1 → LowHead (D' ((1 - x.half) * x.size + 1 + i)) x.num := fun i hi hi2 => by
  rw [h2 _ (by omega) (by omega)]
  exact h.ina i (by omega) hi2
 have hz : mk0 ((snapB x).getD 0 []) = 1 → x.L ≠ [] ∧ nm ((snapB x).getD 0 []) = x.num + 1 := by
  unfold snapB
  by_cases e : x.L = []
  ·rw [if_pos e]
   intro hc
   exact absurd (show (0 : Int) = 1 from hc) (by omega)
  ·rw [if_neg e]
   intro _
   rw [blks_zero]
   exact ⟨e, nm_hdl (by omega) (by omega)⟩
 refine ⟨h.n4, h.size, by show 1 - x.half ≤ 1; omega, by show 1 ≤ x.num + 1; omega, by show x.num + 1 ≤ _; omega, hb, h0, ?_, ?_, fun i hi => ?_, fun i hi hi2 => ?_, fun i hi hi2 => ?_⟩
 ·show NoHdr (D' ((1 - (1 - x.half)) * x.size)) (x.num + 1)
  rw [e1, h2 _ (by omega) (by omega), h.hdr]
  intro hc
  have := hc.2.2
  rw [nm_hdl (by omega) (by omega)] at this
  omega
 ·show ∃ ts, LogAt D' ((1 - x.half) * x.size + 1) (x.size - 1) (x.num + 1) 0 ts ∧ x.L = afterR [] ts.flatten ∧ snapN x.L = usedOf ts
  by_cases e : x.L = []
  ·refine ⟨[], ⟨by omega, fun hlt => ?_⟩, by rw [e]; rfl, by rw [e]; rfl⟩
   have := h1 0 (by omega)
   rw [show (1 - x.half) * x.size + 1 + 0 = (1 - x.half) * x.size + 1 + 0 from rfl, this]
   exact fun hc => (hz hc.1).1 e
  ·have hsb : snapB x = blks 1 (x.num + 1) (payl x.L) := by unfold snapB; rw [if_neg e]
   have hsl' : (snapB x).length = secs (plen x.L) := by rw [hsb, blks_len, plen_payl]
   refine ⟨[x.L], ⟨by omega, fun i hi => ?_, h.good.1, by omega, fun hlt => ?_⟩, ?_, ?_⟩
   ·rw [Nat.add_zero, h1 i (by omega), hsb]
   ·rw [Nat.zero_add] at hlt ⊢
    exact (hlow _ (by omega) hlt).no
   ·rw [List.flatten_cons, List.flatten_nil, List.append_nil, afterR_self (A := []) (by simpa using h.srt) h.good.2]
    rfl
   ·rw [usedOf_cons]
    unfold snapN
    rw [if_neg e]
    rfl
 ·show LowHead (D' ((1 - x.half) * x.size + 1 + i)) (x.num + 1)
  have hi' : i < x.size - 1 := hi
  rcases Nat.lt_or_ge i (snapB x).length with hlt | hge
  ·rw [h1 i hlt]
   intro hm
   rcases Nat.eq_zero_or_pos i with e | e
   ·subst e
    have := (hz hm).2
    omega
   ·exact absurd hm (snapB_mk x i e hlt)
  ·exact (hlow i hge hi').up
 ·show NoHead (D' ((1 - x.half) * x.size + 1 + i)) (x.num + 1)
  have hi' : snapN x.L ≤ i := hi
  have hi2' : i < x.size - 1 := hi2
  rcases Nat.lt_or_ge i (snapB x).length with hlt | hge
  ·have e : i = 0 := by omega
   subst e
   rw [h1 0 hlt]
   intro hm
   have := (hz hm.1).1
   have h3 : snapN x.L = 0 := by omega
   unfold snapN at h3
   rw [if_neg this] at h3
   unfold secs at h3
   omega
  ·exact (hlow i hge hi2').no
 ·show LowHead (D' ((1 - (1 - x.half)) * x.size + 1 + i)) (x.num + 1)
  have hi2' : i < x.size - 1 := hi2
  rw [e1, h2 _ (by omega) (by omega)]
  exact (h.act i hi2').up
def comt (x : SS) (t : List Rc) : SS := { x with used := x.used + secs (plen t), L := afterR x.L t }
theorem SInv.committed (h : SInv D n x) {t : List Rc} (hv : ValidT t) (hfit : x.used + secs (plen t) ≤ x.size - 1) (hb : ∀ q, q < n → Byt (D' q) ∧ (D' q).length = 64)
  (h1 : ∀ i, i < secs (plen t) → D' (x.half * x.size + 1 + x.used + i) = (blks 1 x.num (payl t)).getD i [])
  (h2 : ∀ q, ¬ (x.half * x.size + 1 + x.used ≤ q ∧ q < x.half * x.size + 1 + x.used + secs (plen t)) → D' q = D q) : SInv D' n (comt x t) := by
 have hp := h.pos
 have hs := h.size
 have hn := h.n4
 have hn1 := h.num1
 have hn2 := h.num2
 have hbl : (blks 1 x.num (payl t)).length = secs (plen t) := by rw [blks_len, plen_payl]
 obtain ⟨ts, g1, g2, g3⟩ := h.log
 refine ⟨h.n4, h.size, h.half, h.num1, h.num2, hb, (by show D' (x.half * x.size) = hdl 1 x.num magic; exact (h2 _ (by omega)).trans h.hdr), ?_, ⟨ts ++ [t], ?_, ?_, ?_⟩, fun i hi => ?_, fun i hi hi2 => ?_, fun i hi hi2 => ?_⟩
 ·show NoHdr (D' ((1 - x.half) * x.size)) x.num
  rw [h2 _ (by omega)]
  exact h.oth
 ·show LogAt D' (x.half * x.size + 1) (x.size - 1) x.num 0 (ts ++ [t])
  refine g1.app (fun i _ hi => h2 _ (by omega)) ⟨by omega, fun i hi => ?_, hv, by omega, fun hlt => ?_⟩
  ·rw [Nat.zero_add, ← g3]
   exact h1 i hi
  ·rw [Nat.zero_add, ← g3] at hlt ⊢
   rw [h2 _ (by omega)]
   exact h.fre _ (by omega) hlt
 ·show afterR x.L t = _
  rw [List.flatten_append, afterR_append, ← g2]
  simp
 ·show x.used + secs (plen t) = _
  rw [usedOf_append, g3]
  simp [usedOf]
 ·show LowHead (D' (x.half * x.size + 1 + i)) x.num
  have hi' : i < x.size - 1 := hi
  by_cases hr : x.used ≤ i ∧ i < x.used + secs (plen t)
  ·have := h1 (i - x.used) (by omega)
   rw [show x.half * x.size + 1 + x.used + (i - x.used) = x.half * x.size + 1 + i by omega] at this
   rw [this]
   intro hm
   rw [blks_mk (by omega)] at hm
   by_cases e : i - x.used = 0
   ·rw [e, blks_zero, nm_hdl (by omega) (by omega)]
    omega
   ·rw [if_neg e] at hm
    omega
  ·rw [h2 _ (by omega)]
   exact h.act i hi'
 ·show NoHead (D' (x.half * x.size + 1 + i)) x.num
  have hi' : x.used + secs (plen t) ≤ i := hi
  have hi2' : i < x.size - 1 := hi2
  rw [h2 _ (by omega)]
  exact h.fre i (by omega) hi2'
 ·show LowHead (D' ((1 - x.half) * x.size + 1 + i)) x.num
  have hi2' : i < x.size - 1 := hi2
  rw [h2 _ (by omega)]
  exact h.ina i hi hi2'
def empt (n : Nat) : SS := ⟨n / 2, 0, 1, 0, [], false⟩
theorem formatted (hn : 4 ≤ n) (h0 : D 0 = hdl 1 1 magic) (hz : ∀ q, 1 ≤ q → q < n → D q = List.replicate 64 0) : SInv D n (empt n) := by
 have hm : ∀ q, 1 ≤ q → q < n → mk0 (D q) ≠ 1 := fun q h1 h2 => by
  rw [hz q h1 h2]
  exact fun e => absurd (show (0 : Int) = 1 from e) (by omega)
 refine ⟨hn, rfl, Nat.zero_le _, (by show (1 : Int) ≤ 1; decide), (by show (1 : Int) ≤ 9223372036854775807; decide), fun q hq => ?_, ?_, ?_, ⟨[], ⟨Nat.zero_le _, fun hlt => ?_⟩, rfl, rfl⟩, fun i hi => ?_, fun i hi hi2 => ?_, fun i hi hi2 => ?_⟩
 ·rcases Nat.eq_zero_or_pos q with e | e
  ·rw [e, h0]
   exact ⟨byt_hdl (by omega) (by omega), rfl⟩
  ·rw [hz q e hq]
   exact ⟨byt_rep 64, rfl⟩
 ·show D (0 * (n / 2)) = _
  rw [Nat.zero_mul]
  exact h0
 ·show NoHdr (D ((1 - 0) * (n / 2))) 1
  exact .mk (hm _ (by omega) (by omega))
 ·have hlt' : 0 < n / 2 - 1 := hlt
  show NoHead (D (0 * (n / 2) + 1 + 0)) 1
  exact .mk (hm _ (by omega) (by omega))
 ·have hi' : i < n / 2 - 1 := hi
  show LowHead (D (0 * (n / 2) + 1 + i)) 1
  exact .mk (hm _ (by omega) (by omega))
 ·have hi' : i < n / 2 - 1 := hi2
  show NoHead (D (0 * (n / 2) + 1 + i)) 1
  exact .mk (hm _ (by omega) (by omega))
 ·have hi' : i < n / 2 - 1 := hi2
  show LowHead (D ((1 - 0) * (n / 2) + 1 + i)) 1
  exact .mk (hm _ (by omega) (by omega))
end
theorem DS.crash_ok {s : DS} {n : Nat} (h : s.ok n) (k : List Int) : (s.crash k).ok n := by
 unfold DS.crash
 split
 ·exact h
 ·exact ⟨h.n1, h.n2, crN_len h.ws h.dur _, by simp, by simp, by simp, by simp⟩
theorem DS.ready_ok {s : DS} {n : Nat} (h : s.ok n) : s.ready.1.ok n := by
 have h0 := h.fuse0
 have h1 := h.fuse1
 unfold DS.ready
 split
 ·exact h
 ·split
  ·exact DS.crash_ok h _
  ·exact ⟨h.n1, h.n2, h.dur, by simp only; omega, by simp only; omega, h.ws, h.wl⟩
theorem DS.write_ok {s : DS} {n : Nat} (h : s.ok n) (hw : s.ws.length < 1000) (a : Int) (l : List Int) : (s.write n a l).1.ok n := by
 have h1 := s.ready_ws
 have h2 := DS.ready_ok h
 unfold DS.write
 split
 ·exact h
 ·rename_i hc
  split
  ·exact h2
  ·refine ⟨h2.n1, h2.n2, h2.dur, h2.fuse0, h2.fuse1, fun w hw' => ?_, by simp only [List.length_append, List.length_singleton]; omega⟩
   rcases List.mem_append.1 hw' with hw' | hw'
   ·exact h2.ws w hw'
   ·rw [List.mem_singleton.1 hw']
    simp only
    omega
theorem DS.flush_ok {s : DS} {n : Nat} (h : s.ok n) : s.flush.1.ok n := by
 have h2 := DS.ready_ok h
 unfold DS.flush
 split
 ·exact h2
 ·exact ⟨h2.n1, h2.n2, flN_len h2.ws h2.dur _, h2.fuse0, h2.fuse1, by simp, by simp⟩
theorem putW_ok {n : Nat} : ∀ (l : List (List Int)) {s : DS} {a : Int}, s.ok n → s.ws.length + l.length ≤ 1000 → (putW s n a l).1.ok n
 | [], s, a, h, _ => DS.flush_ok h
 | x :: r, s, a, h, hl => by
  rw [List.length_cons] at hl
  have h1 := DS.write_ok h (by omega) a x
  have h2 := s.write_ws n a x
  unfold putW
  split
  ·exact h1
  ·exact putW_ok r h1 (by omega)
structure Fine (s : DS) (n : Nat) : Prop where
 up : Up s
 ws : s.ws = []
 ok : s.ok n
structure Dead (s : DS) (n : Nat) : Prop where
 down : s.down = true
 ws : s.ws = []
 fuse : s.fuse = 0
 ok : s.ok n
theorem Dead.power {s : DS} {n : Nat} (h : Dead s n) : Fine s.power n ∧ s.power.fuse = 0 ∧ s.power.rd = s.rd :=
 ⟨⟨⟨rfl, by show 0 ≤ s.fuse; rw [h.fuse]; exact Int.le_refl _⟩, h.ws, ⟨h.ok.n1, h.ok.n2, h.ok.dur, h.ok.fuse0, h.ok.fuse1, h.ok.ws, h.ok.wl⟩⟩, h.fuse, rfl⟩
theorem put_run {s : DS} {n a : Nat} {l : List (List Int)} (h : Fine s n) (ha : a + l.length ≤ n) (h1000 : l.length ≤ 1000) (hl : ∀ y ∈ l, y.length = 64) :
  ((putW s n a l).2 = 0 ∧ Fine (putW s n a l).1 n ∧ (s.fuse = 0 → (putW s n a l).1.fuse = 0) ∧ ∀ q, (putW s n a l).1.rd q = updD s.rd a l q) ∨
  ((putW s n a l).2 = 340 ∧ s.fuse ≠ 0 ∧ Dead (putW s n a l).1 n ∧ Torn s.rd a l (putW s n a l).1.rd) := by
 have hok := putW_ok (n := n) l (s := s) (a := a) h.ok (by rw [h.ws]; simpa using h1000)
 rcases putW_cases l h.up ha hl with ⟨h1, h2⟩ | ⟨h1, h2⟩
 ·exact .inl ⟨h1, ⟨h2.ok.1, h2.ws, hok⟩, h2.nof, h2.rd h.ok ha hl⟩
 ·refine .inr ⟨h1, h2.fz, ?_, h2.torn h.ok h.ws ha hl⟩
  obtain ⟨_, j, _, h3⟩ := h2
  rw [h3] at hok ⊢
  exact ⟨rfl, rfl, rfl, hok⟩
def setM (m : Int) : List (List Int) → List (List Int)
 | [] => []
 | b :: r => b.set 0 m :: r
theorem setM_len (m : Int) (l : List (List Int)) : (setM m l).length = l.length := by cases l <;> rfl
def completeW (s : DS) (n : Nat) (a : Int) (l : List (List Int)) : DS × Int :=
 if (putW s n a (setM 0 l)).2 ≠ 0 then putW s n a (setM 0 l) else putW (putW s n a (setM 0 l)).1 n a ((setM 1 l).take 1)
structure RR where
 s : DS
 err : Int
 x : SS
def compactW (s : DS) (n : Nat) (x : SS) : RR :=
 if (putW s n (((1 - x.half) * x.size + 1 : Nat) : Int) (snapB x)).2 ≠ 0 then ⟨(putW s n (((1 - x.half) * x.size + 1 : Nat) : Int) (snapB x)).1, (putW s n (((1 - x.half) * x.size + 1 : Nat) : Int) (snapB x)).2, x⟩ else
 if (completeW (putW s n (((1 - x.half) * x.size + 1 : Nat) : Int) (snapB x)).1 n (((1 - x.half) * x.size : Nat) : Int) [hdl 0 (x.num + 1) magic]).2 ≠ 0 then
  ⟨(completeW (putW s n (((1 - x.half) * x.size + 1 : Nat) : Int) (snapB x)).1 n (((1 - x.half) * x.size : Nat) : Int) [hdl 0 (x.num + 1) magic]).1, (completeW (putW s n (((1 - x.half) * x.size + 1 : Nat) : Int) (snapB x)).1 n (((1 - x.half) * x.size : Nat) : Int) [hdl 0 (x.num + 1) magic]).2, x⟩
 else ⟨(completeW (putW s n (((1 - x.half) * x.size + 1 : Nat) : Int) (snapB x)).1 n (((1 - x.half) * x.size : Nat) : Int) [hdl 0 (x.num + 1) magic]).1, 0, comp x⟩
def finW (s : DS) (n : Nat) (x : SS) (t : List Rc) : RR :=
 if (completeW s n ((x.half * x.size + 1 + x.used : Nat) : Int) (blks 0 x.num (payl t))).2 ≠ 0 then ⟨(completeW s n ((x.half * x.size + 1 + x.used : Nat) : Int) (blks 0 x.num (payl t))).1, (completeW s n ((x.half * x.size + 1 + x.used : Nat) : Int) (blks 0 x.num (payl t))).2, { x with broken := true }⟩
 else ⟨(completeW s n ((x.half * x.size + 1 + x.used : Nat) : Int) (blks 0 x.num (payl t))).1, 0, comt x t⟩
def OkT (t : List Rc) : Prop := ∀ r ∈ t, 1 ≤ r.1.size ∧ r.1.size ≤ 255 ∧ r.2.length ≤ 1048576
open Classical in
noncomputable def commitW (s : DS) (n : Nat) (x : SS) (t : List Rc) : RR :=
 if x.broken then ⟨s, 340, x⟩ else if ¬ OkT t then ⟨s, 1, x⟩ else if t = [] then ⟨s, 0, x⟩ else
 if x.size - 1 - x.used < secs (plen t) then
  if x.size - 1 - snapN x.L < secs (plen t) then ⟨s, 351, x⟩ else
  if (compactW s n x).err ≠ 0 then ⟨(compactW s n x).s, (compactW s n x).err, { (compactW s n x).x with broken := true }⟩ else finW (compactW s n x).s n (compactW s n x).x t
 else finW s n x t
theorem hdl_cons (m a v : Int) : hdl m a v = m :: (be8 a ++ be8 v ++ List.replicate 47 0) := by simp [hdl]
theorem hdl_part {m m' a v : Int} {k : Nat} (h : 1 ≤ k) : (hdl m a v).take k ++ (hdl m' a v).drop k = hdl m a v := by
 cases k with
 | zero => omega
 | succ k =>
  rw [hdl_cons m, hdl_cons m', List.take_succ_cons, List.drop_succ_cons, List.cons_append, List.take_append_drop]
section
variable {s : DS} {n : Nat} {x : SS}
theorem Torn.one {D D' : Nat → List Int} {a : Nat} {m m' k v : Int} (h : Torn D a [hdl m k v] D') (hD : D a = hdl m' k v) : D' = D ∨ ((∀ q, q ≠ a → D' q = D q) ∧ D' a = hdl m k v) := by
 have hne : ∀ q, q ≠ a → D' q = D q := fun q hq => by
  rcases h q with e | ⟨h1, h2, _⟩
  ·exact e
  ·rw [List.length_singleton] at h2
   omega
 rcases h a with e | ⟨_, _, j, hj, e⟩
 ·left
  funext q
  by_cases hq : q = a
  ·rw [hq, e]
  ·exact hne q hq
 ·refine .inr ⟨hne, ?_⟩
  rw [e, Nat.sub_self, hD]
  exact hdl_part hj
theorem updD_one {D : Nat → List Int} {a q : Nat} {b : List Int} : updD D a [b] q = if q = a then b else D q := by
 unfold updD
 rw [List.length_singleton]
 by_cases e : q = a
 ·subst e
  rw [if_pos (by omega), if_pos rfl, Nat.sub_self]
  rfl
 ·rw [if_neg (by omega), if_neg e]
theorem updD_in {D : Nat → List Int} {a i : Nat} {l : List (List Int)} (h : i < l.length) : updD D a l (a + i) = l.getD i [] := by
 unfold updD
 rw [if_pos (by omega), show a + i - a = i by omega]
theorem updD_out {D : Nat → List Int} {a q : Nat} {l : List (List Int)} (h : ¬ (a ≤ q ∧ q < a + l.length)) : updD D a l q = D q := by
 unfold updD
 rw [if_neg h]
theorem compact_run (hf : Fine s n) (h : SInv s.rd n x) (hn : n ≤ 1000) (hnum : x.num < 9223372036854775807) :
  ((compactW s n x).err = 0 ∧ Fine (compactW s n x).s n ∧ (s.fuse = 0 → (compactW s n x).s.fuse = 0) ∧ (compactW s n x).x = comp x ∧ SInv (compactW s n x).s.rd n (comp x)) ∨
  ((compactW s n x).err = 340 ∧ s.fuse ≠ 0 ∧ Dead (compactW s n x).s n ∧ (compactW s n x).x = x ∧ (SInv (compactW s n x).s.rd n x ∨ SInv (compactW s n x).s.rd n (comp x))) := by
 have hp := h.pos
 have hs := h.size
 have h4 := h.n4
 have hle := h.snapB_le
 unfold compactW
 rcases put_run (a := (1 - x.half) * x.size + 1) hf (by omega) (by omega) (fun y hy => (h.snapB_ok y hy).1) with ⟨p1, p2, p3, p4⟩ | ⟨p1, p2, p3, p4⟩
 ·have t1 := updD_tn h.byt h.snapB_ok p4
  have h1 := h.keep1 t1 hle (snapB_mk x)
  rw [if_neg (by rw [p1]; decide)]
  generalize (putW s n (((1 - x.half) * x.size + 1 : Nat) : Int) (snapB x)).1 = s1 at *
  have hb0 : ∀ m, 0 ≤ m → m ≤ 255 → ∀ y ∈ [hdl m (x.num + 1) magic], y.length = 64 ∧ Byt y := fun m h1 h2 y hy => by
   rw [List.mem_singleton.1 hy]
   exact ⟨rfl, byt_hdl h1 h2⟩
  unfold completeW
  rw [show setM 0 [hdl 0 (x.num + 1) magic] = [hdl 0 (x.num + 1) magic] from rfl, show (setM 1 [hdl 0 (x.num + 1) magic]).take 1 = [hdl 1 (x.num + 1) magic] from rfl]
  rcases put_run (a := (1 - x.half) * x.size) (l := [hdl 0 (x.num + 1) magic]) p2 (by rw [List.length_singleton]; omega) (by simp) (fun y hy => (hb0 0 (by omega) (by omega) y hy).1) with ⟨q1, q2, q3, q4⟩ | ⟨q1, q2, q3, q4⟩
  ·have t2 := updD_tn h1.byt (hb0 0 (by omega) (by omega)) q4
   have h2 := h1.keep2 t2 (by rw [mk_hdl]; decide)
   rw [if_neg (show ¬ ((putW s1 n (((1 - x.half) * x.size : Nat) : Int) [hdl 0 (x.num + 1) magic]).2 ≠ 0) by rw [q1]; decide)]
   generalize (putW s1 n (((1 - x.half) * x.size : Nat) : Int) [hdl 0 (x.num + 1) magic]).1 = s2 at *
   have e2 : s2.rd ((1 - x.half) * x.size) = hdl 0 (x.num + 1) magic := by rw [q4, updD_one, if_pos rfl]
   have hc : ∀ D', (∀ q, q < n → Byt (D' q) ∧ (D' q).length = 64) → (∀ q, q ≠ (1 - x.half) * x.size → D' q = s2.rd q) → D' ((1 - x.half) * x.size) = hdl 1 (x.num + 1) magic → SInv D' n (comp x) := fun D' hb hq h0 => by
    refine h.compacted hb hnum h0 (fun i hi => ?_) (fun q hq1 hq2 => ?_)
    ·rw [hq _ (by omega), q4, updD_one, if_neg (by omega), p4, updD_in hi]
    ·rw [hq _ hq1, q4, updD_one, if_neg hq1, p4, updD_out hq2]
   rcases put_run (a := (1 - x.half) * x.size) (l := [hdl 1 (x.num + 1) magic]) q2 (by rw [List.length_singleton]; omega) (by simp) (fun y hy => (hb0 1 (by omega) (by omega) y hy).1) with ⟨r1, r2, r3, r4⟩ | ⟨r1, r2, r3, r4⟩
   ·have t3 := updD_tn h2.byt (hb0 1 (by omega) (by omega)) r4
    left
    rw [if_neg (by rw [r1]; decide)]
    refine ⟨rfl, r2, fun e => r3 (q3 (p3 e)), rfl, hc _ t3.byt (fun q hq => ?_) ?_⟩
    ·rw [r4, updD_one, if_neg hq]
    ·rw [r4, updD_one, if_pos rfl]
   ·have t3 := r4.tn h2.byt (hb0 1 (by omega) (by omega))
    right
    rw [if_pos (by rw [r1]; decide)]
    refine ⟨r1, fun e => r2 (q3 (p3 e)), r3, rfl, ?_⟩
    dsimp only
    rcases r4.one e2 with e | ⟨e, e'⟩
    ·rw [e]
     exact .inl h2
    ·exact .inr (hc _ t3.byt e e')
  ·have t2 := q4.tn h1.byt (hb0 0 (by omega) (by omega))
   right
   rw [if_pos (show (putW s1 n (((1 - x.half) * x.size : Nat) : Int) [hdl 0 (x.num + 1) magic]).2 ≠ 0 by rw [q1]; decide), if_pos (by rw [q1]; decide)]
   exact ⟨q1, fun e => q2 (p3 e), q3, rfl, .inl (h1.keep2 t2 (by rw [mk_hdl]; decide))⟩
 ·have t1 := p4.tn h.byt h.snapB_ok
  right
  rw [if_pos (by rw [p1]; decide)]
  exact ⟨p1, p2, p3, rfl, .inl (h.keep1 t1 hle (snapB_mk x))⟩
theorem fin_run (hf : Fine s n) (h : SInv s.rd n x) (hn : n ≤ 1000) {t : List Rc} (hv : ValidT t) (hfit : x.used + secs (plen t) ≤ x.size - 1) :
  ((finW s n x t).err = 0 ∧ Fine (finW s n x t).s n ∧ (s.fuse = 0 → (finW s n x t).s.fuse = 0) ∧ (finW s n x t).x = comt x t ∧ SInv (finW s n x t).s.rd n (comt x t)) ∨
  ((finW s n x t).err = 340 ∧ s.fuse ≠ 0 ∧ Dead (finW s n x t).s n ∧ (finW s n x t).x = { x with broken := true } ∧ (SInv (finW s n x t).s.rd n x ∨ SInv (finW s n x t).s.rd n (comt x t))) := by
 have hp := h.pos
 have hs := h.size
 have h4 := h.n4
 have hbl : ∀ m, (blks m x.num (payl t)).length = secs (plen t) := fun m => by rw [blks_len, plen_payl]
 have hbo : ∀ m, 0 ≤ m → m ≤ 255 → ∀ y ∈ blks m x.num (payl t), y.length = 64 ∧ Byt y := fun m h1 h2 => blks_ok h1 h2 (payl_byt hv)
 have hbm : ∀ i, i < (blks 0 x.num (payl t)).length → mk0 ((blks 0 x.num (payl t)).getD i []) ≠ 1 := fun i hi => by
  rw [blks_mk hi]
  split <;> decide
 have hb1 : ∀ y ∈ [hdl 1 x.num (plen t)], y.length = 64 ∧ Byt y := fun y hy => by
  rw [List.mem_singleton.1 hy]
  exact ⟨rfl, byt_hdl (by omega) (by omega)⟩
 unfold finW completeW
 rw [show setM 0 (blks 0 x.num (payl t)) = blks 0 x.num (payl t) from rfl, show (setM 1 (blks 0 x.num (payl t))).take 1 = [hdl 1 x.num (plen t)] from rfl]
 have hsec : 1 ≤ secs (plen t) := by unfold secs; omega
 rcases put_run (a := x.half * x.size + 1 + x.used) (l := blks 0 x.num (payl t)) hf (by rw [hbl]; omega) (by rw [hbl]; omega) (fun y hy => (hbo 0 (by omega) (by omega) y hy).1) with ⟨p1, p2, p3, p4⟩ | ⟨p1, p2, p3, p4⟩
 ·have t1 := updD_tn h.byt (hbo 0 (by omega) (by omega)) p4
  have h1 := h.keep3 t1 (by rw [hbl]; omega) hbm
  rw [if_neg (show ¬ ((putW s n ((x.half * x.size + 1 + x.used : Nat) : Int) (blks 0 x.num (payl t))).2 ≠ 0) by rw [p1]; decide)]
  generalize (putW s n ((x.half * x.size + 1 + x.used : Nat) : Int) (blks 0 x.num (payl t))).1 = s1 at *
  have e1 : s1.rd (x.half * x.size + 1 + x.used) = hdl 0 x.num (plen t) := by
   have := updD_in (D := s.rd) (a := x.half * x.size + 1 + x.used) (i := 0) (l := blks 0 x.num (payl t)) (by rw [hbl]; omega)
   exact (p4 _).trans this
  have hc : ∀ D', (∀ q, q < n → Byt (D' q) ∧ (D' q).length = 64) → (∀ q, q ≠ x.half * x.size + 1 + x.used → D' q = s1.rd q) → D' (x.half * x.size + 1 + x.used) = hdl 1 x.num (plen t) → SInv D' n (comt x t) := fun D' hb hq h0 => by
   refine h.committed hv hfit hb (fun i hi => ?_) (fun q hq2 => ?_)
   ·rcases Nat.eq_zero_or_pos i with e | e
    ·subst e
     rw [Nat.add_zero, h0]
     rfl
    ·rw [hq _ (by omega), p4, updD_in (by rw [hbl]; exact hi)]
     obtain ⟨j, rfl⟩ : ∃ j, i = j + 1 := ⟨i - 1, by omega⟩
     rw [blks_succ (by rw [hbl]; exact hi), blks_succ (by rw [hbl]; exact hi)]
   ·rw [hq _ (by omega), p4, updD_out (by rw [hbl]; exact hq2)]
  rcases put_run (a := x.half * x.size + 1 + x.used) (l := [hdl 1 x.num (plen t)]) p2 (by rw [List.length_singleton]; omega) (by simp) (fun y hy => (hb1 y hy).1) with ⟨r1, r2, r3, r4⟩ | ⟨r1, r2, r3, r4⟩
  ·have t3 := updD_tn h1.byt hb1 r4
   left
   rw [if_neg (by rw [r1]; decide)]
   refine ⟨rfl, r2, fun e => r3 (p3 e), rfl, hc _ t3.byt (fun q hq => ?_) ?_⟩
   ·rw [r4, updD_one, if_neg hq]
   ·rw [r4, updD_one, if_pos rfl]
  ·have t3 := r4.tn h1.byt hb1
   right
   rw [if_pos (by rw [r1]; decide)]
   refine ⟨r1, fun e => r2 (p3 e), r3, rfl, ?_⟩
   dsimp only
   rcases r4.one e1 with e | ⟨e, e'⟩
   ·rw [e]
    exact .inl h1
   ·exact .inr (hc _ t3.byt e e')
 ·have t1 := p4.tn h.byt (hbo 0 (by omega) (by omega))
  right
  rw [if_pos (show (putW s n ((x.half * x.size + 1 + x.used : Nat) : Int) (blks 0 x.num (payl t))).2 ≠ 0 by rw [p1]; decide), if_pos (by rw [p1]; decide)]
  exact ⟨p1, p2, p3, rfl, .inl (h.keep3 t1 (by rw [hbl]; omega) hbm)⟩
end
section
variable {s : DS} {n : Nat} {x : SS}
theorem OkT.valid {t : List Rc} (h : OkT t) (hb : ∀ r ∈ t, Byt r.2) : ValidT t := fun r hr => ⟨(h r hr).1, (h r hr).2.1, (h r hr).2.2, hb r hr⟩
structure Cut (s : DS) (n : Nat) (x : SS) (L : List Rc) (r : RR) : Prop where
 err : r.err = 340
 fz : s.fuse ≠ 0
 dead : Dead r.s n
 cont : r.x.L = x.L
 broken : r.x.broken = true
 size : r.x.size = x.size
 disk : ∃ y, SInv r.s.rd n y ∧ (y.L = x.L ∨ y.L = L) ∧ y.num ≤ x.num + 1 ∧ y.size = x.size
structure Won (s : DS) (n : Nat) (x : SS) (L : List Rc) (u : Nat) (r : RR) : Prop where
 err : r.err = 0
 fine : Fine r.s n
 nof : s.fuse = 0 → r.s.fuse = 0
 inv : SInv r.s.rd n r.x
 cont : r.x.L = L
 used : r.x.used = u
 size : r.x.size = x.size
 broken : r.x.broken = false
 num : r.x.num ≤ x.num + 1
def compW (s : DS) (n : Nat) (x : SS) : RR :=
 if x.broken then ⟨s, 340, x⟩ else if (compactW s n x).err ≠ 0 then ⟨(compactW s n x).s, (compactW s n x).err, { (compactW s n x).x with broken := true }⟩ else compactW s n x
theorem compW_run (hf : Fine s n) (h : SInv s.rd n x) (hbr : x.broken = false) (hn : n ≤ 1000) (hnum : x.num < 9223372036854775807) :
  Won s n x x.L (snapN x.L) (compW s n x) ∨ Cut s n x x.L (compW s n x) := by
 unfold compW
 rw [if_neg (by rw [hbr]; decide)]
 rcases compact_run hf h hn hnum with ⟨h1, h2, h3, h4, h5⟩ | ⟨h1, h2, h3, h4, h5⟩
 ·left
  rw [if_neg (by rw [h1]; decide)]
  exact ⟨h1, h2, h3, by rw [h4]; exact h5, by rw [h4]; rfl, by rw [h4]; rfl, by rw [h4]; rfl, by rw [h4]; exact hbr, by rw [h4]; exact Int.le_refl _⟩
 ·right
  rw [if_pos (by rw [h1]; decide)]
  refine ⟨h1, h2, h3, by show (compactW s n x).x.L = _; rw [h4], rfl, by show (compactW s n x).x.size = _; rw [h4], ?_⟩
  rcases h5 with h5 | h5
  ·exact ⟨x, h5, .inl rfl, by omega, rfl⟩
  ·exact ⟨comp x, h5, .inl rfl, Int.le_refl _, rfl⟩
theorem commit_run (hf : Fine s n) (h : SInv s.rd n x) (hbr : x.broken = false) (hn : n ≤ 1000) (hnum : x.num < 9223372036854775806) {t : List Rc} (hb : ∀ r ∈ t, Byt r.2) :
  (commitW s n x t = ⟨s, 1, x⟩ ∧ ¬ OkT t) ∨ (commitW s n x t = ⟨s, 0, x⟩ ∧ t = []) ∨ (commitW s n x t = ⟨s, 351, x⟩ ∧ OkT t ∧ t ≠ [] ∧ x.size - 1 - x.used < secs (plen t) ∧ x.size - 1 - snapN x.L < secs (plen t)) ∨
  (OkT t ∧ t ≠ [] ∧ ((¬ x.size - 1 - x.used < secs (plen t) ∧ Won s n x (afterR x.L t) (x.used + secs (plen t)) (commitW s n x t)) ∨
   (x.size - 1 - x.used < secs (plen t) ∧ ¬ x.size - 1 - snapN x.L < secs (plen t) ∧ Won s n x (afterR x.L t) (snapN x.L + secs (plen t)) (commitW s n x t)) ∨
   (¬ (x.size - 1 - x.used < secs (plen t) ∧ x.size - 1 - snapN x.L < secs (plen t)) ∧ Cut s n x (afterR x.L t) (commitW s n x t)))) := by
 unfold commitW
 rw [if_neg (by rw [hbr]; decide)]
 rcases Classical.em (OkT t) with hok | hok
 case inr =>
  rw [if_pos hok]
  exact .inl ⟨rfl, hok⟩
 rw [if_neg (fun hh => hh hok)]
 by_cases ht : t = []
 ·rw [if_pos ht]
  exact .inr (.inl ⟨rfl, ht⟩)
 rw [if_neg ht]
 have hv := hok.valid hb
 have hsn := h.snap
 by_cases h1 : x.size - 1 - x.used < secs (plen t)
 ·rw [if_pos h1]
  by_cases h2 : x.size - 1 - snapN x.L < secs (plen t)
  ·rw [if_pos h2]
   exact .inr (.inr (.inl ⟨rfl, hok, ht, h1, h2⟩))
  rw [if_neg h2]
  refine .inr (.inr (.inr ⟨hok, ht, ?_⟩))
  rcases compact_run hf h hn (by omega) with ⟨c1, c2, c3, c4, c5⟩ | ⟨c1, c2, c3, c4, c5⟩
  ·rw [if_neg (show ¬ ((compactW s n x).err ≠ 0) by rw [c1]; decide), c4]
   generalize (compactW s n x).s = s1 at *
   have hu : (comp x).used = snapN x.L := rfl
   have hz : (comp x).size = x.size := rfl
   rcases fin_run c2 c5 hn hv (by rw [hu, hz]; omega) with ⟨d1, d2, d3, d4, d5⟩ | ⟨d1, d2, d3, d4, d5⟩
   ·refine .inr (.inl ⟨h1, h2, d1, d2, fun e => d3 (c3 e), by rw [d4]; exact d5, by rw [d4]; rfl, by rw [d4]; rfl, by rw [d4]; rfl, by rw [d4]; exact hbr, by rw [d4]; exact Int.le_refl _⟩)
   ·refine .inr (.inr ⟨fun e => h2 e.2, d1, fun e => d2 (c3 e), d3, by rw [d4]; rfl, by rw [d4], by rw [d4]; rfl, ?_⟩)
    rcases d5 with d5 | d5
    ·exact ⟨comp x, d5, .inl rfl, Int.le_refl _, rfl⟩
    ·exact ⟨_, d5, .inr rfl, Int.le_refl _, rfl⟩
  ·rw [if_pos (show (compactW s n x).err ≠ 0 by rw [c1]; decide)]
   refine .inr (.inr ⟨fun e => h2 e.2, c1, c2, c3, by show (compactW s n x).x.L = _; rw [c4], rfl, by show (compactW s n x).x.size = _; rw [c4], ?_⟩)
   rcases c5 with c5 | c5
   ·exact ⟨x, c5, .inl rfl, by omega, rfl⟩
   ·exact ⟨comp x, c5, .inl rfl, Int.le_refl _, rfl⟩
 ·rw [if_neg h1]
  refine .inr (.inr (.inr ⟨hok, ht, ?_⟩))
  rcases fin_run hf h hn hv (by omega) with ⟨d1, d2, d3, d4, d5⟩ | ⟨d1, d2, d3, d4, d5⟩
  ·refine .inl ⟨h1, d1, d2, d3, by rw [d4]; exact d5, by rw [d4]; rfl, by rw [d4]; rfl, by rw [d4]; rfl, by rw [d4]; exact hbr, by rw [d4]; show x.num ≤ _; omega⟩
  ·refine .inr (.inr ⟨fun e => h1 e.1, d1, d2, d3, by rw [d4], by rw [d4], by rw [d4], ?_⟩)
   rcases d5 with d5 | d5
   ·exact ⟨x, d5, .inl rfl, by omega, rfl⟩
   ·exact ⟨_, d5, .inr rfl, by show x.num ≤ _; omega, rfl⟩
end
abbrev flatB (bs : List (List Int)) : List Value := bs.flatMap fun b => u8s b
theorem flatB_len {bs : List (List Int)} (h : ∀ b ∈ bs, b.length = 64) : (flatB bs).length = bs.length * 64 := by
 induction bs with
 | nil => rfl
 | cons b bs ih =>
  have h1 := h b (by simp)
  have h2 := ih fun x hx => h x (by simp [hx])
  rw [show flatB (b :: bs) = u8s b ++ flatB bs by simp [flatB], List.length_append, List.length_map, h1, h2, List.length_cons]
  omega
theorem flatB_at {bs : List (List Int)} (h : ∀ b ∈ bs, b.length = 64) {k : Nat} (hk : k < bs.length) : ((flatB bs).drop (k * 64)).take 64 = u8s bs[k] := by
 induction bs generalizing k with
 | nil => simp at hk
 | cons b bs ih =>
  have h1 : (u8s b).length = 64 := by rw [List.length_map]; exact h b (by simp)
  rw [show flatB (b :: bs) = u8s b ++ flatB bs by simp [flatB]]
  cases k with
  | zero => rw [Nat.zero_mul, List.drop_zero, List.take_append_of_le_length (by omega), List.take_of_length_le (by omega)]; rfl
  | succ k =>
   rw [List.drop_append, h1, List.drop_of_length_le (by omega), List.nil_append, show (k + 1) * 64 - 64 = k * 64 by omega]
   exact ih (fun x hx => h x (by simp [hx])) (by simpa using hk)
theorem flatB_snoc (bs : List (List Int)) (b : List Int) : flatB (bs ++ [b]) = flatB bs ++ u8s b := by simp [flatB]
theorem RdS.sub {F : PH} {s : Sl} {size : Nat} {vs : List Value} (h : RdS F s size vs) {a : Addr} (ha : s.base = some a) {k m : Nat} (hk : k + m ≤ vs.length) : RdS F ⟨some (a.add k), m, m⟩ 1 ((vs.drop k).take m) := by
 refine ⟨by rw [List.length_take, List.length_drop]; simp only; omega, Nat.le_refl _, fun hp => ?_⟩
 have h0 : 0 < s.len := by
  rcases Nat.eq_zero_or_pos s.len with e | e
  ·have := h.len
   simp only at hp
   rw [e, Nat.zero_mul] at this
   omega
  ·exact e
 obtain ⟨b, o, h1, h2⟩ := h.cells h0
 rw [ha] at h1
 cases h1
 refine ⟨b, o + k, by rw [add_mk], fun i hi => ?_⟩
 rw [List.length_take, List.length_drop] at hi
 rw [List.getElem_take, List.getElem_drop, Nat.add_assoc]
 exact h2 (k + i) (by omega)
theorem RdS.base {F : PH} {s : Sl} {size : Nat} {vs : List Value} (h : RdS F s size vs) (h0 : 0 < s.len) : ∃ b o, s.base = some ⟨b, o, none⟩ := by
 obtain ⟨b, o, h1, _⟩ := h.cells h0
 exact ⟨b, o, h1⟩
theorem drop_next {α : Type} {l : List α} {k : Nat} (h : k < l.length) : l.drop k = l[k] :: l.drop (k + 1) := List.drop_eq_getElem_cons h
section
variable {F K : PH} {d n : Nat} {fd : Nat → Prop} {s : DS}
theorem put_spec (h : DRep F K d fd n s) {sl : Sl} {bs : List (List Int)} {at_ : Int} (hr : RdS (mns F fd) sl 64 (flatB bs)) (hb : ∀ b ∈ bs, b.length = 64) (h1000 : s.ws.length + bs.length ≤ 1000) (h0 : 0 ≤ at_) (h1 : at_ ≤ 1000000) :
  Spec prog 57 #[.pointer (some ⟨d, 0, none⟩), .int .i64 at_, sl.v] F fun v F' => v = .int .i64 (putW s n at_ bs).2 ∧ ∃ fd', DRep F' K d fd' n (putW s n at_ bs).1 ∧ Step fd F fd' F' := by
 have hsl : sl.len = bs.length := by have := hr.len; rw [flatB_len hb] at this; omega
 refine c57 ?_
 unfold b57
 refine ⟨fun m i F' => ∃ (k : Nat) (fd' : Nat → Prop) (sk : DS), i = k ∧ k ≤ bs.length ∧ m = bs.length - k ∧ DRep F' K d fd' n sk ∧ Step fd F fd' F' ∧ putW sk n (at_ + k) (bs.drop k) = putW s n at_ bs ∧ sk.ws.length + (bs.length - k) ≤ 1000, bs.length,
  ⟨0, fd, s, rfl, by omega, rfl, h, Step.refl _ _, by simp, by omega⟩, ?_⟩
 rintro _ _ F' ⟨k, fd', sk, rfl, hk, rfl, hrep, hst, hput, hws⟩
 unfold b57L1
 refine ⟨fun hlt => ?_, fun hge => ?_⟩
 ·have hk' : k < bs.length := by omega
  have hr' := hr.le hst.le
  obtain ⟨b, o, hbase⟩ := hr'.base (by omega)
  have e1 : IntKind.i64.wrap (at_ + (k : Int)) = at_ + k := w64_eq (by omega) (by omega)
  refine ⟨_, hbase, by omega, by omega, ?_⟩
  rw [e1, Int.toNat_natCast]
  have hfl := flatB_len hb
  have hsub := (hr'.sub hbase (k := k * 64) (m := 64) (by rw [hfl]; omega)).cut (l := 0) (r := 64) (m := 64) (by omega) (by simp only; omega) (by omega)
  rw [flatB_at hb hk', Nat.zero_mul, List.drop_zero, List.take_of_length_le (by rw [List.length_map, hb _ (List.getElem_mem _)]; decide)] at hsub
  refine (write_spec hrep hsub (by omega) (by rw [hb _ (List.getElem_mem _)]; decide)).mono ?_
  rintro v F2 ⟨rfl, fd2, hrep2, hst2⟩
  rw [drop_next hk', putW] at hput
  refine ⟨_, rfl, fun hne => ?_, fun heq => ?_⟩
  ·rw [if_pos hne] at hput
   rw [← hput]
   exact ⟨rfl, fd2, hrep2, hst.trans hst2⟩
  ·rw [if_neg heq] at hput
   have := sk.write_ws n (at_ + k) bs[k]
   refine ⟨bs.length - (k + 1), by omega, k + 1, fd2, _, w64s (by omega), by omega, rfl, hrep2, hst.trans hst2, ?_, by omega⟩
   rw [← hput]
   congr 1
   omega
 ·obtain rfl : k = bs.length := by omega
  unfold b57j1
  rw [List.drop_length, putW] at hput
  refine (flush_spec hrep).mono ?_
  rintro v F2 ⟨rfl, fd2, hrep2, hst2⟩
  refine ⟨_, rfl, ?_⟩
  rw [← hput]
  exact ⟨rfl, fd2, hrep2, hst.trans hst2⟩
theorem fur_set {d : List Int} {k : Nat} : wr ((Array.replicate 64 (Value.int .u8 0)).setIfInBounds 0 (.int .u8 2)) 1 ((u8s (d.drop (63 * k))).take (min 63 (d.length - 63 * k))) = (u8s (fur d k)).toArray := by
 rw [show (Array.replicate 64 (Value.int .u8 0)).setIfInBounds 0 (.int .u8 2) = (Value.int .u8 2 :: List.replicate 63 (Value.int .u8 0)).toArray from rfl, wr_list _ _ _ (by simp only [List.length_take, List.length_cons, List.length_replicate, List.length_map, List.length_drop]; omega)]
 congr 1
 unfold fur
 have e : ((d.drop (63 * k)).take 63).length = min 63 (d.length - 63 * k) := by rw [List.length_take, List.length_drop]
 have e2 : (u8s (d.drop (63 * k))).take (min 63 (d.length - 63 * k)) = u8s ((d.drop (63 * k)).take 63) := by
  rw [u8s, u8s, ← List.map_take]
  congr 1
  by_cases e3 : 63 ≤ d.length - 63 * k
  ·rw [Nat.min_eq_left e3]
  ·rw [List.take_of_length_le (by rw [List.length_drop]; omega), List.take_of_length_le (by rw [List.length_drop]; omega)]
 rw [e2]
 simp only [u8s, List.map_cons, List.map_append, List.map_replicate, List.take_succ_cons, List.take_zero, List.length_map, e, List.cons_append, List.nil_append]
 congr 2
 rw [show 1 + min 63 (d.length - 63 * k) = min 63 (d.length - 63 * k) + 1 by omega, List.drop_succ_cons, List.drop_replicate, List.length_drop]
 congr 1
 omega
theorem blks_next {m num : Int} {d : List Int} {k : Nat} (h : k + 1 < (blks m num d).length) : (blks m num d).take (k + 2) = (blks m num d).take (k + 1) ++ [fur d k] := by
 rw [List.take_add_one, List.getElem?_eq_getElem h]
 have := blks_succ h
 rw [List.getD_eq_getElem?_getD, List.getElem?_eq_getElem h, Option.getD_some] at this
 rw [this]
 rfl
theorem blocks_spec {F : PH} {m num : Int} {s : Sl} {d : List Int} (hr : RdS F s 1 (u8s d)) (hl : d.length ≤ 1000000) :
  Spec prog 55 #[.int .u8 m, .int .u64 num, s.v] F fun v F' => ∃ sl, v = Sl.v sl ∧ Ov 104 64 F F' sl (flatB (blks m num d)) := by
 have hsl := hr.len
 rw [List.length_map, Nat.mul_one] at hsl
 have hbl := blks_len m num d
 unfold secs at hbl
 refine c55 ?_
 unfold b55
 rw [← hsl, wu64_eq (by omega) (by omega)]
 refine head_spec.mono ?_
 rintro v F1 ⟨rfl, l1⟩
 refine ⟨_, rfl, rfl, ?_⟩
 intro b16 h16
 refine atI ?_
 have l2 := le_trans' l1 (le_set_fresh (.cells (u8s (hdl m num d.length)).toArray 104) h16)
 have hO : Ov 104 64 F (F1.set b16 (.cells (u8s (hdl m num d.length)).toArray 104)) ⟨some ⟨b16, 0, none⟩, 1, 1⟩ (flatB [hdl m num d.length]) := by
  refine ⟨l2, .inr ⟨b16, _, rfl, set_eq _ _ _, rfl, Nat.le_refl _, ?_, ?_⟩, fun a ha => by cases ha; exact le_none l1 h16⟩
  ·simp [flatB, hdl_len]
  ·simp [flatB, hdl_len]
   exact List.take_of_length_le (by simp [hdl_len])
 refine ⟨fun q data out F' => ∃ (k : Nat) (G : PH), k ≤ (d.length + 62) / 63 ∧ q = (d.length + 62) / 63 - k ∧ F.le G ∧ RdS F data 1 (u8s (d.drop (63 * k))) ∧ Ov 104 64 G F' out (flatB ((blks m num d).take (k + 1))), (d.length + 62) / 63, ⟨0, F, by omega, rfl, le_refl' F, hr, hO⟩, ?_⟩
 rintro _ data out F2 ⟨k, G, hk, rfl, lG, hdat, hO⟩
 unfold b55L1
 have hdl := hdat.len
 rw [List.length_map, List.length_drop, Nat.mul_one] at hdl
 refine ⟨fun hlt => ?_, fun hge => ?_⟩
 ·have hk' : k < (d.length + 62) / 63 := by omega
  intro b8 h8
  refine atI ?_
  refine stW (set_eq _ _ _) rfl rfl ?_ ?_
  ·rw [z64_u8s, u8s_set]; exact st_u8s
  rw [set_twice]
  refine ⟨by omega, by omega, ?_⟩
  have hO1 := hO.fresh h8 (.cells ((Array.replicate 64 (Value.int .u8 0)).setIfInBounds 0 (.int .u8 2)) 104)
  have ec : Sl.cut ⟨some (Addr.mk b8 0 none), 64, 64⟩ 1 1 64 64 = ⟨some ⟨b8, 1, none⟩, 63, 63⟩ := rfl
  rw [ec]
  refine runs_copy (vs := u8s (d.drop (63 * k))) underlying39 rfl sz5 (hdat.le (le_trans' lG hO1.le)) st_u8s (fun h0 => ?_) (fun _ => ?_)
  ·simp only at h0; omega
  have emin : min data.len (Sl.mk (some ⟨b8, 1, none⟩) 63 63).len = min 63 (d.length - 63 * k) := by simp only; omega
  rw [emin, Nat.mul_one]
  refine ⟨b8, 1, _, _, rfl, set_eq _ _ _, by rw [Array.size_setIfInBounds, Array.size_replicate]; omega, ?_⟩
  rw [set_twice, fur_set]
  have hO2 := hO.fresh h8 (.cells (u8s (fur d k)).toArray 104)
  have q8 := set_eq F2 b8 (.cells (u8s (fur d k)).toArray 104)
  generalize F2.set b8 (.cells (u8s (fur d k)).toArray 104) = F3 at *
  refine ⟨_, rfl, by omega, by rw [Int.toNat_natCast]; omega, hdat.cap, (u8s (fur d k)).toArray, by simp [fur_len], row_whole q8, by simp [fur_len], ?_⟩
  intro b29 h29
  refine atI ?_
  have hO3 := hO2.newg h29 (.cells (u8s (fur d k)).toArray 104)
  have lG3 := hO2.gle h29 (.cells (u8s (fur d k)).toArray 104)
  have q29 := set_eq F3 b29 (.cells (u8s (fur d k)).toArray 104)
  generalize F3.set b29 (.cells (u8s (fur d k)).toArray 104) = F4 at *
  generalize G.set b29 (.cells (u8s (fur d k)).toArray 104) = G1 at *
  have hol := hO3.len
  have hfl : (flatB ((blks m num d).take (k + 1))).length ≤ 64 * (k + 1) := by
   rw [hol]
   have hh : ∀ x ∈ (blks m num d).take (k + 1), x.length = 64 := fun x hx => by
    rcases List.mem_cons.1 (List.mem_of_mem_take hx) with rfl | hx
    ·rfl
    ·obtain ⟨i, _, rfl⟩ := List.mem_map.1 hx
     exact fur_len _ _
   rw [← hol, flatB_len hh, List.length_take]
   omega
  refine hO3.app (x := ⟨some ⟨b29, 0, none⟩, 1, 1⟩) (news := u8s (fur d k)) underlying95 sz104 zr104 rfl (by decide) (RdS.new q29 (by rw [List.take_of_length_le (by simp [fur_len])]) (by simp [fur_len]) (Nat.le_refl _)) st_u8s (by simp only; omega) (by simp only; omega) ?_
  intro s1 F5 hO4
  refine ⟨(d.length + 62) / 63 - (k + 1), by omega, k + 1, G1, by omega, rfl, le_trans' lG lG3, ?_, ?_⟩
  ·rw [Int.toNat_natCast]
   have := hdat.cut (l := min 63 (d.length - 63 * k)) (r := data.len) (m := data.cap) (by omega) (Nat.le_refl _) hdat.cap
   rw [Nat.mul_one, Nat.mul_one, List.take_of_length_le (by rw [List.length_drop, List.length_map, List.length_drop]; omega)] at this
   have e3 : (u8s (d.drop (63 * k))).drop (min 63 (d.length - 63 * k)) = u8s (d.drop (63 * (k + 1))) := by
    rw [u8s, u8s, ← List.map_drop, List.drop_drop]
    by_cases e : 63 ≤ d.length - 63 * k
    ·rw [Nat.min_eq_left e, show 63 * k + 63 = 63 * (k + 1) by omega]
    ·rw [List.drop_of_length_le (by omega), List.drop_of_length_le (by omega)]
   rw [e3] at this
   exact this
  ·rw [show k + 1 + 1 = k + 2 from rfl, blks_next (by omega), flatB_snoc]
   exact hO4
 ·have hk' : (d.length + 62) / 63 ≤ k := by omega
  unfold b55j1
  rw [List.take_of_length_le (by omega)] at hO
  exact ⟨out, rfl, le_trans' lG hO.le, hO.own, fun a ha => le_none lG (hO.oz a ha)⟩
end
end Go.Proofs.Ytelkfnmdnbbniaa
