/-
  The pairs after a byte.
-/
import Derived.Test.YtnjcgpihfmklfaaDoorSd
namespace Go.Proofs.YtnjcgpihfmklfaaDoor
open Go Go.Proofs.Tryd
set_option maxRecDepth 10000

theorem mch_pat {F : PH} {bm : Nat} {l : List Nd} {t : Lt} (h : Mch F bm l t) : ∃ s : Sl, F.cell (Addr.mk bm 0 none) = some s.v ∧ s.len = l.length ∧ ∀ i x, l[i]? = some x → ∃ a, s.base = some a ∧ F.cell ((a.add (i * 5)).add 1) = some (vi x.lo) ∧ F.cell ((a.add (i * 5)).add 2) = some (vi x.hi) := by
  obtain ⟨s, bf, qm, hs, qf⟩ := h.ex
  refine ⟨s, by rw [cell_eq qm]; rfl, hs.nlen, fun i x hx => ?_⟩
  obtain ⟨a, h1, _, h2, h3⟩ := rdn3 hs hx
  exact ⟨a, h1, h2, h3⟩
theorem mch_fol {F : PH} {bm : Nat} {l : List Nd} {t : Lt} (h : Mch F bm l t) : ∃ bf, F.cell ((Addr.mk bm 0 none).add 17) = some (Sl.v ⟨some ⟨bf, 0, none⟩, l.length, l.length⟩) ∧ F bf = some (.cells (flatR l.length (foB t)).toArray 76) := by
  obtain ⟨s, bf, qm, hs, qf⟩ := h.ex
  exact ⟨bf, by rw [add_off, Nat.zero_add, cell_eq qm]; rfl, qf⟩
def mvS (q : List Pr) : Pr → Option Value := fun z => if z ∈ q then some (.bool true) else none
theorem mvS_up (q : List Pr) (y : Pr) : (fun z => if z = y then some (.bool true) else mvS q z) = mvS (q ++ [y]) := by
  funext z
  unfold mvS
  by_cases h : z = y
  · simp [h]
  · simp [h]
theorem pr_bound {q : List Pr} (hn : q.Nodup) (hlt : ∀ x ∈ q, x.1 < 512 ∧ x.2 < 512) : q.length ≤ 262144 := by
  have := nodup_bound 262144 (q.map fun x => x.1 * 512 + x.2) (by
    rw [List.nodup_iff_pairwise_ne, List.pairwise_map]
    refine List.Pairwise.imp_of_mem ?_ (List.nodup_iff_pairwise_ne.1 hn)
    intro a b ha hb hab e
    obtain ⟨h1, h2⟩ := hlt a ha
    obtain ⟨h3, h4⟩ := hlt b hb
    exact hab (Prod.ext (by omega) (by omega))) (fun j hj => by
    obtain ⟨x, hx, rfl⟩ := List.mem_map.1 hj
    obtain ⟨h1, h2⟩ := hlt x hx
    show x.1 * 512 + x.2 < 262144
    omega)
  rwa [List.length_map] at this
section
variable {l1 l2 : List Nd} {t1 t2 : Lt}
/-- The pairs after byte c from those of xs that S chooses. -/
def Aft (T : Two) (S : Pr → Bool) (c : Nat) (xs : List Pr) (y : Pr) : Prop := ∃ x ∈ xs, S x = true ∧ T.acc x c ∧ T.lnk x y ∧ T.cm y
structure AQ (T : Two) (S : Pr → Bool) (c : Nat) (xs q : List Pr) : Prop where
  nd : q.Nodup
  mem : ∀ y, y ∈ q ↔ Aft T S c xs y
theorem AQ.lt (h1 : Mw l1 t1) (h2 : Mw l2 t2) {y : Pr} (h : (two l1 l2 t1 t2).cm y) : y.1 < 512 ∧ y.2 < 512 := by
  obtain ⟨a, b⟩ := cm_lt h
  have := h1.len
  have := h2.len
  omega
def aI1 (T : Two) (F : PH) (b18 : Nat) (S : Pr → Bool) (c : Nat) (now : List Pr) : Nat → Sl → Int → PH → Prop := fun m s i F' =>
  ∃ (w : Nat) (q : List Pr), i = w ∧ w ≤ now.length ∧ m = now.length - w ∧ Qu F F' b18 (mvS q) s q [] ∧ AQ T S c (now.take w) q
def aI2 (G : PH) (b18 b14 : Nat) (x : Pr) (q zs : List Pr) : Nat → Sl → Int → PH → Prop := fun m s i F' =>
  ∃ (k : Nat) (q' : List Pr), i = k ∧ k ≤ zs.length ∧ m = zs.length - k ∧ Qu G F' b18 (mvS q') s q' [(b14, parr x, 92)] ∧ q'.Nodup ∧ ∀ y, y ∈ q' ↔ y ∈ q ∨ y ∈ zs.take k
theorem aft_snoc {T : Two} {S : Pr → Bool} {c w : Nat} {now : List Pr} {x y : Pr} (hx : now[w]? = some x) : Aft T S c (now.take (w + 1)) y ↔ Aft T S c (now.take w) y ∨ (S x = true ∧ T.acc x c ∧ T.lnk x y ∧ T.cm y) := by
  unfold Aft
  rw [List.take_add_one, hx]
  simp only [List.mem_append, Option.toList_some, List.mem_singleton]
  constructor
  · rintro ⟨z, hz | rfl, h⟩
    · exact .inl ⟨z, hz, h⟩
    · exact .inr h
  · rintro (⟨z, hz, h⟩ | h)
    · exact ⟨z, .inl hz, h⟩
    · exact ⟨x, .inr rfl, h⟩
theorem after_L2 (h1 : Mw l1 t1) (h2 : Mw l2 t2) {F G F9 : PH} {b18 b14 : Nat} {x : Pr} {q zs now : List Pr} {a0 b1 : Addr} {c w m m1 : Nat} {S : Pr → Bool} {chosen : Value} {ns sz s : Sl} {i : Int} {R : Value → PH → Prop} (lG : F.le G) (hoz : RdS G sz 2 (pflat zs)) (hzl : zs.length ≤ 262144)
    (hzs : ∀ y, y ∈ zs ↔ (two l1 l2 t1 t2).lnk x y ∧ (two l1 l2 t1 t2).cm y) (hnow : now[w]? = some x) (hnl : now.length ≤ 262144) (hq : AQ (two l1 l2 t1 t2) S c (now.take w) q) (hS : S x = true) (hc : (two l1 l2 t1 t2).acc x c) (hm1 : m1 = now.length - w) (hI : aI2 G b18 b14 x q zs m s i F9) :
    b59L2 (fun y1_0 y1_1 F' => ∃ m', m' < m1 ∧ aI1 (two l1 l2 t1 t2) F b18 S c now m' y1_0 y1_1 F') (fun y2_0 y2_1 F' => ∃ m', m' < m ∧ aI2 G b18 b14 x q zs m' y2_0 y2_1 F') a0 b1 (c : Int) chosen b18 ns (w : Int) sz R s i F9 := by
  obtain ⟨k, q', rfl, hk, rfl, h, hn, hmem⟩ := hI
  have hslen := hoz.plen
  have hwl := (List.getElem?_eq_some_iff.1 hnow).1
  have hcm : ∀ y ∈ q', (two l1 l2 t1 t2).cm y := fun y hy => by
    rcases (hmem y).1 hy with h | h
    · obtain ⟨_, _, _, _, _, h⟩ := (hq.mem y).1 h
      exact h
    · exact ((hzs y).1 (List.mem_of_mem_take h)).2
  have hqb : q'.length ≤ 262144 := pr_bound hn fun y hy => AQ.lt h1 h2 (hcm y hy)
  unfold b59L2
  refine ⟨fun hlt => ?_, fun hge => ?_⟩
  · have hk' : k < zs.length := by omega
    have hy : zs[k]? = some zs[k] := List.getElem?_eq_getElem hk'
    generalize zs[k] = y at hy
    have hy2 := (hzs y).1 (List.mem_of_getElem? hy)
    obtain ⟨a, ha, hr⟩ := rdp (hoz.le h.lo.le) hy
    refine ⟨a, ha, by omega, by omega, parr y, rfl, by rw [Int.toNat_natCast]; exact hr, ?_⟩
    refine h.var y fun b17 F10 h => ?_
    have hlk := h.look mt117 y false
    have tk : ∀ z, z ∈ zs.take (k + 1) ↔ z ∈ zs.take k ∨ z = y := fun z => by rw [List.take_add_one, hy]; simp
    by_cases hin : y ∈ q'
    · rw [show mvS q' y = some (.bool true) by simp [mvS, hin]] at hlk
      refine ⟨parr y, rfl, h.row1, true, hlk, fun h => (by cases h), fun _ => ?_⟩
      unfold b59j4
      refine ⟨zs.length - (k + 1), by omega, k + 1, q', w64s (by omega), by omega, rfl, h.sub (.cons _ (List.Sublist.refl _)), hn, fun z => ?_⟩
      rw [tk, hmem]
      constructor
      · rintro (h | h)
        · exact .inl h
        · exact .inr (.inl h)
      · rintro (h | h | rfl)
        · exact .inl h
        · exact .inr h
        · exact (hmem z).1 hin
    · rw [show mvS q' y = none by simp [mvS, hin]] at hlk
      refine ⟨parr y, rfl, h.row1, false, hlk, fun _ => ?_, fun h => (by cases h)⟩
      refine ⟨parr y, rfl, h.row1, ?_⟩
      refine h.upd mt117 y _ fun F11 h => ?_
      rw [mvS_up] at h
      refine ⟨parr y, rfl, h.row1, rfl, ?_⟩
      refine h.push y (by omega) fun s' F12 h => ?_
      unfold b59j4
      refine ⟨zs.length - (k + 1), by omega, k + 1, q' ++ [y], w64s (by omega), by omega, rfl, h.sub (.cons _ (List.Sublist.refl _)), ?_, fun z => ?_⟩
      · rw [List.nodup_append]
        refine ⟨hn, by simp, fun a ha b hb e => ?_⟩
        simp only [List.mem_singleton] at hb
        subst hb
        exact hin (e ▸ ha)
      · rw [tk, List.mem_append, List.mem_singleton, hmem, or_assoc]
  · obtain rfl : k = zs.length := by omega
    unfold b59j2
    refine ⟨now.length - (w + 1), by omega, w + 1, q', w64s (by omega), by omega, rfl, (h.sub (List.nil_sublist _)).base lG, hn, fun y => ?_⟩
    rw [hmem, hq.mem, List.take_length, hzs, aft_snoc hnow]
    constructor
    · rintro (h | ⟨a, b⟩)
      · exact .inl h
      · exact .inr ⟨hS, hc, a, b⟩
    · rintro (h | ⟨_, _, a, b⟩)
      · exact .inl h
      · exact .inr ⟨a, b⟩
theorem after_L1 {F F5 : PH} (hT : Tab F) {m1 m2 : Nat} (hM1 : Mch F m1 l1 t1) (hM2 : Mch F m2 l2 t2) (h1 : Mw l1 t1) (h2 : Mw l2 t2) {ns s : Sl} {now : List Pr} (hs : RdS F ns 2 (pflat now)) (hnl : now.length ≤ 262144)
    (hnow : ∀ x ∈ now, x.1 < l1.length ∧ x.2 < l2.length) {c : Nat} {S : Pr → Bool} {k : FuncId} {cap : Array Value} (hcb : callableB prog k = true) (hS : ∀ x ∈ now, Spec prog k (#[.agg (parr x)] ++ cap) F fun v F' => v = .bool (S x) ∧ F.le F')
    {b18 m : Nat} {i : Int} {R : Value → PH → Prop} (hI : aI1 (two l1 l2 t1 t2) F b18 S c now m s i F5) (hR : ∀ F' sl q, RdS F' sl 2 (pflat q) → AQ (two l1 l2 t1 t2) S c now q → F.le F' → R sl.v F') :
    b59L1 (fun y1_0 y1_1 F' => ∃ m', m' < m ∧ aI1 (two l1 l2 t1 t2) F b18 S c now m' y1_0 y1_1 F') (some ⟨m1, 0, none⟩) (some ⟨m2, 0, none⟩) (c : Int) (.func (.func k) #[] cap) b18 ns R s i F5 := by
  obtain ⟨w, q, rfl, hw, rfl, h, hq⟩ := hI
  have hlen := hs.plen
  unfold b59L1
  refine ⟨fun hlt => ?_, fun hge => ?_⟩
  · have hw' : w < now.length := by omega
    have hx : now[w]? = some now[w] := List.getElem?_eq_getElem hw'
    generalize now[w] = x at hx
    have hxm := List.mem_of_getElem? hx
    obtain ⟨hx1, hx2⟩ := hnow x hxm
    obtain ⟨a, ha, hr⟩ := rdp (hs.le h.lo.le) hx
    refine ⟨a, ha, by omega, by omega, parr x, rfl, by rw [Int.toNat_natCast]; exact hr, ?_⟩
    refine h.var x fun b14 F6 h => ?_
    obtain ⟨s1, c1, n1, k1⟩ := mch_pat (hM1.le h.lo.le)
    obtain ⟨s2, c2, n2, k2⟩ := mch_pat (hM2.le h.lo.le)
    have hn1 : l1[x.1]? = some l1[x.1] := List.getElem?_eq_getElem hx1
    have hn2 : l2[x.2]? = some l2[x.2] := List.getElem?_eq_getElem hx2
    generalize l1[x.1] = y1 at hn1
    generalize l2[x.2] = y2 at hn2
    obtain ⟨a1, ha1, lo1, hi1⟩ := k1 _ _ hn1
    obtain ⟨a2, ha2, lo2, hi2⟩ := k2 _ _ hn2
    have ea : Int.toNat (x.1 : Int) = x.1 := Int.toNat_natCast _
    have eb : Int.toNat (x.2 : Int) = x.2 := Int.toNat_natCast _
    have skip : ¬ (S x = true ∧ (two l1 l2 t1 t2).acc x c) → ∀ {G F' : PH}, F.le G → Qu G F' b18 (mvS q) s q [(b14, parr x, 92)] → ∃ m', m' < now.length - w ∧ aI1 (two l1 l2 t1 t2) F b18 S c now m' s (IntKind.i64.wrap ((w : Int) + 1)) F' := fun hno {G F'} lG h => by
      refine ⟨now.length - (w + 1), by omega, w + 1, q, w64s (by omega), by omega, rfl, (h.sub (List.nil_sublist _)).base lG, hq.nd, fun y => ?_⟩
      rw [hq.mem, aft_snoc hx]
      exact ⟨.inl, fun h => h.elim id fun h => absurd ⟨h.1, h.2.1⟩ hno⟩
    have j3 : ∀ ins : Bool, (ins = true ↔ (two l1 l2 t1 t2).acc x c) → b59j3 (fun y1_0 y1_1 F' => ∃ m', m' < now.length - w ∧ aI1 (two l1 l2 t1 t2) F b18 S c now m' y1_0 y1_1 F') (some ⟨m1, 0, none⟩) (some ⟨m2, 0, none⟩) (c : Int) (.func (.func k) #[] cap) b18 s b14 ns (w : Int) ins R F6 := fun ins hins => by
      unfold b59j3
      refine ⟨fun hi => ?_, fun hi => ?_⟩
      · unfold b59j2
        exact skip (fun hh => by rw [hins.2 hh.2] at hi; cases hi) (le_refl' F) h
      · have hacc : (two l1 l2 t1 t2).acc x c := hins.1 (by revert hi; cases ins <;> simp)
        refine ⟨parr x, rfl, h.row1, k, #[], cap, rfl, hcb, ?_⟩
        refine (h.call (hS x hxm)).mono ?_
        rintro _ F7 ⟨G, ⟨rfl, lG⟩, h⟩
        refine ⟨S x, rfl, fun hs0 => ?_, fun hs0 => ?_⟩
        · unfold b59j2
          exact skip (fun hh => by rw [hh.1] at hs0; cases hs0) lG h
        · have hS1 : S x = true := by revert hs0; cases S x <;> simp
          obtain ⟨bf1, f1, g1⟩ := mch_fol (hM1.le lG)
          obtain ⟨bf2, f2, g2⟩ := mch_fol (hM2.le lG)
          have rA := flat_row (h.lo.le _ _ g1) hx1
          have rB := flat_row (h.lo.le _ _ g2) hx2
          refine ⟨_, rfl, _, le_cell h.lo.le f1, (x.1 : Int), h.cells1.1, _, rfl, by omega, by simp only; omega, plA (foB t1 x.1), plA_size _, by rw [Int.toNat_natCast]; exact rA, ?_⟩
          refine ⟨_, rfl, _, le_cell h.lo.le f2, (x.2 : Int), h.cells1.2, _, rfl, by omega, by simp only; omega, plA (foB t2 x.2), plA_size _, by rw [Int.toNat_natCast]; exact rB, ?_⟩
          refine (h.call (meeting_spec (hT.le lG) (hM1.le lG) (hM2.le lG) (P := foB t1 x.1) (Q := foB t2 x.2) (fun i hi => (h1.fol _ _ (foB_iff.1 hi)).2) (fun i hi => (h2.fol _ _ (foB_iff.1 hi)).2))).mono ?_
          rintro _ F8 ⟨G2, ⟨⟨sz, rfl, hoz, _⟩, lG2⟩, h⟩
          have hzs : ∀ y, y ∈ meetL l1 l2 (foB t1 x.1) (foB t2 x.2) 512 ↔ (two l1 l2 t1 t2).lnk x y ∧ (two l1 l2 t1 t2).cm y := fun y => by
            rw [meet_two h1 h2, foB_iff, foB_iff]
            exact Iff.rfl
          have hzl : (meetL l1 l2 (foB t1 x.1) (foB t2 x.2) 512).length ≤ 262144 := meetL_len l1 l2 _ _ 512
          generalize meetL l1 l2 (foB t1 x.1) (foB t2 x.2) 512 = zs at *
          have l2' := le_trans' lG2 h.lo.le
          refine ⟨_, rfl, h.cells1.2, le_cell l2' f2, h.cells1.1, le_cell l2' f1, aI2 G2 b18 b14 x q zs, zs.length, ⟨0, q, rfl, by omega, by omega, h, hq.nd, fun y => by simp⟩, fun m s i F9 hI => ?_⟩
          exact after_L2 h1 h2 (le_trans' lG lG2) hoz.rd hzl hzs hx hnl hq hS1 hacc rfl hI
    have accI : (two l1 l2 t1 t2).acc x c ↔ ((y1.lo ≤ (c : Int) ∧ (c : Int) ≤ y1.hi) ∧ y2.lo ≤ (c : Int) ∧ (c : Int) ≤ y2.hi) := by
      constructor
      · rintro ⟨⟨z1, e1, p1⟩, ⟨z2, e2, p2⟩⟩
        rw [hn1] at e1
        rw [hn2] at e2
        cases e1
        cases e2
        exact ⟨p1, p2⟩
      · rintro ⟨p1, p2⟩
        exact ⟨⟨y1, hn1, p1⟩, ⟨y2, hn2, p2⟩⟩
    refine ⟨_, rfl, s1, c1, (x.1 : Int), h.cells1.1, a1, ha1, by omega, by omega, y1.lo, by rw [ea]; exact lo1, fun p1 => ?_, fun p1 => j3 false ⟨fun h => (by cases h), fun h => absurd (accI.1 h).1.1 p1⟩⟩
    refine ⟨s1, c1, (x.1 : Int), h.cells1.1, a1, ha1, by omega, by omega, y1.hi, by rw [ea]; exact hi1, fun p2 => ?_, fun p2 => j3 false ⟨fun h => (by cases h), fun h => absurd (accI.1 h).1.2 p2⟩⟩
    refine ⟨_, rfl, s2, c2, (x.2 : Int), h.cells1.2, a2, ha2, by omega, by omega, y2.lo, by rw [eb]; exact lo2, fun p3 => ?_, fun p3 => j3 false ⟨fun h => (by cases h), fun h => absurd (accI.1 h).2.1 p3⟩⟩
    refine ⟨s2, c2, (x.2 : Int), h.cells1.2, a2, ha2, by omega, by omega, y2.hi, by rw [eb]; exact hi2, j3 _ ?_⟩
    rw [decide_eq_true_eq, accI]
    exact ⟨fun h => ⟨⟨p1, p2⟩, p3, h⟩, fun h => h.2.2⟩
  · obtain rfl : w = now.length := by omega
    unfold b59j1
    rw [List.take_length] at hq
    exact hR _ s q h.own.rd hq h.lo.le
theorem after_spec {F : PH} (hT : Tab F) {m1 m2 : Nat} (hM1 : Mch F m1 l1 t1) (hM2 : Mch F m2 l2 t2) (h1 : Mw l1 t1) (h2 : Mw l2 t2) {ns : Sl} {now : List Pr} (hs : RdS F ns 2 (pflat now)) (hnl : now.length ≤ 262144)
    (hnow : ∀ x ∈ now, x.1 < l1.length ∧ x.2 < l2.length) {c : Nat} {S : Pr → Bool} {k : FuncId} {cap : Array Value} (hcb : callableB prog k = true) (hS : ∀ x ∈ now, Spec prog k (#[.agg (parr x)] ++ cap) F fun v F' => v = .bool (S x) ∧ F.le F') :
    Spec prog 59 #[pa m1, pa m2, ns.v, vi c, .func (.func k) #[] cap] F fun r F' => (∃ (sl : Sl) (q : List Pr), r = sl.v ∧ RdS F' sl 2 (pflat q) ∧ AQ (two l1 l2 t1 t2) S c now q) ∧ F.le F' := by
  refine c59 ?_
  unfold b59
  intro b18 hb
  refine atI ?_
  have le1 := le_set_fresh (.map #[] 0) hb
  have q1 := set_eq F b18 (.map #[] 0)
  generalize F.set b18 (.map #[] 0) = F1 at *
  refine ⟨aI1 (two l1 l2 t1 t2) F b18 S c now, now.length, ⟨0, [], rfl, by omega, by omega, ⟨⟨le1, fun p hp => (by cases hp), List.nodup_nil⟩, ⟨_, q1, ?_⟩, hb, fun p hp => (by cases hp), .inl ⟨rfl, rfl⟩, fun a ha => (by cases ha)⟩, List.nodup_nil, fun y => ?_⟩, fun m s i F5 hI => ?_⟩
  · have : mvS [] = fun _ => none := by funext z; simp [mvS]
    rw [this]
    exact MapO.empty encP
  · simp [Aft]
  · exact after_L1 hT hM1 hM2 h1 h2 hs hnl hnow hcb hS hI fun F' sl q hr ha lF => ⟨⟨sl, q, rfl, hr, ha⟩, lF⟩
end
/-- Is x at distance r? -/
theorem dist_at {F : PH} {b10 bm r : Nat} {o : Obj} {m : Pr → Option Nat} {d : Addr} (h1 : F.cell (Addr.mk b10 0 none) = some (.map (some bm))) (h2 : F bm = some o) (h3 : MapO encP (mvI m) o) (h4 : F.cell d = some (vi r)) (x : Pr) :
    Spec prog 60 #[.agg (parr x), pa b10, .pointer (some d)] F fun v F' => v = .bool (decide (m x = some r)) ∧ F.le F' := by
  refine c60 ?_
  unfold b60
  intro b3 hb
  refine atI ?_
  have le1 := le_set_fresh (.cells (parr x) 92) hb
  have q1 := set_eq F b3 (.cells (parr x) 92)
  generalize F.set b3 (.cells (parr x) 92) = F1 at *
  have hl := rdo_lookup mt87 (le1 _ _ h2) h3 x true
  refine ⟨_, rfl, _, le_cell le1 h1, parr x, rfl, row_whole q1, ?_⟩
  cases hm : m x with
  | none =>
    rw [show mvI m x = none by simp [mvI, hm]] at hl
    exact ⟨0, false, hl, fun h => (by cases h), fun _ => ⟨by simp, le1⟩⟩
  | some e =>
    rw [show mvI m x = some (vi e) by simp [mvI, hm]] at hl
    refine ⟨(e : Int), true, hl, fun _ => ⟨_, rfl, _, le_cell le1 h4, ?_, le1⟩, fun h => (by cases h)⟩
    congr 1
    rw [Bool.eq_iff_iff, decide_eq_true_eq, decide_eq_true_eq]
    constructor
    · intro h
      rw [show e = r by omega]
    · intro h
      cases h
      rfl
end Go.Proofs.YtnjcgpihfmklfaaDoor
