/-
  Made: a valid pattern of at most as many nodes as were asked for.
-/
import Derived.Test.YtnjcgpihfmklfaaDoorSj
namespace Go.Proofs.YtnjcgpihfmklfaaDoor
open Go Go.Proofs.Tryd
set_option maxRecDepth 10000
def MadeK (K : Nat) (F : PH) (r : Value) : Prop := ∃ t : Pat, t.byt ∧ t.size ≤ K ∧ PatV F r (t.nodes 0)
def kI2k (K : Nat) (F0 : PH) (n : Nat) : Nat → Sl → Int → Int → PH → Prop := fun m s z i F' =>
 ∃ (w : Nat) (G : PH) (L : List (Sl × Pat)), i = w ∧ w ≤ n ∧ m = n - w ∧ F0.le G ∧ Ov 25 G F' s (svs L) ∧ Rds G L ∧ z = szs L ∧ szs L ≤ K ∧ s ≠ Sl.nil
theorem MadeK.rd {K : Nat} (hK : K ≤ 40) {F : PH} {r : Value} (h : MadeK K F r) : ∃ (s : Sl) (t : Pat), r = s.v ∧ t.byt ∧ t.size ≤ K ∧ RdS F s 5 (nflat (t.nodes 0)) ∧ chkP (t.nodes 0) = 0 := by
 obtain ⟨t, hb, hs, s, rfl, hr⟩ := h
 exact ⟨s, t, rfl, hb, hs, hr, nodes_chk hb (by omega)⟩
section
variable {F0 : PH}
theorem made_fink {K : Nat} (hK1 : 1 ≤ K) (hK : K ≤ 40) {s : Sl} {G F' : PH} {L : List (Sl × Pat)} (lG : F0.le G) (h : Ov 25 G F' s (svs L)) (hR : Rds G L) (hz : szs L ≤ K) : b16j1 s (fun r F' => MadeK K F' r ∧ F0.le F') F' := by
 have hlen : s.len = L.length := by rw [h.len]; simp [svs]
 have hl2 := szs_len L
 have l0 := le_trans' lG h.le
 unfold b16j1
 refine ⟨fun h0 => ?_, fun h0 => ?_⟩
 ·refine ((empty_ref F').mono ?_)
  rintro _ F1 ⟨⟨s', rfl, hr⟩, l1⟩
  exact ⟨s', rfl, ⟨.emp, trivial, hK1, s', rfl, hr⟩, le_trans' l0 l1⟩
 ·have hpos : 0 < L.length := by omega
  have hx0 : L[0]? = some L[0] := List.getElem?_eq_getElem hpos
  obtain ⟨a, ha, hca⟩ := svs_cell h hx0
  obtain ⟨r0, b0⟩ := hR _ (List.mem_of_getElem? hx0)
  refine ⟨a, ha, by omega, by omega, _, hca, ?_⟩
  refine ⟨kI1 F' L, L.length - 1, ⟨1, L[0].2, rfl, Nat.le_refl _, by omega, rfl, le_refl' _, b0, by rw [szs_take hx0]; simp [szs], r0.le h.le⟩, ?_⟩
  rintro m o _ F1 ⟨w, t, rfl, hw1, hw, rfl, l1, hb, hsz, hr⟩
  have htl : szs (L.take w) ≤ szs L := by
   have := szs_append (L.take w) (L.drop w)
   rw [List.take_append_drop] at this
   omega
  unfold b16L1
  refine ⟨fun hlt => ?_, fun hge => ?_⟩
  ·have hw' : w < L.length := by omega
   have hx : L[w]? = some L[w] := List.getElem?_eq_getElem hw'
   generalize L[w] = x at hx
   obtain ⟨a, ha, hca⟩ := svs_cell h hx
   obtain ⟨rx, bx⟩ := hR _ (List.mem_of_getElem? hx)
   have htl' : szs (L.take (w + 1)) ≤ szs L := by
    have := szs_append (L.take (w + 1)) (L.drop (w + 1))
    rw [List.take_append_drop] at this
    omega
   have hst := szs_take hx
   refine ⟨a, ha, by omega, by omega, _, le_cell l1 (by rw [Int.toNat_natCast]; exact hca), ?_⟩
   refine (join_ref 2 hr ((rx.le h.le).le l1) (by rw [t.nodes_length]; omega) (by rw [x.2.nodes_length]; omega)).mono ?_
   rintro _ F2 ⟨⟨o', rfl, hr'⟩, l2⟩
   rw [joinL_seq t x.2 (by omega)] at hr'
   refine ⟨o', rfl, L.length - (w + 1), by omega, w + 1, .seq t x.2, w64s (by omega), by omega, by omega, rfl, le_trans' l1 l2, ⟨hb, bx⟩, by rw [hst, ← hsz]; simp only [Pat.size]; omega, hr'⟩
  ·have hw' : w = L.length := by omega
   subst hw'
   rw [List.take_length] at hsz
   unfold b16j2
   exact ⟨⟨t, hb, by omega, o, rfl, hr⟩, le_trans' l0 l1⟩
theorem made_j4k {K : Nat} (hK : K ≤ 40) {F1 : PH} {lv : Sl} {n w b : Nat} {most : Int} (hb : b ≤ 255) (hn : n ≤ 9000000000000000) (hw : w < n) {s : Sl} {G : PH} {L : List (Sl × Pat)} (lG : F0.le G) (h : Ov 25 G F1 s (svs L)) (hR : Rds G L) (hz : szs L + 2 ≤ K) (hne : s ≠ Sl.nil) (fl : Bool) (hfl : fl = false → 1 ≤ L.length ∧ (b % 9 ≠ 8 → 2 ≤ L.length)) {R : Value → PH → Prop} :
  b16j4 (fun y0 y1 y2 F' => ∃ m', m' < n - w ∧ kI2k K F0 n m' y0 y1 y2 F') lv most s (szs L : Nat) (w : Nat) (b : Nat) fl R F1 := by
 have hlen : s.len = L.length := by rw [h.len]; simp [svs]
 have hl2 := szs_len L
 have e0 : IntKind.i64.wrap ((b : Nat) : Int) = b := w64_eq (by omega) (by omega)
 have e1 : Int.tmod ((b : Nat) : Int) 9 = ((b % 9 : Nat) : Int) := rfl
 have e2 : Int.tdiv ((b : Nat) : Int) 9 = ((b / 9 : Nat) : Int) := rfl
 have e3 : Int.tdiv ((b : Nat) : Int) 27 = ((b / 27 : Nat) : Int) := rfl
 have e4 : IntKind.i64.wrap ((b / 9 : Nat) : Int) = ((b / 9 : Nat) : Int) := w64_eq (by omega) (by omega)
 have e5 : IntKind.i64.wrap ((b / 27 : Nat) : Int) = ((b / 27 : Nat) : Int) := w64_eq (by omega) (by omega)
 have e6 : Int.tmod ((b / 9 : Nat) : Int) 3 = ((b / 9 % 3 : Nat) : Int) := rfl
 have e7 : Int.tmod ((b / 27 : Nat) : Int) 2 = ((b / 27 % 2 : Nat) : Int) := rfl
 have push : ∀ {G' F2 : PH} (x : Sl) (t : Pat), F0.le G' → G.le G' → Ov 25 G' F2 s (svs L) → RdS G' x 5 (nflat (t.nodes 0)) → t.byt → t.size = 1 → ∀ c, F2 c = none → atF (F2.set c (.cells #[x.v] 25)) fun F => runs prog (Builtin.append_ #[56, 56] 56 #[(Sl.v s), (Sl.v (Sl.mk (some (Addr.mk c 0 none)) 1 1))]) F fun v F => ∃ s' : Sl, v = (Sl.v s') ∧
   b16j5 (fun y0 y1 y2 F' => ∃ m', m' < n - w ∧ kI2k K F0 n m' y0 y1 y2 F') lv most (szs L : Nat) (w : Nat) s' R F := fun {G' F2} x t l1 l2 hO hr hbt hts => by
  refine hO.push underlying56 sz25' zr25' rfl (by decide) st_sl (by omega) fun s' F' h' => ?_
  unfold b16j5 b16j3
  have e : svs L ++ [x.v] = svs (L ++ [(x, t)]) := by simp [svs]
  rw [e] at h'
  have hz' : szs (L ++ [(x, t)]) = szs L + 2 := by rw [szs_append, szs_one, hts]
  refine ⟨n - (w + 1), by omega, w + 1, G', L ++ [(x, t)], w64s (by omega), by omega, rfl, l1, h', ?_, ?_, by omega, fun e => ?_⟩
  ·intro y hy
   rcases List.mem_append.1 hy with hy | hy
   ·exact hR.le l2 y hy
   ·rw [List.mem_singleton] at hy
    subst hy
    exact ⟨hr, hbt⟩
  ·rw [hz', w64_eq (by omega) (by omega)]
   omega
  ·have := h'.len
   rw [e] at this
   simp [Sl.nil, svs] at this
 unfold b16j4
 rw [e0, e1, e2, e3, e4, e5, e6, e7]
 refine ⟨fun _ => ⟨fun _ => ?_, fun _ => ?_⟩, fun hf => ⟨fun h8 => ?_, fun h8 => ?_⟩⟩
 ·refine (h.call (empty_ref G)).mono ?_
  rintro _ F2 ⟨G', ⟨⟨x, rfl, hr⟩, l1⟩, h'⟩
  exact ⟨x, rfl, push x .emp (le_trans' lG l1) l1 h' hr trivial rfl⟩
 ·rw [w64_eq (x := 97 + ((b / 9 % 3 : Nat) : Int)) (by omega) (by omega), w64_eq (by omega) (by omega)]
  obtain ⟨lo, hlo⟩ : ∃ lo : Nat, lo = 97 + b / 9 % 3 := ⟨_, rfl⟩
  obtain ⟨hi, hhi⟩ : ∃ hi : Nat, hi = min 99 (lo + b / 27 % 2) := ⟨_, rfl⟩
  have elo : (97 : Int) + ((b / 9 % 3 : Nat) : Int) = (lo : Nat) := by omega
  have ehi : min (99 : Int) ((lo : Int) + ((b / 27 % 2 : Nat) : Int)) = (hi : Nat) := by omega
  rw [elo, ehi]
  refine (h.call (one_ref G lo hi)).mono ?_
  rintro _ F2 ⟨G', ⟨⟨x, rfl, hr⟩, l1⟩, h'⟩
  exact ⟨x, rfl, push x (.rng lo hi) (le_trans' lG l1) l1 h' hr ⟨by omega, by omega⟩ rfl⟩
 ·obtain ⟨h1, _⟩ := hfl hf
  obtain ⟨M, x, rfl⟩ : ∃ M x, L = M ++ [x] := ⟨L.dropLast, L.getLast (by intro e; rw [e] at h1; simp at h1), (List.dropLast_concat_getLast _).symm⟩
  rw [List.length_append, List.length_singleton] at hlen hl2
  have eL : IntKind.i64.wrap ((s.len : Int) - 1) = ((M.length : Nat) : Int) := by rw [w64_eq (by omega) (by omega)]; omega
  rw [eL, Int.toNat_natCast]
  have hx : (M ++ [x])[M.length]? = some x := by simp
  obtain ⟨a, ha, hca⟩ := svs_cell h hx
  obtain ⟨rx, bx⟩ := hR x (by simp)
  refine ⟨a, ha, by omega, by omega, _, hca, ?_⟩
  have hsx : szs (M ++ [x]) = szs M + (x.2.size + 1) := by rw [szs_append, szs_one]
  refine (h.call (repeat_ref rx (by rw [x.2.nodes_length]; omega))).mono ?_
  rintro _ F2 ⟨G', ⟨⟨y, rfl, hr⟩, l1⟩, h'⟩
  rw [rep_nodes] at hr
  refine ⟨y, rfl, ?_⟩
  obtain ⟨a, ha, hput⟩ := h'.put (i := M.length) (by omega) y.v (K := b16j3 (fun y0 y1 y2 F' => ∃ m', m' < n - w ∧ kI2k K F0 n m' y0 y1 y2 F') lv most (w : Nat) s (IntKind.i64.wrap ((szs (M ++ [x]) : Int) + 1)) R) fun F3 h3 => by
   unfold b16j3
   have e : (svs (M ++ [x])).set M.length y.v = svs (M ++ [(y, .rep x.2)]) := by
    have hm : (M.map fun x => x.1.v).length = M.length := List.length_map _
    simp only [svs, List.map_append, List.map_cons, List.map_nil]
    rw [List.set_append, if_neg (by omega), hm, Nat.sub_self]
    rfl
   rw [e] at h3
   have hs2 : szs (M ++ [(y, Pat.rep x.2)]) = szs M + (x.2.size + 2) := by
    rw [szs_append, szs_one]
    simp only [Pat.size]
   refine ⟨n - (w + 1), by omega, w + 1, G', M ++ [(y, .rep x.2)], w64s (by omega), by omega, rfl, le_trans' lG l1, h3, fun z hz => ?_, ?_, ?_, hne⟩
   ·rcases List.mem_append.1 hz with hz | hz
    ·exact hR.le l1 z (List.mem_append_left _ hz)
    ·rw [List.mem_singleton] at hz
     subst hz
     exact ⟨hr, bx⟩
   ·rw [w64_eq (by omega) (by omega), hs2, hsx]
    omega
   ·omega
  exact ⟨a, ha, by omega, by omega, hput⟩
 ·obtain ⟨_, h2⟩ := hfl hf
  have h2 := h2 (by omega)
  obtain ⟨M, y, x, rfl⟩ : ∃ M y x, L = M ++ [y, x] := by
   have hn1 : L ≠ [] := by intro e; rw [e] at h2; simp at h2
   have hd : L.dropLast ≠ [] := by intro e; have := congrArg List.length e; simp at this; omega
   refine ⟨L.dropLast.dropLast, L.dropLast.getLast hd, L.getLast hn1, ?_⟩
   have e1 := List.dropLast_concat_getLast hd
   have e2 := List.dropLast_concat_getLast hn1
   rw [← List.singleton_append (l := [_]), ← List.append_assoc, e1, e2]
  have hlm : (M ++ [y, x]).length = M.length + 2 := by simp
  rw [hlm] at hlen hl2
  have eL : IntKind.i64.wrap ((s.len : Int) - 1) = ((M.length + 1 : Nat) : Int) := by rw [w64_eq (by omega) (by omega)]; omega
  have eL2 : IntKind.i64.wrap ((s.len : Int) - 2) = ((M.length : Nat) : Int) := by rw [w64_eq (by omega) (by omega)]; omega
  rw [eL, eL2, Int.toNat_natCast, Int.toNat_natCast]
  have hx : (M ++ [y, x])[M.length + 1]? = some x := by simp
  have hy : (M ++ [y, x])[M.length]? = some y := by simp
  obtain ⟨a1, ha1, hca1⟩ := svs_cell h hx
  obtain ⟨a2, ha2, hca2⟩ := svs_cell h hy
  obtain ⟨rx, bx⟩ := hR x (by simp)
  obtain ⟨ry, by_⟩ := hR y (by simp)
  have hsx : szs (M ++ [y, x]) = szs M + (y.2.size + 1) + (x.2.size + 1) := by
   rw [szs_append, show [y, x] = [y] ++ [x] from rfl, szs_append, szs_one, szs_one]
   omega
  refine ⟨a2, ha2, by omega, by omega, _, hca2, a1, ha1, by omega, by omega, _, hca1, ?_⟩
  have ek : Int.tmod ((b % 9 : Nat) : Int) 2 = ((b % 9 % 2 : Nat) : Int) := rfl
  rw [ek, w64_eq (by omega) (by omega)]
  refine (h.call (join_ref _ ry rx (by rw [y.2.nodes_length]; omega) (by rw [x.2.nodes_length]; omega))).mono ?_
  rintro _ F2 ⟨G', ⟨⟨z, rfl, hr⟩, l1⟩, h'⟩
  obtain ⟨t, hb', hs', hr⟩ : ∃ t : Pat, t.byt ∧ t.size = y.2.size + x.2.size + 1 ∧ RdS G' z 5 (nflat (t.nodes 0)) := by
   rcases Nat.mod_two_eq_zero_or_one (b % 9) with e | e
   ·rw [e] at hr
    exact ⟨.seq y.2 x.2, ⟨by_, bx⟩, rfl, by rw [← joinL_seq _ _ (by omega)]; exact hr⟩
   ·rw [e] at hr
    exact ⟨.alt y.2 x.2, ⟨by_, bx⟩, rfl, by rw [← joinL_alt _ _ (by omega)]; exact hr⟩
  have hcap : M.length ≤ s.cap := by have := h.own.rd.cap; omega
  refine ⟨z, rfl, by omega, by omega, hcap, ?_⟩
  have h3 := h'.cut (k := M.length) (by omega) hne
  have e3 : (svs (M ++ [y, x])).take M.length = svs M := by simp [svs, List.take_left']
  rw [e3] at h3
  have hcl : (Sl.cut s 1 0 M.length s.cap).len ≤ 1000000 := by simp only [Sl.cut]; omega
  refine h3.push underlying56 sz25' zr25' rfl (by decide) st_sl hcl fun s' F3 h4 => ?_
  have e4 : svs M ++ [z.v] = svs (M ++ [(z, t)]) := by simp [svs]
  rw [e4] at h4
  unfold b16j3
  refine ⟨n - (w + 1), by omega, w + 1, G', M ++ [(z, t)], w64s (by omega), by omega, rfl, le_trans' lG l1, h4, fun u hu => ?_, ?_, ?_, fun e => ?_⟩
  ·rcases List.mem_append.1 hu with hu | hu
   ·exact hR.le l1 u (List.mem_append_left _ hu)
   ·rw [List.mem_singleton] at hu
    subst hu
    exact ⟨hr, hb'⟩
  ·rw [w64_eq (x := ((szs (M ++ [y, x]) : Nat) : Int) + 1) (by omega) (by omega), w64_eq (by omega) (by omega), szs_append M [(z, t)], szs_one, hsx]
   simp only [hs']
   omega
  ·rw [szs_append, szs_one]
   simp only [hs']
   omega
  ·have := h4.len
   rw [e] at this
   simp [Sl.nil, svs] at this
theorem made_speck {K : Nat} (hK1 : 1 ≤ K) (hK : K ≤ 40) {F : PH} {sl : Sl} {zs : List Int} (hl : RdS F sl 1 (zs.map (Value.int .u8))) (hz : ∀ z ∈ zs, 0 ≤ z ∧ z ≤ 255) (hlen : zs.length ≤ 9000000000000000) : Spec prog 16 #[sl.v, vi (K : Int)] F fun r F' => MadeK K F' r ∧ F.le F' := by
 have hsl : sl.len = zs.length := by have := hl.len; rw [List.length_map] at this; omega
 refine c16 ?_
 unfold b16
 intro b hb
 refine atI ?_
 have l1 := le_set_fresh (.cells #[] 25) hb
 have q1 := set_eq F b (.cells #[] 25)
 generalize F.set b (.cells #[] 25) = F1 at *
 refine ⟨kI2k K F zs.length, zs.length, ⟨0, F, [], rfl, by omega, by omega, le_refl' F, ⟨l1, .inr ⟨b, #[], rfl, q1, rfl, Nat.le_refl _, rfl, rfl⟩, fun a ha => by cases ha; exact hb⟩, fun x hx => (by cases hx), rfl, by simp [szs], by simp [Sl.nil]⟩, ?_⟩
 rintro _ s _ _ F2 ⟨w, G, L, rfl, hw, rfl, lG, hO, hR, rfl, hz40, hne⟩
 have hsn : s.len = L.length := by rw [hO.len]; simp [svs]
 have hl2 := szs_len L
 unfold b16L2
 rw [w64_eq (x := ((szs L : Nat) : Int) + 2) (by omega) (by omega)]
 refine ⟨fun hlt => ⟨fun h2 => ?_, fun h2 => made_fink hK1 hK lG hO hR hz40⟩, fun hge => made_fink hK1 hK lG hO hR hz40⟩
 have hw' : w < zs.length := by omega
 obtain ⟨a, o, ha, hc⟩ := hl.cells (by omega)
 have hzw := hz zs[w] (List.getElem_mem _)
 obtain ⟨v, hv⟩ := Int.eq_ofNat_of_zero_le hzw.1
 have hcw := hc w (by simpa using hw')
 rw [List.getElem_map, hv] at hcw
 refine ⟨_, ha, by omega, by omega, (v : Int), le_cell (le_trans' lG hO.le) (by rw [Int.toNat_natCast, Nat.mul_one, add_off]; exact hcw), ?_⟩
 have e0 : IntKind.i64.wrap ((v : Nat) : Int) = v := w64_eq (by omega) (by omega)
 have e1 : Int.tmod ((v : Nat) : Int) 9 = ((v % 9 : Nat) : Int) := rfl
 rw [e0, e1]
 have j4 : ∀ fl : Bool, (fl = false → 1 ≤ L.length ∧ (v % 9 ≠ 8 → 2 ≤ L.length)) → b16j4 (fun y0 y1 y2 F' => ∃ m', m' < zs.length - w ∧ kI2k K F zs.length m' y0 y1 y2 F') sl (K : Int) s (szs L : Nat) (w : Nat) (v : Nat) fl (fun r F' => MadeK K F' r ∧ F.le F') F2 :=
  fun fl hfl => made_j4k hK (by omega) hlen hw' lG hO hR (by omega) hne fl hfl
 refine ⟨fun _ => j4 true fun h => (by cases h), fun h5 => ⟨fun h0 => j4 true fun h => (by cases h), fun h0 => ⟨fun h1 => j4 _ fun h => ?_, fun h1 => j4 false fun _ => ⟨by omega, fun _ => by omega⟩⟩⟩⟩
 have := of_decide_eq_false h
 exact ⟨by omega, fun h8 => by omega⟩
end
end Go.Proofs.YtnjcgpihfmklfaaDoor
