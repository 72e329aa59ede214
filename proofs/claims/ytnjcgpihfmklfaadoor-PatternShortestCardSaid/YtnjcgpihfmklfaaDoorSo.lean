/-
  PatternShortest.
-/
import Derived.Test.YtnjcgpihfmklfaaDoorSk
import Derived.Test.YtnjcgpihfmklfaaDoorGL9
namespace Go.Proofs.YtnjcgpihfmklfaaDoor
open Go Go.Proofs.Tryd
set_option maxRecDepth 10000

def wt (k : Nat) : Nat := [121, 40, 13, 4, 1].getD k 0
theorem wt_step {k : Nat} (h : k ≤ 4) : wt k = 1 + 3 * wt (k + 1) := by
  have : k = 0 ∨ k = 1 ∨ k = 2 ∨ k = 3 ∨ k = 4 := by omega
  rcases this with rfl | rfl | rfl | rfl | rfl <;> rfl
def pot (L : List ByteArray) : Nat := (L.map fun x => wt x.size).sum
theorem pot_append (a b : List ByteArray) : pot (a ++ b) = pot a + pot b := by simp [pot]
theorem sz9' : tsz prog 9 = some (1, 16) := by kernel_rfl
theorem zr9' : tzero prog 9 = some (.string ⟨#[]⟩) := by kernel_rfl
section
variable {F0 F : PH} {s : Sl} {l : List Nd} {u : ByteArray} {e : Int}
def oI1 (F0 : PH) : Nat → Sl → Int → PH → Prop := fun m ws i F' => ∃ (w : Nat) (G : PH) (L : List ByteArray), i = w ∧ w ≤ L.length ∧ m = 121 - w ∧ F0.le G ∧ Ov 9 G F' ws (L.map Value.string) ∧ (∀ x ∈ L, x.size ≤ 4) ∧ w + pot (L.drop w) ≤ 121
def oI2 (F0 : PH) (w : Nat) (x : ByteArray) : Nat → Sl → Int → PH → Prop := fun m ws b F' => ∃ (k : Nat) (G : PH) (L : List ByteArray), b = k ∧ k ≤ 3 ∧ m = 3 - k ∧ F0.le G ∧ Ov 9 G F' ws (L.map Value.string) ∧ (∀ x ∈ L, x.size ≤ 4) ∧ L[w]? = some x ∧ w + 1 + (3 - k) * wt (x.size + 1) + pot (L.drop (w + 1)) ≤ 121
theorem str_cell {G F1 : PH} {ws : Sl} {L : List ByteArray} (h : Ov 9 G F1 ws (L.map Value.string)) {i : Nat} {x : ByteArray} (hx : L[i]? = some x) : ∃ a, ws.base = some a ∧ F1.cell (a.add (i * 1)) = some (.string x) := by
  have hlen : ws.len = L.length := by rw [h.len, List.length_map]
  have hi := (List.getElem?_eq_some_iff.1 hx).1
  obtain ⟨b, o, hb, hc⟩ := h.own.rd.cells (by omega)
  refine ⟨_, hb, ?_⟩
  have hlt : i < (L.map Value.string).length := by rw [List.length_map]; exact hi
  have := hc i hlt
  rw [add_off, Nat.mul_one, this, List.getElem_map, (List.getElem?_eq_some_iff.1 hx).2]
theorem pot_len : ∀ (L : List ByteArray), (∀ x ∈ L, x.size ≤ 4) → L.length ≤ pot L
  | [], _ => Nat.zero_le _
  | x :: L, h => by
    have h1 := pot_len L fun y hy => h y (by simp [hy])
    have h2 := wt_step (h x (by simp))
    rw [show x :: L = [x] ++ L from rfl, pot_append, List.length_append, List.length_singleton]
    have : pot [x] = wt x.size := by simp [pot]
    omega
theorem law9_j5 (hT : Tab F0) (hr : RdS F0 s 5 (nflat l)) {w k : Nat} {x : ByteArray} (hk : k < 3) {ws : Sl} {G : PH} {L : List ByteArray} (lG : F0.le G) (hO : Ov 9 G F ws (L.map Value.string)) (hL : ∀ x ∈ L, x.size ≤ 4) (hx : L[w]? = some x) (hp : w + 1 + (3 - k) * wt (x.size + 1) + pot (L.drop (w + 1)) ≤ 121)
    {y : ByteArray} (hy : y = (ByteArray.mk #[97, 98, 99]).extract (Int.toNat (k : Int)) (Int.toNat (IntKind.i64.wrap ((k : Int) + 1)))) (hys : y.size = 1) (hno : ¬ (chkP l = 0 ∧ LgL l (bs (x ++ y)))) {N1 : Sl → Int → PH → Prop} {R : Value → PH → Prop} :
    b9j5 N1 (fun y0 y1 F' => ∃ m', m' < 3 - k ∧ oI2 F0 w x m' y0 y1 F') true s u e ws (w : Int) (k : Int) x R F := by
  have hxs : x.size ≤ 4 := hL x (List.mem_of_getElem? hx)
  have hwl := (List.getElem?_eq_some_iff.1 hx).1
  have hzs : (x ++ y).size = x.size + 1 := by rw [ByteArray.size_append, hys]
  have hdl : (L.drop (w + 1)).length ≤ pot (L.drop (w + 1)) := pot_len _ fun z hz => hL z (List.mem_of_mem_drop hz)
  rw [List.length_drop] at hdl
  have hlen : ws.len = L.length := by rw [hO.len, List.length_map]
  unfold b9j5
  rw [← hy]
  refine (hO.call (matches_spec (hT.le lG) (hr.le lG) (x ++ y) (by omega))).mono ?_
  rintro _ F1 ⟨G1, ⟨⟨q, rfl, hq⟩, lG1⟩, hO⟩
  have hq0 : q = false := by
    rw [← Bool.not_eq_true, hq]
    exact hno
  subst hq0
  have hwk : (3 - k) * wt (x.size + 1) = (3 - (k + 1)) * wt (x.size + 1) + wt (x.size + 1) := by
    rw [show 3 - k = 3 - (k + 1) + 1 by omega, Nat.add_mul, Nat.one_mul]
  refine ⟨false, rfl, fun h => (by cases h), fun _ => ⟨fun h5 => ?_, fun h5 => ?_⟩⟩
  · refine hO.push underlying46 sz9' zr9' rfl (by decide) st_str (by omega) fun s' F' h' => ?_
    unfold b9j4
    refine ⟨3 - (k + 1), by omega, k + 1, G1, L ++ [x ++ y], w64s (by omega), by omega, rfl, le_trans' lG lG1, by rw [List.map_append]; exact h', fun z hz => ?_, by rw [List.getElem?_append_left hwl]; exact hx, ?_⟩
    · rcases List.mem_append.1 hz with hz | hz
      · exact hL z hz
      · rw [List.mem_singleton] at hz
        subst hz
        omega
    · rw [List.drop_append_of_le_length (by omega), pot_append]
      have : pot [x ++ y] = wt (x.size + 1) := by simp [pot, hzs]
      omega
  · unfold b9j4
    exact ⟨3 - (k + 1), by omega, k + 1, G1, L, w64s (by omega), by omega, rfl, le_trans' lG lG1, hO, hL, hx, by omega⟩
theorem law9_j1 {R : Value → PH → Prop} (hR : ∀ F', F0.le F' → R (.bool true) F') (hle : F0.le F) (hT : Tab F0) (hr : RdS F0 s 5 (nflat l)) (hu : ComS l l u e) : b9j1 true s u e R F := by
  unfold b9j1
  intro b hb
  refine atI ?_
  have l1 := le_set_fresh (.cells #[(.string (ByteArray.mk #[]))] 9) hb
  have q1 := set_eq F b (.cells #[(.string (ByteArray.mk #[]))] 9)
  generalize F.set b (.cells #[(.string (ByteArray.mk #[]))] 9) = F1 at *
  refine ⟨oI1 F0, 121, ⟨0, F0, [ByteArray.mk #[]], rfl, by omega, by omega, le_refl' F0, ⟨le_trans' hle l1, .inr ⟨b, _, rfl, q1, rfl, Nat.le_refl _, rfl, rfl⟩, fun a ha => by cases ha; exact le_none hle hb⟩, fun x hx => by rw [List.mem_singleton] at hx; subst hx; exact Nat.zero_le _, by decide⟩, ?_⟩
  rintro _ ws _ F2 ⟨w, G, L, rfl, hw, rfl, lG, hO, hL, hp⟩
  have hlen : ws.len = L.length := by rw [hO.len, List.length_map]
  unfold b9L1
  refine ⟨fun hlt => ?_, fun hge => ?_⟩
  · have hw' : w < L.length := by omega
    have hx : L[w]? = some L[w] := List.getElem?_eq_getElem hw'
    have hd : L.drop w = L[w] :: L.drop (w + 1) := List.drop_eq_getElem_cons hw'
    generalize L[w] = x at hx hd
    have hxs : x.size ≤ 4 := hL x (List.mem_of_getElem? hx)
    have hpd : pot (L.drop w) = wt x.size + pot (L.drop (w + 1)) := by rw [hd, show x :: L.drop (w + 1) = [x] ++ L.drop (w + 1) from rfl, pot_append]; simp [pot]
    have hst := wt_step hxs
    refine ⟨oI2 F0 w x, 3, ⟨0, G, L, rfl, by omega, by omega, lG, hO, hL, hx, by omega⟩, ?_⟩
    clear hO hp hlt hw hL hd hpd
    rintro _ ws' _ F3 ⟨k, G', L', rfl, hk, rfl, lG', hO, hL, hx', hp⟩
    unfold b9L2
    refine ⟨fun hlt => ?_, fun hge => ?_⟩
    · have hk' : k < 3 := by omega
      obtain ⟨a, ha, hc⟩ := str_cell hO hx'
      have hwl := (List.getElem?_eq_some_iff.1 hx').1
      have hlen' : ws'.len = L'.length := by rw [hO.len, List.length_map]
      have e1 : Int.toNat (IntKind.i64.wrap ((k : Int) + 1)) = k + 1 := by rw [w64s (by omega), Int.toNat_natCast]
      have e2 : Int.toNat (k : Int) = k := Int.toNat_natCast k
      obtain ⟨y, hy⟩ : ∃ y, y = (ByteArray.mk #[97, 98, 99]).extract (Int.toNat (k : Int)) (Int.toNat (IntKind.i64.wrap ((k : Int) + 1))) := ⟨_, rfl⟩
      have hys : y.size = 1 := by
        rw [hy, e1, e2, ← bs_length, bs_extract, List.length_take, List.length_drop, bs_length]
        show min (k + 1 - k) (3 - k) = 1
        omega
      have hzs : (x ++ y).size = x.size + 1 := by rw [ByteArray.size_append, hys]
      have hne : bs (x ++ y) ≠ [] := fun h => by have := congrArg List.length h; rw [bs_length, hzs] at this; simp at this
      have j5 : ¬ (chkP l = 0 ∧ LgL l (bs (x ++ y))) → b9j5 (fun y0 y1 F' => ∃ m', m' < 121 - w ∧ oI1 F0 m' y0 y1 F') (fun y0 y1 F' => ∃ m', m' < 3 - k ∧ oI2 F0 w x m' y0 y1 F') true s u e ws' (w : Int) (k : Int) x R F3 :=
        fun hno => law9_j5 hT hr hk' lG' hO hL hx' hp hy hys hno
      refine ⟨a, ha, by omega, by omega, x, by rw [Int.toNat_natCast]; exact hc, by omega, by rw [w64s (by omega)]; omega, by rw [e1, e2]; omega, by rw [e1]; show k + 1 ≤ 3; omega, ?_⟩
      rw [← hy]
      have l3 := le_trans' lG' hO.le
      refine ⟨by omega, fun he => ⟨fun _ => hR _ l3, fun h1 => ⟨fun h2 => ⟨fun _ => hR _ l3, fun h3 => j5 ?_⟩, fun h2 => j5 ?_⟩⟩, fun he => j5 ?_⟩
      · rintro ⟨_, hlg⟩
        rcases hu with ⟨_, _, h⟩ | ⟨hu, _⟩
        · omega
        · have := less_bs (hu.lex _ ⟨hne, hlg, hlg⟩ (by rw [bs_length, bs_length]; omega))
          rw [this] at h3
          cases h3
      · rintro ⟨_, hlg⟩
        rcases hu with ⟨_, _, h⟩ | ⟨hu, _⟩
        · omega
        · have := hu.short _ ⟨hne, hlg, hlg⟩
          rw [bs_length, bs_length] at this
          omega
      · rintro ⟨_, hlg⟩
        rcases hu with ⟨h, _⟩ | ⟨hu, h, _⟩
        · exact h _ ⟨hne, hlg, hlg⟩
        · exact he h
    · have hk3 : k = 3 := by omega
      subst hk3
      have hwl := (List.getElem?_eq_some_iff.1 hx').1
      have hdl : (L'.drop (w + 1)).length ≤ pot (L'.drop (w + 1)) := pot_len _ fun z hz => hL z (List.mem_of_mem_drop hz)
      unfold b9j3
      refine ⟨121 - (w + 1), by omega, w + 1, G', L', w64s (by omega), by omega, rfl, lG', hO, hL, by omega⟩
  · unfold b9j2
    exact hR _ (le_trans' lG hO.le)
theorem law9_b9 (hT : Tab F) {sl : Sl} {zs : List Int} (h1 : RdS F sl 1 (zs.map (Value.int .u8))) (hz1 : ∀ z ∈ zs, 0 ≤ z ∧ z ≤ 255) (hn1 : zs.length ≤ 9000000000000000) : b9 sl (fun r F' => r = .bool true ∧ F.le F') F := by
  unfold b9
  refine (sanity_spec hT).mono ?_
  rintro _ F1 ⟨rfl, l1⟩
  refine ⟨true, rfl, ?_⟩
  refine (made_spec (by decide) (h1.le l1) hz1 hn1).mono ?_
  rintro _ F2 ⟨hm, l2⟩
  obtain ⟨s, t, rfl, _, _, hr, hc⟩ := hm.rd
  replace l2 := le_trans' l1 l2
  refine ⟨s, rfl, ?_⟩
  refine (shortest_spec (hT.le l2) hr).mono ?_
  rintro _ F3 ⟨hR, l3⟩
  obtain ⟨u, e, rfl, hu⟩ := hR.val hc hc
  replace hr := hr.le l3
  replace l3 := le_trans' l2 l3
  have j1 : ∀ {F4 : PH}, F3.le F4 → b9j1 true s u e (fun r F' => r = .bool true ∧ F.le F') F4 := fun l4 => law9_j1 (fun F' h => ⟨rfl, le_trans' l3 h⟩) l4 (hT.le l3) hr hu
  refine ⟨u, e, rfl, fun he => ⟨fun h3 => ?_, fun h3 => ⟨fun h => absurd h he, fun _ => j1 (le_refl' F3)⟩⟩, fun he => ⟨fun _ => ?_, fun h => absurd h (by omega)⟩⟩
  · rcases hu with ⟨_, _, h⟩ | ⟨_, h, _⟩
    · exact absurd h h3
    · exact absurd h he
  · rcases hu with ⟨_, _, h⟩ | ⟨hL, h, hsz⟩
    · omega
    · refine ⟨fun h0 => ?_, fun _ => ?_⟩
      · rw [beq_bs] at h0
        exact absurd (of_decide_eq_true h0) hL.is.1
      · refine (matches_spec (hT.le l3) hr u (by omega)).mono ?_
        rintro _ F4 ⟨⟨q, rfl, hq⟩, l4⟩
        obtain rfl : q = true := hq.2 ⟨hc, hL.is.2.1⟩
        exact ⟨true, rfl, fun h => (by cases h), fun _ => j1 l4⟩
theorem law9_spec (hT : Tab F) {sl : Sl} {zs : List Int} (h1 : RdS F sl 1 (zs.map (Value.int .u8))) (hz1 : ∀ z ∈ zs, 0 ≤ z ∧ z ≤ 255) (hn1 : zs.length ≤ 9000000000000000) : Spec prog 9 #[sl.v] F fun r F' => r = .bool true ∧ F.le F' := c9 (law9_b9 hT h1 hz1 hn1)
end
end Go.Proofs.YtnjcgpihfmklfaaDoor
