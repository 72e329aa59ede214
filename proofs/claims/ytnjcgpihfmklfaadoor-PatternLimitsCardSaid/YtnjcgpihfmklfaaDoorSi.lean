/-
  PatternSyntaxMatchesReference and PatternLimits.
-/
import Derived.Test.YtnjcgpihfmklfaaDoorSh
import Derived.Test.YtnjcgpihfmklfaaDoorQj
import Derived.Test.YtnjcgpihfmklfaaDoorGm
import Derived.Test.YtnjcgpihfmklfaaDoorGL4
import Derived.Test.YtnjcgpihfmklfaaDoorGL5
namespace Go.Proofs.YtnjcgpihfmklfaaDoor
open Go Go.Proofs.Tryd
set_option maxRecDepth 10000

section
variable {F : PH}
theorem parseR_len (st : ByteArray) : (parseR st).1.length ≤ 512 := by
  unfold parseR
  repeat' split
  all_goals simp
  rename_i h
  rw [Pat.nodes_length]
  omega
theorem same_spec {s1 s2 : Sl} {l1 l2 : List Nd} (hb : l1.length ≤ 1000000) (h1 : RdS F s1 5 (nflat l1)) (h2 : RdS F s2 5 (nflat l2)) : Spec prog 27 #[s1.v, s2.v] F fun r F' => r = .bool (decide (l1 = l2)) ∧ F' = F := by
  have n1 := h1.nlen
  have n2 := h2.nlen
  refine c27 ?_
  unfold b27
  refine ⟨fun hne => ⟨?_, rfl⟩, fun he => ?_⟩
  · have : ¬ l1 = l2 := fun e => hne (by rw [n1, n2, e])
    rw [decide_eq_false this]
  · have hl : l1.length = l2.length := by omega
    refine ⟨fun m i F' => ∃ w : Nat, i = w ∧ w ≤ l1.length ∧ m = l1.length - w ∧ F' = F ∧ l1.take w = l2.take w, l1.length, ⟨0, rfl, by omega, by omega, rfl, rfl⟩, ?_⟩
    rintro _ _ _ ⟨w, rfl, hw, rfl, rfl, ht⟩
    unfold b27L1
    refine ⟨fun hlt => ?_, fun hge => ?_⟩
    · have hw' : w < l1.length := by omega
      have hx : l1[w]? = some l1[w] := List.getElem?_eq_getElem hw'
      have hy : l2[w]? = some l2[w] := List.getElem?_eq_getElem (by omega)
      generalize l1[w] = x at hx
      generalize l2[w] = y at hy
      obtain ⟨a, ha, hra⟩ := rdn h1 hx
      obtain ⟨b, hb, hrb⟩ := rdn h2 hy
      refine ⟨a, ha, by omega, by omega, x.arr, rfl, by rw [Int.toNat_natCast]; exact hra, b, hb, by omega, by omega, y.arr, rfl, by rw [Int.toNat_natCast]; exact hrb, decide (x = y), fun F => eqNd x y, fun hn => ⟨?_, rfl⟩, fun hn => ?_⟩
      · have : ¬ l1 = l2 := fun e => by
          rw [e, hy] at hx
          cases hx
          simp at hn
        rw [decide_eq_false this]
      · have hxy : x = y := by simpa using hn
        refine ⟨l1.length - (w + 1), by omega, w + 1, w64s (by omega), by omega, rfl, rfl, ?_⟩
        rw [List.take_add_one, List.take_add_one, hx, hy, ht, hxy]
    · have hw' : w = l1.length := by omega
      unfold b27j1
      have : l1 = l2 := by
        rw [hw', List.take_length, hl, List.take_length] at ht
        exact ht
      rw [decide_eq_true this]
      exact ⟨rfl, rfl⟩
theorem repeated_spec {s : ByteArray} {n : Int} (h0 : 0 ≤ n) (hn : n ≤ 10000) (hs : 0 < s.size) (hs2 : s.size ≤ 2) : Spec prog 28 #[.string s, vi n] F fun r F' => (∃ x, r = .string x ∧ x.size ≤ 20000) ∧ F' = F := by
  obtain ⟨k, rfl⟩ := Int.eq_ofNat_of_zero_le h0
  have hm : k * s.size ≤ 20000 := by
    have := Nat.mul_le_mul (show k ≤ 10000 by omega) hs2
    omega
  have e : IntKind.i64.wrap ((k : Int) * (s.size : Int)) = ((k * s.size : Nat) : Int) := by
    rw [show (k : Int) * (s.size : Int) = ((k * s.size : Nat) : Int) by simp, w64_eq (by omega) (by omega)]
  refine c28 ?_
  unfold b28
  refine ⟨fun m out F' => m = k * s.size - out.size ∧ out.size ≤ 40002 ∧ F' = F, k * s.size, ⟨rfl, Nat.zero_le _, rfl⟩, ?_⟩
  rintro _ out _ ⟨rfl, hb, rfl⟩
  unfold b28L1
  rw [e]
  refine ⟨fun hlt => ⟨by omega, by rw [ByteArray.size_append]; omega, k * s.size - (out.size + out.size + s.size), by omega, by rw [ByteArray.size_append, ByteArray.size_append], by rw [ByteArray.size_append, ByteArray.size_append]; omega, rfl⟩, fun hge => ?_⟩
  unfold b28j1
  rw [e]
  refine ⟨by omega, by omega, by omega, ⟨_, rfl, ?_⟩, rfl⟩
  rw [← bs_length, bs_extract, List.length_take]
  omega
theorem law4_spec (hT : Tab F) (st : ByteArray) : Spec prog 4 #[.string st] F fun r F' => r = .bool true ∧ F.le F' := by
  refine c4 ?_
  unfold b4
  refine (sanity_spec hT).mono ?_
  rintro _ F1 ⟨rfl, l1⟩
  refine ⟨true, rfl, fun _ => ⟨rfl, l1⟩, fun _ => ?_⟩
  refine (parse_spec F1 st).mono ?_
  rintro _ F2 ⟨⟨_, rfl, s1, rfl, r1⟩, l2⟩
  refine ⟨s1, _, rfl, ?_⟩
  refine (parse_ref F2 st).mono ?_
  rintro _ F3 ⟨⟨_, rfl, s2, rfl, r2⟩, l3⟩
  refine ⟨s2, _, rfl, ?_⟩
  refine (same_spec (Nat.le_trans (parseR_len st) (by decide)) (r1.le l3) r2).mono ?_
  rintro _ F4 ⟨rfl, rfl⟩
  rw [decide_eq_true rfl]
  exact ⟨true, rfl, fun _ => ⟨fun _ => ⟨rfl, le_trans' l1 (le_trans' l2 l3)⟩, fun h => absurd rfl h⟩, fun h => (by cases h)⟩
theorem law5_j2 {F0 : PH} (l0 : F0.le F) (st : ByteArray) : b5j2 true st (fun r F' => r = .bool true ∧ F0.le F') F := by
  unfold b5j2
  refine (parse_spec F st).mono ?_
  rintro _ F2 ⟨⟨_, rfl, s1, rfl, r1⟩, l2⟩
  refine ⟨s1, _, rfl, ?_⟩
  refine (parse_ref F2 st).mono ?_
  rintro _ F3 ⟨⟨_, rfl, s2, rfl, r2⟩, l3⟩
  refine ⟨s2, _, rfl, ?_⟩
  refine (same_spec (Nat.le_trans (parseR_len st) (by decide)) (r1.le l3) r2).mono ?_
  rintro _ F4 ⟨rfl, rfl⟩
  rw [decide_eq_true rfl]
  exact ⟨true, rfl, fun _ => ⟨fun _ => ⟨rfl, le_trans' l0 (le_trans' l2 l3)⟩, fun h => absurd rfl h⟩, fun h => (by cases h)⟩
theorem tm12 (k : Int) : 0 ≤ Int.tmod (IntKind.i64.wrap (Int.tmod k 12 + 12)) 12 ∧ Int.tmod (IntKind.i64.wrap (Int.tmod k 12 + 12)) 12 ≤ 11 := by
  have h1 : -12 < Int.tmod k 12 := Int.lt_tmod_of_pos k (by decide)
  have h2 : Int.tmod k 12 < 12 := Int.tmod_lt_of_pos k (by decide)
  rw [w64_eq (by omega) (by omega)]
  have h3 : 0 ≤ Int.tmod (Int.tmod k 12 + 12) 12 := Int.tmod_nonneg 12 (by omega)
  have h4 : Int.tmod (Int.tmod k 12 + 12) 12 < 12 := Int.tmod_lt_of_pos _ (by decide)
  omega
theorem law5_j1 {F0 : PH} (l0 : F0.le F) (st : ByteArray) (k kind : Int) : b5j1 kind true k st (fun r F' => r = .bool true ∧ F0.le F') F := by
  unfold b5j1
  have hc := tm12 k
  generalize Int.tmod (IntKind.i64.wrap (Int.tmod k 12 + 12)) 12 = c at *
  have hd : 0 ≤ Int.tdiv c 2 ∧ Int.tdiv c 2 ≤ 5 := by
    rw [Int.tdiv_eq_ediv_of_nonneg hc.1]
    omega
  have hm : 0 ≤ Int.tmod c 2 ∧ Int.tmod c 2 < 2 := ⟨Int.tmod_nonneg 2 hc.1, Int.tmod_lt_of_pos _ (by decide)⟩
  generalize Int.tmod c 2 = m at *
  generalize Int.tdiv c 2 = d at *
  rw [w64_eq (x := d) (by omega) (by omega), w64_eq (x := 4090 + d) (by omega) (by omega), w64_eq (x := 1 + m) (by omega) (by omega)]
  refine ⟨fun _ => ?_, fun _ => law5_j2 l0 st⟩
  refine (repeated_spec (s := ByteArray.mk #[40]) (by omega) (by omega) (by decide) (by decide)).mono ?_
  rintro _ _ ⟨⟨x, rfl, hx⟩, rfl⟩
  refine ⟨x, rfl, ?_⟩
  refine (repeated_spec (s := ByteArray.mk #[97]) (by omega) (by omega) (by decide) (by decide)).mono ?_
  rintro _ _ ⟨⟨y, rfl, hy⟩, rfl⟩
  refine ⟨y, rfl, by omega, ?_⟩
  refine (repeated_spec (s := ByteArray.mk #[41]) (by omega) (by omega) (by decide) (by decide)).mono ?_
  rintro _ _ ⟨⟨z, rfl, hz⟩, rfl⟩
  exact ⟨z, rfl, by rw [ByteArray.size_append]; omega, law5_j2 l0 _⟩
theorem law5_b5 (hT : Tab F) (k kind : Int) : b5 k kind (fun r F' => r = .bool true ∧ F.le F') F := by
  unfold b5
  refine (sanity_spec hT).mono ?_
  rintro _ F1 ⟨rfl, l1⟩
  refine ⟨true, rfl, ?_⟩
  have hc := tm12 k
  have j1 : ∀ x, b5j1 kind true k x (fun r F' => r = .bool true ∧ F.le F') F1 := fun x => law5_j1 l1 x k kind
  generalize Int.tmod (IntKind.i64.wrap (Int.tmod k 12 + 12)) 12 = c at *
  rw [w64_eq (x := 250 + c) (by omega) (by omega)]
  refine (repeated_spec (s := ByteArray.mk #[97]) (by omega) (by omega) (by decide) (by decide)).mono ?_
  rintro _ _ ⟨⟨x, rfl, hx⟩, rfl⟩
  refine ⟨x, rfl, fun _ => ?_, fun _ => j1 x⟩
  refine (repeated_spec (s := ByteArray.mk #[40, 41]) (by omega) (by omega) (by decide) (by decide)).mono ?_
  rintro _ _ ⟨⟨y, rfl, hy⟩, rfl⟩
  exact ⟨y, rfl, j1 y⟩
theorem law5_spec (hT : Tab F) (k kind : Int) : Spec prog 5 #[vi k, .int .u8 kind] F fun r F' => r = .bool true ∧ F.le F' := c5 (law5_b5 hT k kind)
end
end Go.Proofs.YtnjcgpihfmklfaaDoor
