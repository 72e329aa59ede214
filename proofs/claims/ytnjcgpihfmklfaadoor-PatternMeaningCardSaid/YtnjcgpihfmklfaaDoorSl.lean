/-
  Words; PatternLongest.
-/
import Derived.Test.YtnjcgpihfmklfaaDoorSj
import Derived.Test.YtnjcgpihfmklfaaDoorSh
import Derived.Test.YtnjcgpihfmklfaaDoorGk
import Derived.Test.YtnjcgpihfmklfaaDoorGL8
namespace Go.Proofs.YtnjcgpihfmklfaaDoor
open Go Go.Proofs.Tryd
set_option maxRecDepth 10000

section
variable {F : PH}
def wI1 (F0 : PH) (zs : List Int) (most : Nat) : Nat → Sl → Int → PH → Prop := fun m s i F' => ∃ (w : Nat) (out : List Nat), i = w ∧ w ≤ zs.length ∧ w ≤ most ∧ m = zs.length - w ∧ Ow F0 F' s (u8l out) ∧ out.length = w ∧ ∀ b ∈ out, 97 ≤ b ∧ b ≤ 99
theorem word_spec {sl : Sl} {zs : List Int} {most : Nat} (hm : most ≤ 1000) (hl : RdS F sl 1 (zs.map (Value.int .u8))) (hz : ∀ z ∈ zs, 0 ≤ z ∧ z ≤ 255) (hlen : zs.length ≤ 9000000000000000) :
    Spec prog 33 #[sl.v, vi most] F fun r F' => (∃ st : ByteArray, r = .string st ∧ st.size ≤ most ∧ ∀ b ∈ bs st, 97 ≤ b ∧ b ≤ 99) ∧ F.le F' := by
  have hsl : sl.len = zs.length := by have := hl.len; rw [List.length_map] at this; omega
  refine c33 ?_
  unfold b33
  intro b hb
  refine atI ?_
  have l1 := le_set_fresh (.cells #[] 5) hb
  have q1 := set_eq F b (.cells #[] 5)
  generalize F.set b (.cells #[] 5) = F1 at *
  refine ⟨wI1 F zs most, zs.length, ⟨0, [], rfl, by omega, by omega, by omega, ⟨l1, .inr ⟨b, #[], rfl, q1, rfl, Nat.le_refl _, rfl, rfl⟩, fun a ha => by cases ha; exact hb⟩, rfl, fun b hb => (by cases hb)⟩, ?_⟩
  rintro _ s _ F2 ⟨w, out, rfl, hw, hwm, rfl, hO, hol, hob⟩
  have hsn : s.len = out.length := by have := hO.own.rd.len; rw [u8l_length] at this; omega
  have fin : b33j1 s (fun r F' => (∃ st : ByteArray, r = .string st ∧ st.size ≤ most ∧ ∀ b ∈ bs st, 97 ≤ b ∧ b ≤ 99) ∧ F.le F') F2 := by
    unfold b33j1
    have hbs : bs (mkS out) = out := bs_mkS fun b hb => by have := hob b hb; omega
    exact ⟨mkS out, bts_rdo hO.own.rd, ⟨mkS out, rfl, by rw [← bs_length, hbs]; omega, by rw [hbs]; exact hob⟩, hO.le⟩
  unfold b33L1
  refine ⟨fun hlt => ⟨fun h2 => ?_, fun h2 => fin⟩, fun hge => fin⟩
  have hw' : w < zs.length := by omega
  obtain ⟨a, o, ha, hc⟩ := hl.cells (by omega)
  have hzw := hz zs[w] (List.getElem_mem _)
  obtain ⟨v, hv⟩ := Int.eq_ofNat_of_zero_le hzw.1
  have hcw := hc w (by simpa using hw')
  rw [List.getElem_map, hv] at hcw
  refine ⟨_, ha, by omega, by omega, (v : Int), le_cell hO.le (by rw [Int.toNat_natCast, Nat.mul_one, add_off]; exact hcw), ?_⟩
  have e1 : Int.tmod ((v : Nat) : Int) 3 = ((v % 3 : Nat) : Int) := rfl
  have e2 : (97 : Int) + ((v % 3 : Nat) : Int) = ((97 + v % 3 : Nat) : Int) := by omega
  rw [e1, e2, wu8_eq (by omega) (by omega)]
  refine hO.push (97 + v % 3) (by omega) fun s' F3 h3 => ?_
  have e3 : u8l out ++ [.int .u8 ((97 + v % 3 : Nat) : Int)] = u8l (out ++ [97 + v % 3]) := by simp [u8l]
  rw [e3] at h3
  refine ⟨zs.length - (w + 1), by omega, w + 1, out ++ [97 + v % 3], w64s (by omega), by omega, by omega, rfl, h3, by rw [List.length_append, List.length_singleton]; omega, fun b hb => ?_⟩
  rcases List.mem_append.1 hb with hb | hb
  · exact hob b hb
  · rw [List.mem_singleton] at hb
    omega
/-- Matches of a part of a string. -/
theorem part_lg {l : List Nd} {st : ByteArray} {a m : Nat} : LgL l (bs (st.extract a (a + m))) ↔ LgL l (((bs st).drop a).take m) := by
  rw [bs_extract, Nat.add_sub_cancel_left]
theorem law8_j2 {F0 : PH} (hT : Tab F) (l0 : F0.le F) {s : Sl} {l : List Nd} (hr : RdS F s 5 (nflat l)) (hc : chkP l = 0) {st : ByteArray} (hst : st.size ≤ 1000) {at_ : Int} {a b : Nat} (ha : a ≤ st.size) (hat : Int.tmod (IntKind.i64.wrap at_) (IntKind.i64.wrap ((st.size : Int) + 1)) = (a : Int))
    (hB : Best (fun n => LgL l (((bs st).drop a).take n)) (st.size - a) b) : b8j2 true s st at_ (b : Int) (fun r F' => r = .bool true ∧ F0.le F') F := by
  unfold b8j2
  rw [hat]
  have hsz : (st ++ ByteArray.mk #[97]).size = st.size + 1 := by rw [ByteArray.size_append]; rfl
  refine ⟨by show st.size + 1 ≤ _; omega, ?_⟩
  refine (longest_spec hT hr (st ++ ByteArray.mk #[97]) (by omega) (a : Int)).mono ?_
  rintro _ F1 ⟨h, l1⟩
  rcases h with ⟨h, _⟩ | ⟨_, _, _, c, hc', rfl⟩
  · exact absurd ⟨hc, by omega, by omega⟩ h
  · refine ⟨(c : Int), _, rfl, fun _ => ⟨rfl, le_trans' l0 l1⟩, fun hlt => ?_⟩
    exfalso
    have hbc : c < b := by omega
    have hbl := hB.le
    have := hc'.no b hbc (by rw [Int.toNat_natCast]; omega)
    refine this ?_
    rcases hB.is with e | e
    · omega
    · rw [Int.toNat_natCast, bs_append, List.drop_append_of_le_length (by rw [bs_length]; exact ha), List.take_append_of_le_length (by rw [List.length_drop, bs_length]; exact hbl)]
      exact e
theorem law8_j1 {F0 : PH} (hT : Tab F) (l0 : F0.le F) {s : Sl} {l : List Nd} (hr : RdS F s 5 (nflat l)) (hc : chkP l = 0) {st : ByteArray} (hst : st.size ≤ 1000) {at_ : Int} {a b : Nat} (ha : a ≤ st.size) (hat : Int.tmod (IntKind.i64.wrap at_) (IntKind.i64.wrap ((st.size : Int) + 1)) = (a : Int))
    (hB : Best (fun n => LgL l (((bs st).drop a).take n)) (st.size - a) b) : b8j1 true s st at_ (b : Int) (fun r F' => r = .bool true ∧ F0.le F') F := by
  have hbl := hB.le
  unfold b8j1
  refine ⟨fun m i F' => ∃ w : Nat, i = w ∧ b < w ∧ w ≤ st.size + 1 ∧ m = st.size + 1 - w ∧ F.le F', st.size + 1 - (b + 1), ⟨b + 1, w64s (by omega), by omega, by omega, rfl, le_refl' F⟩, ?_⟩
  rintro _ _ F1 ⟨w, rfl, hbw, hw, rfl, l1⟩
  unfold b8L1
  rw [hat, w64_eq (x := (a : Int) + (w : Int)) (by omega) (by omega)]
  refine ⟨fun hle => ?_, fun hge => law8_j2 (hT.le l1) (le_trans' l0 l1) (hr.le l1) hc hst ha hat hB⟩
  have e1 : Int.toNat ((a : Int) + (w : Int)) = a + w := by omega
  rw [e1, Int.toNat_natCast]
  refine ⟨by omega, by omega, by omega, by omega, ?_⟩
  refine (matches_spec (hT.le l1) (hr.le l1) (st.extract a (a + w)) (by rw [← bs_length, bs_extract, List.length_take, List.length_drop, bs_length]; omega)).mono ?_
  rintro _ F2 ⟨⟨q, rfl, hq⟩, l2⟩
  have hq0 : q = false := by
    rw [← Bool.not_eq_true, hq]
    rintro ⟨_, h⟩
    exact hB.no w hbw (by omega) (part_lg.1 h)
  subst hq0
  exact ⟨false, rfl, fun h => (by cases h), fun _ => ⟨st.size + 1 - (w + 1), by omega, w + 1, w64s (by omega), by omega, by omega, rfl, le_trans' l1 l2⟩⟩
theorem law8_b8 (hT : Tab F) {sl1 sl2 : Sl} {zs1 zs2 : List Int} (h1 : RdS F sl1 1 (zs1.map (Value.int .u8))) (hz1 : ∀ z ∈ zs1, 0 ≤ z ∧ z ≤ 255) (hn1 : zs1.length ≤ 9000000000000000) (h2 : RdS F sl2 1 (zs2.map (Value.int .u8))) (hz2 : ∀ z ∈ zs2, 0 ≤ z ∧ z ≤ 255) (hn2 : zs2.length ≤ 9000000000000000)
    {at_ : Int} (ha : 0 ≤ at_ ∧ at_ ≤ 255) : b8 sl1 sl2 at_ (fun r F' => r = .bool true ∧ F.le F') F := by
  unfold b8
  refine (sanity_spec hT).mono ?_
  rintro _ F1 ⟨rfl, l1⟩
  refine ⟨true, rfl, ?_⟩
  refine (made_spec (by decide) (h1.le l1) hz1 hn1).mono ?_
  rintro _ F2 ⟨hm, l2⟩
  obtain ⟨s, t, rfl, b1, z1, r1, c1⟩ := hm.rd
  replace l2 := le_trans' l1 l2
  refine ⟨s, rfl, ?_⟩
  refine (word_spec (most := 16) (by decide) (h2.le l2) hz2 hn2).mono ?_
  rintro _ F3 ⟨⟨st, rfl, hst, _⟩, l3⟩
  replace r1 := r1.le l3
  replace l3 := le_trans' l2 l3
  refine ⟨st, rfl, ?_⟩
  obtain ⟨v, rfl⟩ := Int.eq_ofNat_of_zero_le ha.1
  have e1 : IntKind.i64.wrap ((st.size : Int) + 1) = ((st.size + 1 : Nat) : Int) := by rw [w64_eq (by omega) (by omega)]; omega
  have e0 : IntKind.i64.wrap ((v : Nat) : Int) = v := w64_eq (by omega) (by omega)
  have hat : Int.tmod (IntKind.i64.wrap ((v : Nat) : Int)) (IntKind.i64.wrap ((st.size : Int) + 1)) = ((v % (st.size + 1) : Nat) : Int) := by rw [e0, e1]; rfl
  have hal : v % (st.size + 1) ≤ st.size := by have := Nat.mod_lt v (show 0 < st.size + 1 by omega); omega
  refine ⟨by rw [e1]; omega, ?_⟩
  have j1 := fun {b : Nat} (F' : PH) (l' : F3.le F') => law8_j1 (F := F') (F0 := F) (b := b) (hT.le (le_trans' l3 l')) (le_trans' l3 l') (r1.le l') c1 (show st.size ≤ 1000 by omega) hal hat
  rw [hat]
  generalize v % (st.size + 1) = a at *
  refine (longest_spec (hT.le l3) r1 st (by omega) (a : Int)).mono ?_
  rintro _ F4 ⟨h, l4⟩
  rcases h with ⟨h, _⟩ | ⟨_, _, _, b, hB, rfl⟩
  · exact absurd ⟨c1, by omega, by omega⟩ h
  rw [Int.toNat_natCast] at hB
  have hbl := hB.le
  refine ⟨(b : Int), decide (0 < b), rfl, fun h => absurd h (by omega), fun _ => ?_⟩
  rw [w64_eq (x := (a : Int) + (b : Int)) (by omega) (by omega)]
  refine ⟨fun h => absurd h (by omega), fun _ => ?_⟩
  have ed : (decide (0 < b) == decide ((0 : Int) < (b : Int))) = true := by
    rw [beq_iff_eq, Bool.eq_iff_iff]
    simp
  rw [ed]
  refine ⟨fun h => (by cases h), fun _ => ⟨fun hb => ?_, fun hb => j1 F4 l4 hB⟩⟩
  have e2 : Int.toNat ((a : Int) + (b : Int)) = a + b := by omega
  rw [e2, Int.toNat_natCast]
  refine ⟨by omega, by omega, by omega, by omega, ?_⟩
  refine (matches_spec (hT.le (le_trans' l3 l4)) (r1.le l4) (st.extract a (a + b)) (by rw [← bs_length, bs_extract, List.length_take, List.length_drop, bs_length]; omega)).mono ?_
  rintro _ F5 ⟨⟨q, rfl, hq⟩, l5⟩
  have hb0 : 0 < b := of_decide_eq_true hb
  obtain rfl : q = true := hq.2 ⟨c1, part_lg.2 (by
    rcases hB.is with e | e
    · omega
    · exact e)⟩
  exact ⟨true, rfl, fun h => (by cases h), fun _ => j1 F5 (le_trans' l4 l5) hB⟩
theorem law8_spec (hT : Tab F) {sl1 sl2 : Sl} {zs1 zs2 : List Int} (h1 : RdS F sl1 1 (zs1.map (Value.int .u8))) (hz1 : ∀ z ∈ zs1, 0 ≤ z ∧ z ≤ 255) (hn1 : zs1.length ≤ 9000000000000000) (h2 : RdS F sl2 1 (zs2.map (Value.int .u8))) (hz2 : ∀ z ∈ zs2, 0 ≤ z ∧ z ≤ 255) (hn2 : zs2.length ≤ 9000000000000000)
    {at_ : Int} (ha : 0 ≤ at_ ∧ at_ ≤ 255) : Spec prog 8 #[sl1.v, sl2.v, .int .u8 at_] F fun r F' => r = .bool true ∧ F.le F' := c8 (law8_b8 hT h1 hz1 hn1 h2 hz2 hn2 ha)
end
end Go.Proofs.YtnjcgpihfmklfaaDoor
