/-
  PatternMeaning.
-/
import Derived.Test.YtnjcgpihfmklfaaDoorSl
import Derived.Test.YtnjcgpihfmklfaaDoorSn
import Derived.Test.YtnjcgpihfmklfaaDoorGL7
namespace Go.Proofs.YtnjcgpihfmklfaaDoor
open Go Go.Proofs.Tryd
set_option maxRecDepth 10000

theorem seq_any {x y : Pat} {w : List Nat} : mtc (.seq x y) w = (List.range (w.length + 1)).any fun j => mtc x (w.take j) && mtc y (w.drop j) := by
  rw [Bool.eq_iff_iff, mtc_iff, List.any_eq_true]
  constructor
  · rintro ⟨u, v, rfl, h1, h2⟩
    refine ⟨u.length, List.mem_range.2 (by rw [List.length_append]; omega), ?_⟩
    rw [List.take_left' rfl, List.drop_left' rfl, Bool.and_eq_true, mtc_iff, mtc_iff]
    exact ⟨h1, h2⟩
  · rintro ⟨j, _, h⟩
    rw [Bool.and_eq_true, mtc_iff, mtc_iff] at h
    exact ⟨w.take j, w.drop j, (List.take_append_drop j w).symm, h.1, h.2⟩
theorem rep_any {x : Pat} {w : List Nat} : mtc (.rep x) w = (decide (w = []) || (List.range (w.length + 1)).any fun j => decide (0 < j) && (mtc x (w.take j) && mtc (.rep x) (w.drop j))) := by
  rw [Bool.eq_iff_iff, mtc_iff, Bool.or_eq_true, decide_eq_true_eq, List.any_eq_true]
  constructor
  · intro h
    rcases Star.ne h with e | ⟨u, v, hu, rfl, h1, h2⟩
    · exact .inl e
    · refine .inr ⟨u.length, List.mem_range.2 (by rw [List.length_append]; omega), ?_⟩
      rw [List.take_left' rfl, List.drop_left' rfl, Bool.and_eq_true, Bool.and_eq_true, mtc_iff, mtc_iff, decide_eq_true_eq]
      exact ⟨List.length_pos_iff.2 hu, h1, h2⟩
  · rintro (rfl | ⟨j, _, h⟩)
    · exact Star.nil
    · rw [Bool.and_eq_true, Bool.and_eq_true, mtc_iff, mtc_iff] at h
      have := Star.cons h.2.1 h.2.2
      rwa [List.take_append_drop] at this
section
variable {F : PH}
theorem mt_spec (hT : Tab F) {s : Sl} {t : Pat} (hr : RdS F s 5 (nflat (t.nodes 0))) (hb : t.byt) (hs : t.size ≤ 512) (x : ByteArray) (hx : x.size ≤ 1000000000) : Spec prog 23 #[s.v, .string x] F fun r F' => r = .bool (mtc t (bs x)) ∧ F.le F' := by
  refine (matches_spec hT hr x hx).mono ?_
  rintro _ F' ⟨⟨q, rfl, hq⟩, l⟩
  refine ⟨?_, l⟩
  congr 1
  rw [Bool.eq_iff_iff, hq, LgL_nodes hb, mtc_iff]
  exact ⟨fun h => h.2, fun h => ⟨nodes_chk hb hs, h⟩⟩
def spB (t1 t2 : Pat) (w : List Nat) (k : Nat) : Bool := (List.range k).any fun j => mtc t1 (w.take j) && mtc t2 (w.drop j)
def moB (t1 : Pat) (w : List Nat) (k : Nat) : Bool := decide (w = []) || (List.range k).any fun j => decide (0 < j) && (mtc t1 (w.take j) && mtc (.rep t1) (w.drop j))
theorem spB_succ (t1 t2 : Pat) (w : List Nat) (k : Nat) : spB t1 t2 w (k + 1) = (spB t1 t2 w k || (mtc t1 (w.take k) && mtc t2 (w.drop k))) := by
  unfold spB
  rw [List.range_succ, List.any_append]
  simp
theorem moB_succ (t1 : Pat) (w : List Nat) (k : Nat) : moB t1 w (k + 1) = (moB t1 w k || (decide (0 < k) && (mtc t1 (w.take k) && mtc (.rep t1) (w.drop k)))) := by
  unfold moB
  rw [List.range_succ, List.any_append, ← Bool.or_assoc]
  simp
theorem ext_take (st : ByteArray) (k : Nat) : bs (st.extract 0 k) = (bs st).take k := by rw [bs_extract, List.drop_zero, Nat.sub_zero]
theorem ext_drop (st : ByteArray) (k : Nat) : bs (st.extract k st.size) = (bs st).drop k := by
  rw [bs_extract]
  exact List.take_of_length_le (by rw [List.length_drop, bs_length]; exact Nat.le_refl _)
theorem ext_size (st : ByteArray) (a b : Nat) : (st.extract a b).size ≤ st.size := by
  rw [← bs_length, bs_extract, List.length_take, List.length_drop, bs_length]
  omega
/-- What the law works on. -/
structure C7 (F : PH) (s1 s2 s3 s4 s5 : Sl) (t1 t2 : Pat) : Prop where
  tab : Tab F
  b1 : t1.byt
  b2 : t2.byt
  z1 : t1.size ≤ 40
  z2 : t2.size ≤ 40
  r1 : RdS F s1 5 (nflat (t1.nodes 0))
  r2 : RdS F s2 5 (nflat (t2.nodes 0))
  r3 : RdS F s3 5 (nflat ((Pat.seq t1 t2).nodes 0))
  r4 : RdS F s4 5 (nflat ((Pat.alt t1 t2).nodes 0))
  r5 : RdS F s5 5 (nflat ((Pat.rep t1).nodes 0))
theorem C7.le {F G : PH} {s1 s2 s3 s4 s5 : Sl} {t1 t2 : Pat} (h : C7 F s1 s2 s3 s4 s5 t1 t2) (l : F.le G) : C7 G s1 s2 s3 s4 s5 t1 t2 :=
  ⟨h.tab.le l, h.b1, h.b2, h.z1, h.z2, h.r1.le l, h.r2.le l, h.r3.le l, h.r4.le l, h.r5.le l⟩
def mI1 (F0 : PH) (t1 t2 : Pat) (st : ByteArray) : Nat → Bool → Bool → Int → PH → Prop := fun m sp mo k F' =>
  ∃ w : Nat, k = w ∧ w ≤ st.size + 1 ∧ m = st.size + 1 - w ∧ F0.le F' ∧ sp = spB t1 t2 (bs st) w ∧ mo = moB t1 (bs st) w
theorem law7_L1 {F0 : PH} {s1 s2 s3 s4 s5 : Sl} {t1 t2 : Pat} (hC : C7 F0 s1 s2 s3 s4 s5 t1 t2) {st : ByteArray} (hst : st.size ≤ 1000) {m : Nat} {sp mo : Bool} {k : Int} {R : Value → PH → Prop} (hR : ∀ F', F0.le F' → R (.bool true) F') (hI : mI1 F0 t1 t2 st m sp mo k F) :
    b7L1 (fun y0 y1 y2 F' => ∃ m', m' < m ∧ mI1 F0 t1 t2 st m' y0 y1 y2 F') true s1 s2 st s3 s4 s5 R sp mo k F := by
  obtain ⟨w, rfl, hw, rfl, l0, rfl, rfl⟩ := hI
  have hlb : (bs st).length = st.size := bs_length st
  unfold b7L1
  refine ⟨fun hle => ?_, fun hgt => ?_⟩
  · have hw' : w ≤ st.size := by omega
    have ew : Int.toNat (w : Int) = w := Int.toNat_natCast w
    have j3 : ∀ {F' : PH} (a b : Bool), F0.le F' → a = spB t1 t2 (bs st) (w + 1) → b = moB t1 (bs st) (w + 1) → b7j3 (fun y0 y1 y2 F' => ∃ m', m' < st.size + 1 - w ∧ mI1 F0 t1 t2 st m' y0 y1 y2 F') true s1 s2 st s3 s4 s5 (w : Int) a b R F' := fun a b lF ha hb => by
      unfold b7j3
      exact ⟨st.size + 1 - (w + 1), by omega, w + 1, w64s (by omega), by omega, rfl, lF, ha, hb⟩
    have j4 : ∀ {F' : PH} (a : Bool), F0.le F' → a = spB t1 t2 (bs st) (w + 1) → b7j4 (fun y0 y1 y2 F' => ∃ m', m' < st.size + 1 - w ∧ mI1 F0 t1 t2 st m' y0 y1 y2 F') true s1 s2 st s3 s4 s5 (moB t1 (bs st) w) (w : Int) a R F' := fun {F'} a lF ha => by
      unfold b7j4
      refine ⟨fun hm => j3 _ _ lF ha (by rw [moB_succ, hm]; rfl), fun hm => ⟨fun h0 => ?_, fun h0 => j3 _ _ lF ha ?_⟩⟩
      · have hd : decide (0 < w) = true := by simp; omega
        rw [ew]
        refine ⟨by omega, by omega, by omega, ?_⟩
        refine (mt_spec (hC.le lF).tab (hC.le lF).r1 hC.b1 (by have := hC.z1; omega) _ (by have := ext_size st 0 w; omega)).mono ?_
        rintro _ F1 ⟨rfl, l1⟩
        rw [ext_take]
        refine ⟨_, rfl, fun h1 => ⟨by omega, by omega, Nat.le_refl _, ?_⟩, fun h1 => j3 _ _ (le_trans' lF l1) ha (by rw [moB_succ, hm, h1]; simp)⟩
        have lF1 := le_trans' lF l1
        refine (mt_spec (hC.le lF1).tab (hC.le lF1).r5 hC.b1 (by have := hC.z1; simp only [Pat.size]; omega) _ (by have := ext_size st w st.size; omega)).mono ?_
        rintro _ F2 ⟨rfl, l2⟩
        rw [ext_drop]
        exact ⟨_, rfl, j3 _ _ (le_trans' lF1 l2) ha (by rw [moB_succ, hm, h1, hd]; simp)⟩
      · have hd : decide (0 < w) = false := by simp; omega
        rw [moB_succ, hm, hd]
        rfl
    refine ⟨fun hs => j4 true l0 (by rw [spB_succ, hs]; rfl), fun hs => ?_⟩
    rw [ew]
    refine ⟨by omega, by omega, by omega, ?_⟩
    refine (mt_spec (hC.le l0).tab (hC.le l0).r1 hC.b1 (by have := hC.z1; omega) _ (by have := ext_size st 0 w; omega)).mono ?_
    rintro _ F1 ⟨rfl, l1⟩
    rw [ext_take]
    refine ⟨_, rfl, fun h1 => ⟨by omega, by omega, Nat.le_refl _, ?_⟩, fun h1 => j4 _ (le_trans' l0 l1) (by rw [spB_succ, hs, h1]; rfl)⟩
    have lF1 := le_trans' l0 l1
    refine (mt_spec (hC.le lF1).tab (hC.le lF1).r2 hC.b2 (by have := hC.z2; omega) _ (by have := ext_size st w st.size; omega)).mono ?_
    rintro _ F2 ⟨rfl, l2⟩
    rw [ext_drop]
    exact ⟨_, rfl, j4 _ (le_trans' lF1 l2) (by rw [spB_succ, hs, h1]; rfl)⟩
  · have hw' : w = st.size + 1 := by omega
    subst hw'
    have es : spB t1 t2 (bs st) (st.size + 1) = mtc (.seq t1 t2) (bs st) := by rw [seq_any, hlb]; rfl
    have em : moB t1 (bs st) (st.size + 1) = mtc (.rep t1) (bs st) := by rw [rep_any, hlb]; rfl
    rw [es, em]
    have j2 : ∀ {F' : PH} (a : Bool), F0.le F' → a = mtc (.alt t1 t2) (bs st) → b7j2 true st s3 s4 s5 (mtc (.seq t1 t2) (bs st)) (mtc (.rep t1) (bs st)) a R F' := fun {F'} a lF ha => by
      unfold b7j2
      subst ha
      refine (mt_spec (hC.le lF).tab (hC.le lF).r3 ⟨hC.b1, hC.b2⟩ (by have := hC.z1; have := hC.z2; simp only [Pat.size]; omega) _ (by omega)).mono ?_
      rintro _ F1 ⟨rfl, l1⟩
      have lF1 := le_trans' lF l1
      refine ⟨_, rfl, fun _ => ?_, fun h => by rw [beq_self_eq_true] at h; cases h⟩
      refine (mt_spec (hC.le lF1).tab (hC.le lF1).r4 ⟨hC.b1, hC.b2⟩ (by have := hC.z1; have := hC.z2; simp only [Pat.size]; omega) _ (by omega)).mono ?_
      rintro _ F2 ⟨rfl, l2⟩
      have lF2 := le_trans' lF1 l2
      refine ⟨_, rfl, fun _ => ?_, fun h => by rw [beq_self_eq_true] at h; cases h⟩
      refine (mt_spec (hC.le lF2).tab (hC.le lF2).r5 hC.b1 (by have := hC.z1; simp only [Pat.size]; omega) _ (by omega)).mono ?_
      rintro _ F3 ⟨rfl, l3⟩
      exact ⟨_, rfl, fun _ => hR _ (le_trans' lF2 l3), fun h => by rw [beq_self_eq_true] at h; cases h⟩
    have ea : mtc (.alt t1 t2) (bs st) = (mtc t1 (bs st) || mtc t2 (bs st)) := by
      rw [Bool.eq_iff_iff, Bool.or_eq_true, mtc_iff, mtc_iff, mtc_iff]
      exact Iff.rfl
    unfold b7j1
    refine (mt_spec (hC.le l0).tab (hC.le l0).r1 hC.b1 (by have := hC.z1; omega) _ (by omega)).mono ?_
    rintro _ F1 ⟨rfl, l1⟩
    have lF1 := le_trans' l0 l1
    refine ⟨_, rfl, fun h1 => j2 _ lF1 (by rw [ea, h1]; rfl), fun h1 => ?_⟩
    refine (mt_spec (hC.le lF1).tab (hC.le lF1).r2 hC.b2 (by have := hC.z2; omega) _ (by omega)).mono ?_
    rintro _ F2 ⟨rfl, l2⟩
    exact ⟨_, rfl, j2 _ (le_trans' lF1 l2) (by rw [ea, h1]; rfl)⟩
theorem wr_str {t : Pat} {st : ByteArray} {ns : List Nat} (h : Wr 1 t ns) (hs : bs st = ns) (h512 : t.size ≤ 512) (hl : st.size ≤ 8192) : parseR st = (t.nodes 0, 0) := by
  have h := wr_parse h (st := st) (by rw [← bs_length, hs]) fun k x hk => by
    rw [bs_cb, hs, List.getD_eq_getElem?_getD, hk]
    rfl
  unfold parseR
  rw [if_neg (by omega), h]
  simp only
  rw [if_neg (by omega)]
theorem bs_mk (a : Array UInt8) : bs ⟨a⟩ = a.toList.map UInt8.toNat := rfl
theorem print_made (hT : Tab F) {s : Sl} {t : Pat} (hr : RdS F s 5 (nflat (t.nodes 0))) (hb : t.byt) (hs : t.size ≤ 512) : Spec prog 19 #[s.v] F fun r F' => (∃ d : ByteArray, r = .tuple #[.string d, vi 0] ∧ bs d = t.pr ∧ d.size ≤ 16 * t.size) ∧ F.le F' := by
  refine (print_spec hr).mono ?_
  have e2 : printR (t.nodes 0) = (t.pr, 0) := by unfold printR; rw [nodes_chk hb hs, if_neg (by decide), nodes_pat hb]
  rw [e2]
  rintro _ F3 ⟨⟨_, rfl, d, rfl, hd⟩, l3⟩
  replace hd : bs d = t.pr := hd
  refine ⟨⟨d, rfl, hd, ?_⟩, l3⟩
  have := pr_length t
  rw [← bs_length, hd]
  omega
theorem law7_b7 (hT : Tab F) {sl1 sl2 sl3 : Sl} {zs1 zs2 zs3 : List Int} (h1 : RdS F sl1 1 (zs1.map (Value.int .u8))) (hz1 : ∀ z ∈ zs1, 0 ≤ z ∧ z ≤ 255) (hn1 : zs1.length ≤ 9000000000000000) (h2 : RdS F sl2 1 (zs2.map (Value.int .u8))) (hz2 : ∀ z ∈ zs2, 0 ≤ z ∧ z ≤ 255) (hn2 : zs2.length ≤ 9000000000000000)
    (h3 : RdS F sl3 1 (zs3.map (Value.int .u8))) (hz3 : ∀ z ∈ zs3, 0 ≤ z ∧ z ≤ 255) (hn3 : zs3.length ≤ 9000000000000000) : b7 sl1 sl2 sl3 (fun r F' => r = .bool true ∧ F.le F') F := by
  unfold b7
  refine (sanity_spec hT).mono ?_
  rintro _ F1 ⟨rfl, l1⟩
  refine ⟨true, rfl, ?_⟩
  refine (made_spec (by decide) (h1.le l1) hz1 hn1).mono ?_
  rintro _ F2 ⟨hm, l2⟩
  obtain ⟨s1, t1, rfl, b1, z1, r1, _⟩ := hm.rd
  replace l2 := le_trans' l1 l2
  refine ⟨s1, rfl, ?_⟩
  refine (made_spec (by decide) (h2.le l2) hz2 hn2).mono ?_
  rintro _ F3 ⟨hm, l3⟩
  obtain ⟨s2, t2, rfl, b2, z2, r2, _⟩ := hm.rd
  replace r1 := r1.le l3
  replace l3 := le_trans' l2 l3
  refine ⟨s2, rfl, ?_⟩
  refine (word_spec (most := 8) (by decide) (h3.le l3) hz3 hn3).mono ?_
  rintro _ F4 ⟨⟨st, rfl, hst, _⟩, l4⟩
  replace r1 := r1.le l4
  replace r2 := r2.le l4
  replace l4 := le_trans' l3 l4
  refine ⟨st, rfl, ?_⟩
  refine (print_made (hT.le l4) r1 b1 (by omega)).mono ?_
  rintro _ F5 ⟨⟨d1, rfl, hd1, hl1⟩, l5⟩
  replace r1 := r1.le l5
  replace r2 := r2.le l5
  replace l5 := le_trans' l4 l5
  refine ⟨d1, 0, rfl, ?_⟩
  refine (print_made (hT.le l5) r2 b2 (by omega)).mono ?_
  rintro _ F6 ⟨⟨d2, rfl, hd2, hl2⟩, l6⟩
  replace r1 := r1.le l6
  replace r2 := r2.le l6
  replace l6 := le_trans' l5 l6
  have w1 := (pr_wr t1 b1).1
  have w2 := (pr_wr t2 b2).1
  have sz : ∀ a : Array UInt8, (ByteArray.mk a).size = a.size := fun _ => rfl
  refine ⟨d2, 0, rfl, by rw [sz]; simp; omega, by simp only [ByteArray.size_append, sz]; simp; omega, by simp only [ByteArray.size_append, sz]; simp; omega, by simp only [ByteArray.size_append, sz]; simp; omega, ?_⟩
  have e3 := wr_str (t := .seq t1 t2) (st := ((((ByteArray.mk #[40]) ++ d1) ++ (ByteArray.mk #[41, 40])) ++ d2) ++ (ByteArray.mk #[41])) (.sqn (.seq (.fac (.par w1)) (.par w2))) (by simp only [bs_append, hd1, hd2, bs_mk]; simp) (by simp only [Pat.size]; omega) (by simp only [ByteArray.size_append, sz]; simp; omega)
  have e4 := wr_str (t := .alt t1 t2) (st := ((((ByteArray.mk #[40]) ++ d1) ++ (ByteArray.mk #[41, 124, 40])) ++ d2) ++ (ByteArray.mk #[41])) (.alt (.sqn (.fac (.par w1))) (.fac (.par w2))) (by simp only [bs_append, hd1, hd2, bs_mk]; simp) (by simp only [Pat.size]; omega) (by simp only [ByteArray.size_append, sz]; simp; omega)
  have e5 := wr_str (t := .rep t1) (st := ((ByteArray.mk #[40]) ++ d1) ++ (ByteArray.mk #[41, 42])) (.sqn (.fac (.rep (.par w1)))) (by simp only [bs_append, hd1, bs_mk]; simp) (by simp only [Pat.size]; omega) (by simp only [ByteArray.size_append, sz]; simp; omega)
  refine (parse_spec F6 _).mono ?_
  rw [e3]
  rintro _ F7 ⟨⟨_, rfl, s3, rfl, r3⟩, l7⟩
  replace r3 : RdS F7 s3 5 (nflat ((Pat.seq t1 t2).nodes 0)) := r3
  replace r1 := r1.le l7
  replace r2 := r2.le l7
  replace l7 := le_trans' l6 l7
  refine ⟨s3, 0, rfl, by rw [sz]; simp; omega, by simp only [ByteArray.size_append, sz]; simp; omega, by simp only [ByteArray.size_append, sz]; simp; omega, by simp only [ByteArray.size_append, sz]; simp; omega, ?_⟩
  refine (parse_spec F7 _).mono ?_
  rw [e4]
  rintro _ F8 ⟨⟨_, rfl, s4, rfl, r4⟩, l8⟩
  replace r4 : RdS F8 s4 5 (nflat ((Pat.alt t1 t2).nodes 0)) := r4
  replace r1 := r1.le l8
  replace r2 := r2.le l8
  replace r3 := r3.le l8
  replace l8 := le_trans' l7 l8
  refine ⟨s4, 0, rfl, by rw [sz]; simp; omega, by simp only [ByteArray.size_append, sz]; simp; omega, ?_⟩
  refine (parse_spec F8 _).mono ?_
  rw [e5]
  rintro _ F9 ⟨⟨_, rfl, s5, rfl, r5⟩, l9⟩
  replace r5 : RdS F9 s5 5 (nflat ((Pat.rep t1).nodes 0)) := r5
  have hC : C7 F9 s1 s2 s3 s4 s5 t1 t2 := ⟨hT.le (le_trans' l8 l9), b1, b2, z1, z2, r1.le l9, r2.le l9, r3.le l9, r4.le l9, r5⟩
  replace l9 := le_trans' l8 l9
  refine ⟨s5, 0, rfl, fun h => absurd rfl h, fun _ => ⟨fun h => absurd rfl h, fun _ => ⟨fun h => absurd rfl h, fun _ => ⟨fun h => absurd rfl h, fun _ => ⟨fun h => absurd rfl h, fun _ => ?_⟩⟩⟩⟩⟩
  refine ⟨mI1 F9 t1 t2 st, st.size + 1, ⟨0, rfl, by omega, by omega, le_refl' F9, rfl, ?_⟩, fun m sp mo k F' hI => law7_L1 hC (by omega) (fun F' h => ⟨rfl, le_trans' l9 h⟩) hI⟩
  rw [beq_bs]
  unfold moB
  simp [bs_mk]
theorem law7_spec (hT : Tab F) {sl1 sl2 sl3 : Sl} {zs1 zs2 zs3 : List Int} (h1 : RdS F sl1 1 (zs1.map (Value.int .u8))) (hz1 : ∀ z ∈ zs1, 0 ≤ z ∧ z ≤ 255) (hn1 : zs1.length ≤ 9000000000000000) (h2 : RdS F sl2 1 (zs2.map (Value.int .u8))) (hz2 : ∀ z ∈ zs2, 0 ≤ z ∧ z ≤ 255) (hn2 : zs2.length ≤ 9000000000000000)
    (h3 : RdS F sl3 1 (zs3.map (Value.int .u8))) (hz3 : ∀ z ∈ zs3, 0 ≤ z ∧ z ≤ 255) (hn3 : zs3.length ≤ 9000000000000000) : Spec prog 7 #[sl1.v, sl2.v, sl3.v] F fun r F' => r = .bool true ∧ F.le F' := c7 (law7_b7 hT h1 hz1 hn1 h2 hz2 hn2 h3 hz3 hn3)
end
end Go.Proofs.YtnjcgpihfmklfaaDoor
