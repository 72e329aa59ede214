/-
  The store: maps keyed by strings: entries stamped and apart; updates, deletions, ranges.
-/
import Derived.Test.YtelkfnmdnbbniaaUf
import Derived.Test.YtelkfnmdnbbniaaGc
import Derived.Test.YtelkfnmdnbbniaaPhp
import Derived.MapKept
namespace Go.Proofs.Ytelkfnmdnbbniaa
open Go Go.Proofs.Try
set_option maxRecDepth 10000
theorem wu64_eq {x : Int} (h1 : 0 ≤ x) (h2 : x < 18446744073709551616) : IntKind.u64.wrap x = x := by
 unfold IntKind.wrap
 simp only [IntKind.bits, IntKind.signed]
 simp only [Bool.false_and, Bool.false_eq_true, if_false]
 omega
theorem bv_of {a : Nat} (h : a < 18446744073709551616) : (BitVec.ofInt (IntKind.u64).bits (a : Int)).toNat = a := by
 rw [BitVec.toNat_ofInt]
 show ((a : Int) % ((2 ^ 64 : Nat) : Int)).toNat = a
 have : ((2 ^ 64 : Nat) : Int) = 18446744073709551616 := by decide
 rw [this]
 omega
theorem u64_or {a b : Nat} (ha : a < 18446744073709551616) (hb : b < 18446744073709551616) : IntKind.u64.wrap ((BitVec.ofInt (IntKind.u64).bits (a : Int) ||| BitVec.ofInt (IntKind.u64).bits (b : Int)).toNat) = ((a ||| b : Nat) : Int) := by
 rw [BitVec.toNat_or, bv_of ha, bv_of hb]
 have : a ||| b < 2 ^ 64 := Nat.or_lt_two_pow ha hb
 exact wu64_eq (by omega) (by omega)
theorem or_low {x c : Int} (hx : 0 ≤ x) (hx2 : x < 72057594037927936) (hc : 0 ≤ c) (hc2 : c < 256) : IntKind.u64.wrap ((BitVec.ofInt (IntKind.u64).bits (IntKind.u64.wrap (x * 2 ^ (min (Int.toNat (8 : Int)) (IntKind.u64).bits))) ||| BitVec.ofInt (IntKind.u64).bits (IntKind.u64.wrap c)).toNat) = x * 256 + c := by
 obtain ⟨a, rfl⟩ := Int.eq_ofNat_of_zero_le hx
 obtain ⟨b, rfl⟩ := Int.eq_ofNat_of_zero_le hc
 have e1 : IntKind.u64.wrap ((a : Int) * 2 ^ (min (Int.toNat (8 : Int)) (IntKind.u64).bits)) = ((a * 256 : Nat) : Int) := by
  show IntKind.u64.wrap ((a : Int) * 2 ^ 8) = _
  rw [wu64_eq (by omega) (by omega)]
  omega
 rw [e1, wu64_eq (x := (b : Int)) (by omega) (by omega), u64_or (by omega) (by omega)]
 have := Nat.shiftLeft_add_eq_or_of_lt (i := 8) (b := b) (show b < 2 ^ 8 by omega) a
 rw [Nat.shiftLeft_eq] at this
 have e2 : a * 256 ||| b = a * 256 + b := by
  rw [show a * 256 = a * 2 ^ 8 by omega]
  exact this.symm
 rw [e2]
 omega
def Byt (l : List Int) : Prop := ∀ x ∈ l, 0 ≤ x ∧ x ≤ 255
def be8 (x : Int) : List Int := (List.range 8).map fun i => IntKind.u8.wrap (Int.fdiv x (2 ^ (56 - 8 * i)))
def un8 (l : List Int) : Int := l.foldl (fun x c => x * 256 + c) 0
theorem be8_len (x : Int) : (be8 x).length = 8 := rfl
theorem wu8_mod (x : Int) : IntKind.u8.wrap x = x % 256 := by simp [IntKind.wrap, IntKind.bits, IntKind.signed]
theorem be8_byt (x : Int) : Byt (be8 x) := by
 intro y hy
 obtain ⟨i, _, rfl⟩ := List.mem_map.1 hy
 rw [wu8_mod]
 omega
theorem un8_be8 {x : Int} (h1 : 0 ≤ x) (h2 : x < 18446744073709551616) : un8 (be8 x) = x := by
 simp only [be8, List.range, List.range.loop, List.map, un8, List.foldl, wu8_mod]
 simp only [Int.fdiv_eq_ediv_of_nonneg x (show (0 : Int) ≤ 2 ^ (56 - 8 * 0) by decide), Int.fdiv_eq_ediv_of_nonneg x (show (0 : Int) ≤ 2 ^ (56 - 8 * 1) by decide), Int.fdiv_eq_ediv_of_nonneg x (show (0 : Int) ≤ 2 ^ (56 - 8 * 2) by decide), Int.fdiv_eq_ediv_of_nonneg x (show (0 : Int) ≤ 2 ^ (56 - 8 * 3) by decide), Int.fdiv_eq_ediv_of_nonneg x (show (0 : Int) ≤ 2 ^ (56 - 8 * 4) by decide), Int.fdiv_eq_ediv_of_nonneg x (show (0 : Int) ≤ 2 ^ (56 - 8 * 5) by decide), Int.fdiv_eq_ediv_of_nonneg x (show (0 : Int) ≤ 2 ^ (56 - 8 * 6) by decide), Int.fdiv_eq_ediv_of_nonneg x (show (0 : Int) ≤ 2 ^ (56 - 8 * 7) by decide)]
 simp only [show (2 : Int) ^ (56 - 8 * 0) = 72057594037927936 by decide, show (2 : Int) ^ (56 - 8 * 1) = 281474976710656 by decide, show (2 : Int) ^ (56 - 8 * 2) = 1099511627776 by decide, show (2 : Int) ^ (56 - 8 * 3) = 4294967296 by decide, show (2 : Int) ^ (56 - 8 * 4) = 16777216 by decide, show (2 : Int) ^ (56 - 8 * 5) = 65536 by decide, show (2 : Int) ^ (56 - 8 * 6) = 256 by decide, show (2 : Int) ^ (56 - 8 * 7) = 1 by decide]
 omega
theorem un8_bound : ∀ (l : List Int) (x : Int), Byt l → 0 ≤ x → 0 ≤ l.foldl (fun x c => x * 256 + c) x ∧ l.foldl (fun x c => x * 256 + c) x < (x + 1) * ((256 ^ l.length : Nat) : Int)
 | [], x, _, h => ⟨h, by simp; omega⟩
 | c :: l, x, hl, h => by
  have hc := hl c (by simp)
  obtain ⟨h1, h2⟩ := un8_bound l (x * 256 + c) (fun y hy => hl y (by simp [hy])) (by omega)
  refine ⟨h1, Int.lt_of_lt_of_le h2 ?_⟩
  rw [List.length_cons, Nat.pow_succ, Int.natCast_mul, Int.mul_comm ((256 ^ l.length : Nat) : Int), ← Int.mul_assoc]
  exact Int.mul_le_mul_of_nonneg_right (by omega) (Int.natCast_nonneg _)
theorem un8_range {l : List Int} (h : Byt l) (hl : l.length = 8) : 0 ≤ un8 l ∧ un8 l < 18446744073709551616 := by
 obtain ⟨h1, h2⟩ := un8_bound l 0 h (Int.le_refl _)
 refine ⟨h1, ?_⟩
 rw [hl] at h2
 exact h2
theorem ovr_nil (l : List Int) (o : Nat) : ovr l o [] = l := by simp [ovr]
theorem ovr_snoc {l p : List Int} {o : Nat} (v : Int) (h : o + p.length < l.length) : (ovr l o p).set (o + p.length) v = ovr l o (p ++ [v]) := by
 unfold ovr
 rw [List.set_append_right _ _ (by simp; omega)]
 have e1 : o + p.length - (l.take o ++ p).length = 0 := by simp; omega
 rw [e1, List.drop_eq_getElem_cons h, List.set_cons_zero]
 simp [Nat.add_assoc]
theorem u8s_set (l : List Int) (i : Nat) (v : Int) : (u8s l).toArray.setIfInBounds i (.int .u8 v) = (u8s (l.set i v)).toArray := by
 apply Array.ext'
 simp [List.map_set]
theorem set_self {F : PH} {b : Nat} {o : Obj} (h : F b = some o) : F.set b o = F := by
 funext x
 unfold PH.set
 by_cases e : x = b
 ·rw [if_pos e, e, h]
 ·rw [if_neg e]
theorem take_next {l : List Int} {i : Nat} (h : i < l.length) : l.take (i + 1) = l.take i ++ [l[i]] := by rw [List.take_add_one, List.getElem?_eq_getElem h]; rfl
section
variable {F : PH}
theorem put64_spec {b o m cap : Nat} {l : List Int} {e : TypeId} {x : Int} (hb : F b = some (.cells (u8s l).toArray e (0, 0))) (ho : o + 8 ≤ l.length) (hm : 8 ≤ m) :
  Spec prog 70 #[Sl.v ⟨some ⟨b, o, none⟩, m, cap⟩, .int .u64 x] F fun r F' => r = .tuple #[] ∧ F' = F.set b (.cells (u8s (ovr l o (be8 x))).toArray e) := by
 refine c70 ?_
 unfold b70
 refine ⟨fun n i F' => ∃ k : Nat, i = k ∧ k ≤ 8 ∧ n = 8 - k ∧ F' = F.set b (.cells (u8s (ovr l o ((be8 x).take k))).toArray e), 8, ⟨0, rfl, by omega, rfl, by rw [List.take_zero, ovr_nil, set_self hb]⟩, ?_⟩
 rintro _ _ _ ⟨k, rfl, hk, rfl, rfl⟩
 unfold b70L1
 refine ⟨fun hlt => ?_, fun hge => ?_⟩
 ·have hk8 : k < 8 := by omega
  have hlen : ((be8 x).take k).length = k := by rw [List.length_take, be8_len]; omega
  have hsh : 0 ≤ (IntKind.i64.wrap ((56 : Int) - (IntKind.i64.wrap ((8 : Int) * k)))) ∧ min (Int.toNat (IntKind.i64.wrap ((56 : Int) - (IntKind.i64.wrap ((8 : Int) * k))))) (IntKind.u64).bits = 56 - 8 * k := by
   rw [w64_eq (x := (8 : Int) * k) (by omega) (by omega), w64_eq (by omega) (by omega)]
   refine ⟨by omega, ?_⟩
   show min _ 64 = _
   omega
  refine ⟨hsh.1, _, rfl, by omega, by simp only; omega, st1' (add_mk b o _) (set_eq _ _ _) ?_ ?_⟩
  ·rw [List.size_toArray, List.length_map, ovr_len (by rw [hlen]; omega)]
   omega
  ·refine ⟨8 - (k + 1), by omega, k + 1, w64s (by omega), by omega, rfl, ?_⟩
   rw [set_twice, hsh.2, u8s_set]
   have hv : IntKind.u8.wrap (Int.fdiv x (2 ^ (56 - 8 * k))) = (be8 x)[k]'(by rw [be8_len]; exact hk8) := by simp [be8]
   rw [hv, show o + Int.toNat (k : Int) * 1 = o + ((be8 x).take k).length by rw [hlen]; omega, ovr_snoc _ (by rw [hlen]; omega), take_next]
 ·obtain rfl : k = 8 := by omega
  exact ⟨rfl, by rw [List.take_of_length_le (by rw [be8_len]; exact Nat.le_refl _)]⟩
theorem get64_spec {s : Sl} {l : List Int} (hs : RdS F s 1 (u8s l)) (hl : 8 ≤ l.length) (hb : Byt l) : Spec prog 47 #[s.v] F fun r F' => r = .int .u64 (un8 (l.take 8)) ∧ F' = F := by
 have hlen := hs.len
 have hcap := hs.cap
 rw [List.length_map, Nat.mul_one] at hlen
 refine c47 ?_
 unfold b47
 have h8 : RdS F (Sl.cut s 1 0 8 s.cap) 1 (u8s (l.take 8)) := by
  have := hs.cut (l := 0) (r := 8) (m := s.cap) (by omega) (by omega) (by omega)
  simpa [List.map_take] using this
 have h8l : (Sl.cut s 1 0 8 s.cap).len = 8 := rfl
 refine ⟨by omega, by omega, fun n x i F' => ∃ k : Nat, i = k ∧ k ≤ 8 ∧ n = 8 - k ∧ F' = F ∧ x = un8 (l.take k), 8, ⟨0, rfl, by omega, rfl, rfl, rfl⟩, ?_⟩
 rintro _ _ _ _ ⟨k, rfl, hk, rfl, ee, rfl⟩
 obtain rfl := ee.symm
 unfold b47L1
 refine ⟨fun hlt => ?_, fun hge => ?_⟩
 ·rw [h8l] at hlt
  have hk8 : k < 8 := by omega
  obtain ⟨a, ha, hc⟩ := h8.byte (i := k) (by rw [List.length_take]; omega)
  have hx := un8_bound (l.take k) 0 (fun y hy => hb y (List.mem_of_mem_take hy)) (Int.le_refl _)
  have hp : 256 ^ (l.take k).length ≤ 256 ^ 7 := Nat.pow_le_pow_right (by omega) (by rw [List.length_take]; omega)
  have hx2 : un8 (l.take k) < 72057594037927936 := by
   have := hx.2
   unfold un8
   have e7 : 256 ^ 7 = 72057594037927936 := by decide
   omega
  have hbk := hb (l[k]'(by omega)) (List.getElem_mem _)
  refine ⟨a, ha, by omega, by rw [h8l]; omega, _, hc, 8 - (k + 1), by omega, k + 1, w64s (by omega), by omega, rfl, rfl, ?_⟩
  rw [List.getElem_take, or_low (x := un8 (l.take k)) hx.1 hx2 hbk.1 (by omega), take_next (by omega)]
  unfold un8
  rw [List.foldl_append]
  rfl
 ·rw [h8l] at hge
  obtain rfl : k = 8 := by omega
  unfold b47j1
  exact ⟨rfl, rfl⟩
def hdl (mark number value : Int) : List Int := [mark] ++ be8 number ++ be8 value ++ List.replicate 47 0
theorem hdl_len (m n v : Int) : (hdl m n v).length = 64 := rfl
theorem ovr_hd (m n v : Int) : ovr (ovr ((List.replicate 64 (0 : Int)).set 0 m) 1 (be8 n)) 9 (be8 v) = hdl m n v := rfl
theorem z64_u8s : (Array.replicate 64 (Value.int .u8 0)) = (u8s (List.replicate 64 0)).toArray := rfl
theorem head_spec {m n v : Int} : Spec prog 58 #[.int .u8 m, .int .u64 n, .int .u64 v] F fun r F' => r = .agg (u8s (hdl m n v)).toArray ∧ F.le F' := by
 refine c58 ?_
 unfold b58
 intro b6 h6
 refine atI ?_
 intro b7 h7
 refine atI ?_
 have l6 := le_set_fresh (.cells (Array.replicate 64 (.int .u8 0)) 104) h6
 have q6 := set_eq F b6 (.cells (Array.replicate 64 (.int .u8 0)) 104)
 generalize F.set b6 (.cells (Array.replicate 64 (.int .u8 0)) 104) = F1 at *
 have q6' := le_set_fresh (.cells (Array.replicate 64 (.int .u8 0)) 104) h7 _ _ q6
 have hne : b6 ≠ b7 := ne_of_fresh h7 q6
 refine stW (set_eq _ _ _) rfl rfl ?_ ?_
 ·rw [z64_u8s, u8s_set]
  exact st_u8s
 rw [set_twice, z64_u8s, u8s_set]
 have h7F : F b7 = none := le_none l6 h7
 refine ⟨by omega, by omega, ?_⟩
 have ec : ∀ k : Nat, k < 64 → Sl.cut ⟨some ⟨b7, 0, none⟩, 64, 64⟩ 1 k 64 64 = ⟨some ⟨b7, k, none⟩, 64 - k, 64 - k⟩ := fun k hk => by
  unfold Sl.cut
  simp only [show ¬ (64 = k) by omega]
  simp
 rw [ec 1 (by omega), ec 9 (by omega)]
 refine (put64_spec (set_eq _ _ _) (show 1 + 8 ≤ 64 by decide) (by omega)).mono ?_
 rintro _ _ ⟨rfl, rfl⟩
 refine ⟨rfl, by omega, by omega, ?_⟩
 rw [set_twice]
 refine (put64_spec (set_eq _ _ _) (show 9 + 8 ≤ 64 by decide) (by omega)).mono ?_
 rintro _ _ ⟨rfl, rfl⟩
 refine ⟨rfl, ?_⟩
 rw [set_twice, ovr_hd]
 refine ⟨(u8s (hdl m n v)).toArray, rfl, row_whole (set_eq _ _ _), ?_⟩
 refine stW (c := Array.replicate 64 (.int .u8 0)) (e := 104) ?_ rfl rfl st_u8s ?_
 ·rw [set_ne _ _ hne]
  exact q6
 refine ⟨_, rfl, row_whole (set_eq _ _ _), rfl, ?_⟩
 refine le_set_new (le_set_new l6 h7F) h6
theorem sectors_of {p : Int} (h0 : 0 ≤ p) (h1 : p ≤ 4611686018427387904) : Spec prog 51 #[.int .i64 p] F fun r F' => r = .int .i64 (1 + (p + 62) / 63) ∧ F' = F := by
 refine c51 ?_
 unfold b51
 refine ⟨?_, rfl⟩
 rw [w64_eq (x := p + 62) (by omega) (by omega), Int.tdiv_eq_ediv_of_nonneg (by omega)]
 rw [w64_eq (x := (p + 62) / 63) (by omega) (by omega), w64_eq (by omega) (by omega)]
end
def ib (st : ByteArray) : List Int := st.data.toList.map fun b => (b.toNat : Int)
theorem ib_byt (st : ByteArray) : Byt (ib st) := by
 intro x hx
 obtain ⟨b, _, rfl⟩ := List.mem_map.1 hx
 have := b.toNat_lt
 omega
theorem ib_len (st : ByteArray) : (ib st).length = st.size := by
 simp [ib]
abbrev strB (st : ByteArray) : List Value := u8s (ib st)
theorem strB_len (st : ByteArray) : (strB st).length = st.size := by rw [List.length_map, ib_len]
theorem strB_eq (st : ByteArray) : ((st.extract 0 st.size).data.map fun b => Value.int .u8 b.toNat) = (strB st).toArray := by
 apply Array.ext'
 simp [strB, u8s, ib]
theorem runs_append_str {P : Program} {F : PH} {s : Sl} {st : ByteArray} {t t2 e bytes ty : Nat} {z : Value} {olds : List Value} {Q : Value → PH → Prop} (ht : P.underlying t = some (.slice e)) (ht2 : P.underlying t2 = some .string) (hsz : tsz P e = some (1, bytes)) (hz : tzero P e = some z) (hzs : z.cells.size = 1)
  (ho : RdS F s 1 olds) (hfit : (s.len + st.size) * bytes ≤ 140737488355328) (hlen : s.len + st.size ≤ 9223372036854775807)
  (h0 : st.size = 0 → s.len + st.size ≤ s.cap → Q (Sl.v ⟨s.base, s.len + st.size, s.cap⟩) F)
  (h1 : 0 < st.size → s.len + st.size ≤ s.cap → ∃ b o c e', s.base = some ⟨b, o, none⟩ ∧ F b = some (.cells c e' (0, 0)) ∧ o + s.len + st.size ≤ c.size ∧
   Q (Sl.v ⟨s.base, s.len + st.size, s.cap⟩) (F.set b (.cells (wr c (o + s.len) (strB st)) e')))
  (h2 : s.cap < s.len + st.size → ∀ cap b, s.len + st.size ≤ cap → F b = none → Q (Sl.v ⟨some ⟨b, 0, none⟩, s.len + st.size, cap⟩) (F.set b (.cells (olds.toArray ++ (strB st).toArray ++ Builtin.zeroCells z.cells (cap - (s.len + st.size))) e))) :
  runs P (Builtin.append_ #[t, t2] ty #[s.v, .string st]) F Q := by
 have hnl : (strB st).length = st.size := strB_len st
 have hst : ∀ v ∈ strB st, storable v := st_u8s
 have hol := ho.len
 have hfn : ∀ Q', Q' (strB st).toArray F → runs P (Builtin.firstCells 1 st.size (.string st)) F Q' := fun Q' hq => by
  simp only [Builtin.firstCells, runs_pure]
  rw [strB_eq]
  exact hq
 have hfo : ∀ Q', Q' olds.toArray F → runs P (Builtin.firstCells 1 s.len s.v) F Q' := fun Q' hq => runs_firstCells ho (Nat.le_refl _) (by rw [← hol, List.take_length]; exact hq)
 obtain ⟨base, len, cap⟩ := s
 simp only [Builtin.append_, runs_bind', Sl.v, List.getElem?_toArray, List.getElem?_cons_zero, List.getElem?_cons_succ, runs_underlying ht, runs_underlying ht2, Builtin.lenOf, runs_pure, runs_sizeOf hsz, Bool.false_eq_true, if_false, Bool.not_false, if_true] at *
 obtain ⟨i, hib, hti⟩ := runs_typeInfo_bytes hsz
 by_cases hroom : len + st.size ≤ cap
 ·rw [if_pos hroom]
  simp only [runs_bind']
  refine hfn _ ?_
  by_cases hz0 : st.size = 0
  ·have hnil : (strB st) = [] := List.eq_nil_of_length_eq_zero (by rw [hnl, hz0])
   cases base with
   | none => exact h0 hz0 hroom
   | some a => simp only [hnil, storeCells, runs_bind', runs_pure]; exact h0 hz0 hroom
  ·obtain ⟨b, o, c, e', g1, g2, g3, g4⟩ := h1 (by omega) hroom
   cases g1
   simp only [runs_bind']
   refine runs_storeCells (strB st) 0 F _ c _ (by simp) (by simpa using g2) (by simp only [add_mk]; rw [hnl]; omega) hst (fun hnn => hz0 (by rw [← hnl, hnn]; rfl)) ?_
   simpa using g4
 ·rw [if_neg hroom]
  simp only [runs_bind', hti]
  rw [if_neg (by
   rintro ⟨ha, hb⟩
   have : (IntKind.i64.max : Int) = 9223372036854775807 := by decide
   rw [this] at ha
   omega)]
  have hg := growslice_fits (need := len + st.size) (old := cap) (bytes := bytes) (by omega) hfit
  simp only [runs_bind', hti]
  rw [if_neg (by rw [hib]; omega)]
  simp only [runs_bind', choose]
  unfold runs
  rw [if_neg (by simp [Question.forced])]
  intro tt
  simp only [runs, hti]
  refine runs_askRoom ?_
  refine hfo _ ?_
  refine hfn _ ?_
  simp only [runs_zeroValue hz, newRow, newObj, runs_bind', runs, runs_pure]
  intro b hb
  exact h2 (by omega) _ b (by simp only [Question.cut]; omega) hb
theorem own_append_str {F : PH} {s : Sl} {st : ByteArray} {t t2 e bytes ty : Nat} {z : Value} {P : Program} {olds : List Value} {Q : Value → PH → Prop} (ht : P.underlying t = some (.slice e)) (ht2 : P.underlying t2 = some .string) (hsz : tsz P e = some (1, bytes)) (hz : tzero P e = some z) (hzs : z.cells.size = 1)
  (ho : OwnS F e 1 s olds) (hx : 0 < st.size) (hfit : (s.len + st.size) * bytes ≤ 140737488355328) (hlen : s.len + st.size ≤ 9223372036854775807)
  (h : ∀ s' F' b o, F' = F.set b o → OwnS F' e 1 s' (olds ++ (strB st)) → s'.len = s.len + st.size → (∀ a, s'.base = some a → a.block = b) → ((∃ a, s.base = some a ∧ a.block = b) ∨ F b = none) → Q s'.v F') :
  runs P (Builtin.append_ #[t, t2] ty #[s.v, .string st]) F Q := by
 have hol := ho.rd.len
 have hsl := strB_len st
 refine runs_append_str ht ht2 hsz hz hzs ho.rd hfit hlen (fun h0 => by omega) ?_ ?_
 ·intro _ hroom
  rcases ho with ⟨rfl, rfl⟩ | ⟨b, cur, h1, h2, h3, h4, h5, h6⟩
  ·have e1 : Sl.nil.cap = 0 := rfl
   have e2 : Sl.nil.len = 0 := rfl
   omega
  ·refine ⟨b, 0, cur, e, h1, h2, by omega, ?_⟩
   refine h ⟨_, _, _⟩ _ b _ rfl (.inr ⟨b, _, h1, set_eq _ _ _, by rw [wr_size, h3], hroom, by rw [List.length_append]; simp only; omega, ?_⟩) rfl (fun a ha => by rw [h1] at ha; cases ha; rfl) (.inl ⟨_, h1, rfl⟩)
   simp only [Nat.zero_add]
   have hw := wr_list (strB st) cur.toList s.len (by rw [hsl, Array.length_toList]; omega)
   rw [show cur.toList.toArray = cur by simp] at hw
   rw [hw]
   rw [Nat.mul_one] at h6 ⊢
   simp only
   rw [h6]
   rw [List.take_append_of_le_length (by rw [List.length_append]; omega), List.take_of_length_le (by rw [List.length_append]; omega)]
 ·intro hgt cap b hc hb
  refine h ⟨_, _, _⟩ _ b _ rfl (.inr ⟨b, _, rfl, set_eq _ _ _, ?_, hc, by rw [List.length_append]; simp only; omega, ?_⟩) rfl (fun a ha => by cases ha; rfl) (.inr hb)
  ·simp [Builtin.zeroCells, hzs]
   have e1 := ib_len st
   omega
  ·simp only [List.append_toArray, Array.toList_append]
   rw [List.take_append_of_le_length (by rw [List.length_append]; omega), List.take_of_length_le (by rw [List.length_append]; omega)]
theorem own_app_str {F0 F : PH} {s : Sl} {st : ByteArray} {t t2 e bytes ty : Nat} {z : Value} {P : Program} {olds : List Value} {Q : Value → PH → Prop} (ht : P.underlying t = some (.slice e)) (ht2 : P.underlying t2 = some .string) (hsz : tsz P e = some (1, bytes)) (hz : tzero P e = some z) (hzs : z.cells.size = 1)
  (hle : F0.le F) (ho : OwnS F e 1 s olds) (hnew : ∀ a, s.base = some a → F0 a.block = none) (hfit : (s.len + st.size) * bytes ≤ 140737488355328) (hlen : s.len + st.size ≤ 9223372036854775807)
  (h : ∀ s' F', F0.le F' → OwnS F' e 1 s' (olds ++ (strB st)) → s'.len = s.len + st.size → (∀ a, s'.base = some a → F0 a.block = none) → Keep (fun b => ∃ a, s.base = some a ∧ a.block = b) F F' → (∀ a, s'.base = some a → (∃ a', s.base = some a' ∧ a'.block = a.block) ∨ F a.block = none) → Q s'.v F') :
  runs P (Builtin.append_ #[t, t2] ty #[s.v, .string st]) F Q := by
 by_cases h0 : st.size = 0
 ·have hnil : strB st = [] := List.eq_nil_of_length_eq_zero (by rw [strB_len, h0])
  have hs : (⟨s.base, s.len + st.size, s.cap⟩ : Sl) = s := by rw [h0]; rfl
  have hQ : Q (Sl.v ⟨s.base, s.len + st.size, s.cap⟩) F := by
   rw [hs]
   exact h s F hle (by rw [hnil, List.append_nil]; exact ho) (by omega) hnew (Keep.refl _ _) (fun a ha => .inl ⟨a, ha, rfl⟩)
  have := ho.rd.cap
  exact runs_append_str ht ht2 hsz hz hzs ho.rd hfit hlen (fun _ _ => hQ) (fun h1 => absurd h0 (by omega)) (fun h1 => by omega)
 ·refine own_append_str ht ht2 hsz hz hzs ho (by omega) hfit hlen ?_
  rintro s' F' b ob rfl ho' hl' hbase hb
  have hb0 : F0 b = none := by
   rcases hb with ⟨a, ha, rfl⟩ | hb
   ·exact hnew a ha
   ·exact le_none hle hb
  refine h s' _ (fun y o hy => ?_) ho' hl' (fun a ha => by rw [hbase a ha]; exact hb0) (fun y o hy hn => ?_) (fun a ha => ?_)
  ·rw [set_ne _ _ (fun e => by rw [e, hb0] at hy; cases hy)]; exact hle _ _ hy
  ·rw [set_ne]
   ·exact hy
   ·rintro rfl
    rcases hb with hb | hb
    ·exact hn hb
    ·rw [hb] at hy; cases hy
  ·rw [hbase a ha]
   exact hb
structure Ov (e size : Nat) (G F : PH) (s : Sl) (vs : List Value) : Prop where
 le : G.le F
 own : OwnS F e size s vs
 oz : ∀ a, s.base = some a → G a.block = none
theorem OwnS.some {F : PH} {e size : Nat} {s : Sl} {vs : List Value} (h : OwnS F e size s vs) {a : Addr} (ha : s.base = some a) : ∃ o, F a.block = some o := by
 rcases h with ⟨rfl, _⟩ | ⟨b, cur, h1, h2, _⟩
 ·cases ha
 ·rw [ha] at h1
  cases h1
  exact ⟨_, h2⟩
section
variable {e size : Nat} {G F : PH} {s : Sl} {vs : List Value}
theorem Ov.nil (F : PH) (e size : Nat) : Ov e size F F Sl.nil [] := ⟨le_refl' F, .inl ⟨rfl, rfl⟩, fun a ha => by cases ha⟩
theorem Ov.fresh (h : Ov e size G F s vs) {x : Nat} (hx : F x = none) (o : Obj) : Ov e size G (F.set x o) s vs :=
 ⟨le_trans' h.le (le_set_fresh o hx), h.own.keep fun a ha => by
  obtain ⟨o', ho⟩ := h.own.some ha
  exact set_ne _ _ (ne_of_fresh hx ho), h.oz⟩
theorem Ov.up (h : Ov e size G F s vs) {F' : PH} (l : F.le F') : Ov e size G F' s vs :=
 ⟨le_trans' h.le l, h.own.keep fun a ha => by
  obtain ⟨o', ho⟩ := h.own.some ha
  rw [ho, l _ _ ho], h.oz⟩
theorem Ov.newg (h : Ov e size G F s vs) {b : Nat} (hb : F b = none) (o : Obj) : Ov e size (G.set b o) (F.set b o) s vs := by
 refine ⟨fun y p hy => ?_, h.own.keep fun a ha => ?_, fun a ha => ?_⟩
 ·by_cases e : y = b
  ·rw [e, set_eq] at hy ⊢
   exact hy
  ·rw [set_ne _ _ e] at hy ⊢
   exact h.le _ _ hy
 ·obtain ⟨o', ho⟩ := h.own.some ha
  exact set_ne _ _ (ne_of_fresh hb ho)
 ·obtain ⟨o', ho⟩ := h.own.some ha
  rw [set_ne _ _ (ne_of_fresh hb ho)]
  exact h.oz a ha
theorem Ov.gle (h : Ov e size G F s vs) {b : Nat} (hb : F b = none) (o : Obj) : G.le (G.set b o) := le_set_fresh o (le_none h.le hb)
theorem Ov.len (h : Ov e size G F s vs) : vs.length = s.len * size := h.own.rd.len
theorem Ov.app {t bytes ty : Nat} {z : Value} (h : Ov e size G F s vs) (ht : prog.underlying t = some (.slice e)) (hsz : tsz prog e = some (size, bytes)) (hz : tzero prog e = some z) (hzs : z.cells.size = size) (hs0 : 0 < size) {x : Sl} {news : List Value} (hn : RdS F x size news) (hst : ∀ v ∈ news, storable v)
  (hfit : (s.len + x.len) * bytes ≤ 140737488355328) (hl : s.len + x.len ≤ 9223372036854775807) {K : Sl → PH → Prop} (k : ∀ s' F', Ov e size G F' s' (vs ++ news) → K s' F') :
  runs prog (Builtin.append_ #[t, t] ty #[s.v, x.v]) F fun v F => ∃ s' : Sl, v = s'.v ∧ K s' F := by
 refine own_app (F0 := G) ht hsz hz hzs hs0 h.le h.own h.oz hn hst hfit hl ?_
 intro s' F2 le2 ho2 hl2 hnew keep hsome
 exact ⟨s', rfl, k s' F2 ⟨le2, ho2, hnew⟩⟩
theorem Ov.app_str {t t2 bytes ty : Nat} {z : Value} (h : Ov e 1 G F s vs) (ht : prog.underlying t = some (.slice e)) (ht2 : prog.underlying t2 = some .string) (hsz : tsz prog e = some (1, bytes)) (hz : tzero prog e = some z) (hzs : z.cells.size = 1) {st : ByteArray}
  (hfit : (s.len + st.size) * bytes ≤ 140737488355328) (hl : s.len + st.size ≤ 9223372036854775807) {K : Sl → PH → Prop} (k : ∀ s' F', Ov e 1 G F' s' (vs ++ strB st) → K s' F') :
  runs prog (Builtin.append_ #[t, t2] ty #[s.v, .string st]) F fun v F => ∃ s' : Sl, v = s'.v ∧ K s' F := by
 refine own_app_str (F0 := G) ht ht2 hsz hz hzs h.le h.own h.oz hfit hl ?_
 intro s' F2 le2 ho2 hl2 hnew keep hsome
 exact ⟨s', rfl, k s' F2 ⟨le2, ho2, hnew⟩⟩
end
abbrev Rc := ByteArray × List Int
abbrev Rt := ByteArray × Sl × List Int
def rtc (T : List Rt) : List Value := T.flatMap fun x => [.string x.1, x.2.1.v]
def rcs (T : List Rt) : List Rc := T.map fun x => (x.1, x.2.2)
structure RdT (F : PH) (s : Sl) (T : List Rt) : Prop where
 rd : RdS F s 2 (rtc T)
 vals : ∀ x ∈ T, RdS F x.2.1 1 (u8s x.2.2)
theorem RdT.le {F F' : PH} {s : Sl} {T : List Rt} (h : RdT F s T) (l : F.le F') : RdT F' s T := ⟨h.rd.le l, fun x hx => (h.vals x hx).le l⟩
theorem rtc_length (T : List Rt) : (rtc T).length = T.length * 2 := by
 induction T with
 | nil => rfl
 | cons b T ih => simp only [rtc, List.flatMap_cons, List.length_append, List.length_cons] at ih ⊢; rw [ih]; simp; omega
theorem RdT.len {F : PH} {s : Sl} {T : List Rt} (h : RdT F s T) : s.len = T.length := by have := h.rd.len; rw [rtc_length] at this; omega
theorem rtc_get : ∀ (T : List Rt) (i : Nat) (x : Rt), T[i]? = some x → ((rtc T).drop (i * 2)).take 2 = [.string x.1, x.2.1.v]
 | b :: T, 0, x, h => by cases h; simp [rtc]
 | b :: T, i + 1, x, h => by
  have e : (i + 1) * 2 = 2 + i * 2 := by omega
  have : rtc (b :: T) = [.string b.1, b.2.1.v] ++ rtc T := by simp [rtc]
  rw [this, e, ← List.drop_drop, List.drop_left' (by simp)]
  exact rtc_get T i x (by simpa using h)
theorem RdT.row {F : PH} {s : Sl} {T : List Rt} (h : RdT F s T) {i : Nat} {x : Rt} (hx : T[i]? = some x) : ∃ a : Addr, s.base = some a ∧ F.row (a.add (Int.toNat (i : Int) * 2)) #[.string x.1, x.2.1.v] := by
 have hi := (List.getElem?_eq_some_iff.1 hx).1
 have hl := h.len
 obtain ⟨b, o, hb, _⟩ := h.rd.cells (by omega)
 refine ⟨_, hb, ?_⟩
 rw [Int.toNat_natCast]
 exact h.rd.row hb (i * 2) #[.string x.1, x.2.1.v] (rtc_get T i x hx).symm
theorem st_two {a b : Value} (ha : storable a) (hb : storable b) : ∀ x ∈ (#[a, b] : Array Value).toList, storable x := by
 intro x hx
 simp at hx
 rcases hx with rfl | rfl
 ·exact ha
 ·exact hb
def be4 (n : Nat) : List Int := [IntKind.u8.wrap (Int.fdiv (n : Int) (2 ^ 24)), IntKind.u8.wrap (Int.fdiv (n : Int) (2 ^ 16)), IntKind.u8.wrap (Int.fdiv (n : Int) (2 ^ 8)), IntKind.u8.wrap (n : Int)]
def pay1 (r : Rc) : List Int := [IntKind.u8.wrap (r.1.size : Int)] ++ ib r.1 ++ be4 r.2.length ++ r.2
def payl (l : List Rc) : List Int := l.flatMap pay1
theorem pay1_len (r : Rc) : (pay1 r).length = r.1.size + r.2.length + 5 := by
 simp [pay1, be4, ib_len]
 omega
theorem payl_append (l m : List Rc) : payl (l ++ m) = payl l ++ payl m := by simp [payl]
theorem payl_take {T : List Rc} {k : Nat} {x : Rc} (hx : T[k]? = some x) : payl (T.take (k + 1)) = payl (T.take k) ++ pay1 x := by
 rw [List.take_add_one, hx, payl_append]
 simp [payl]
theorem payl_take_le (T : List Rc) (k : Nat) : (payl (T.take k)).length ≤ (payl T).length := by
 conv => rhs; rw [← List.take_append_drop k T, payl_append, List.length_append]
 omega
section
variable {F : PH}
theorem payload_spec {s : Sl} {T : List Rt} (hs : RdT F s T) (hbig : (payl (rcs T)).length ≤ 1000000000000) : Spec prog 52 #[s.v] F fun r F' => ∃ sl, r = Sl.v sl ∧ Ov 5 1 F F' sl (u8s (payl (rcs T))) := by
 have hlen := hs.len
 have hT : T.length ≤ (payl (rcs T)).length := by
  clear hs hbig hlen
  induction T with
  | nil => simp
  | cons x T ih =>
   have e : payl (rcs (x :: T)) = pay1 (x.1, x.2.2) ++ payl (rcs T) := by simp [payl, rcs]
   rw [e, List.length_append, pay1_len, List.length_cons]
   omega
 refine c52 ?_
 unfold b52
 refine ⟨fun m out i F' => ∃ (k : Nat) (G : PH), i = k ∧ k ≤ T.length ∧ m = T.length - k ∧ F.le G ∧ Ov 5 1 G F' out (u8s (payl ((rcs T).take k))), T.length, ⟨0, F, rfl, by omega, rfl, le_refl' F, Ov.nil F 5 1⟩, ?_⟩
 rintro _ out _ F1 ⟨k, G, rfl, hk, rfl, lG, hO⟩
 unfold b52L1
 refine ⟨fun hlt => ?_, fun hge => ?_⟩
 ·have hkT : k < T.length := by omega
  obtain ⟨x, hx⟩ : ∃ x, T[k]? = some x := ⟨_, List.getElem?_eq_getElem hkT⟩
  have hxr : (rcs T)[k]? = some (x.1, x.2.2) := by rw [rcs, List.getElem?_map, hx]; rfl
  have hv := hs.vals x (List.mem_of_getElem? hx)
  obtain ⟨a, ha, hr⟩ := (hs.le (le_trans' lG hO.le)).row hx
  have hl1 := hO.len
  rw [List.length_map, Nat.mul_one] at hl1
  have hl2 := payl_take_le (rcs T) (k + 1)
  rw [payl_take hxr, List.length_append, pay1_len] at hl2
  dsimp only at hl2
  have hvl := hv.len
  rw [List.length_map, Nat.mul_one] at hvl
  refine ⟨a, ha, by omega, by omega, _, rfl, hr, ?_⟩
  intro b5 h5
  refine atI ?_
  refine stW (set_eq _ _ _) rfl rfl (st_two st_str st_sl) ?_
  rw [set_twice]
  have hO1 := hO.newg h5 (.cells #[.string x.1, x.2.1.v] 41)
  have lG1 := le_trans' lG (hO.gle h5 (.cells #[.string x.1, x.2.1.v] 41))
  have q5 := set_eq G b5 (.cells #[.string x.1, x.2.1.v] 41)
  generalize G.set b5 (.cells #[.string x.1, x.2.1.v] 41) = G1 at *
  generalize F1.set b5 (.cells #[.string x.1, x.2.1.v] 41) = F2 at *
  refine ⟨x.1, by rw [cell_eq (hO1.le _ _ q5)]; rfl, ?_⟩
  intro b18 h18
  refine atI ?_
  have hO2 := hO1.newg h18 (.cells #[.int .u8 (IntKind.u8.wrap (x.1.size : Int))] 5)
  have lG2 := hO1.gle h18 (.cells #[.int .u8 (IntKind.u8.wrap (x.1.size : Int))] 5)
  have q18 := set_eq G1 b18 (.cells #[.int .u8 (IntKind.u8.wrap (x.1.size : Int))] 5)
  generalize G1.set b18 (.cells #[.int .u8 (IntKind.u8.wrap (x.1.size : Int))] 5) = G2 at *
  generalize F2.set b18 (.cells #[.int .u8 (IntKind.u8.wrap (x.1.size : Int))] 5) = F3 at *
  have q5' := lG2 _ _ q5
  refine hO2.app (x := ⟨some ⟨b18, 0, none⟩, 1, 1⟩) (news := u8s [IntKind.u8.wrap (x.1.size : Int)]) underlying39 sz5 zr5 rfl (by decide) (RdS.new (hO2.le _ _ q18) rfl rfl (Nat.le_refl _)) st_u8s (by simp only; omega) (by simp only; omega) ?_
  intro s1 F4 hO3
  have hl3 := hO3.len
  rw [List.length_append, List.length_map, List.length_map, Nat.mul_one, List.length_singleton] at hl3
  refine ⟨x.1, by rw [cell_eq (hO3.le _ _ q5')]; rfl, ?_⟩
  refine hO3.app_str underlying39 underlying9 sz5 zr5 rfl (by omega) (by omega) ?_
  intro s2 F5 hO4
  have hl4 := hO4.len
  rw [List.length_append, List.length_append, List.length_map, List.length_map, List.length_map, ib_len, Nat.mul_one, List.length_singleton] at hl4
  refine ⟨x.2.1, by rw [cell_eq (hO4.le _ _ q5')]; rfl, ?_⟩
  intro b39 h39
  refine atI ?_
  have hO5 := hO4.newg h39 (.cells (u8s (be4 x.2.1.len)).toArray 5)
  have lG3 := hO4.gle h39 (.cells (u8s (be4 x.2.1.len)).toArray 5)
  have q39 := set_eq G2 b39 (.cells (u8s (be4 x.2.1.len)).toArray 5)
  have ee : (#[.int .u8 (IntKind.u8.wrap (Int.fdiv (x.2.1.len : Int) (2 ^ (min (Int.toNat (24 : Int)) (IntKind.i64).bits)))), .int .u8 (IntKind.u8.wrap (Int.fdiv (x.2.1.len : Int) (2 ^ (min (Int.toNat (16 : Int)) (IntKind.i64).bits)))), .int .u8 (IntKind.u8.wrap (Int.fdiv (x.2.1.len : Int) (2 ^ (min (Int.toNat (8 : Int)) (IntKind.i64).bits)))), .int .u8 (IntKind.u8.wrap (x.2.1.len : Int))] : Array Value) = (u8s (be4 x.2.1.len)).toArray := rfl
  rw [ee]
  generalize G2.set b39 (.cells (u8s (be4 x.2.1.len)).toArray 5) = G3 at *
  generalize F5.set b39 (.cells (u8s (be4 x.2.1.len)).toArray 5) = F6 at *
  have q5'' := lG3 _ _ q5'
  refine hO5.app (x := ⟨some ⟨b39, 0, none⟩, 4, 4⟩) (news := u8s (be4 x.2.1.len)) underlying39 sz5 zr5 rfl (by decide) (RdS.new (hO5.le _ _ q39) rfl rfl (Nat.le_refl _)) st_u8s (by simp only; omega) (by simp only; omega) ?_
  intro s3 F7 hO6
  have hl6 := hO6.len
  rw [List.length_append, List.length_append, List.length_append, List.length_map, List.length_map, List.length_map, List.length_map, ib_len, Nat.mul_one, List.length_singleton, show (be4 x.2.1.len).length = 4 from rfl] at hl6
  refine ⟨x.2.1, by rw [cell_eq (hO6.le _ _ q5'')]; rfl, ?_⟩
  have lG4 : F.le G3 := le_trans' lG1 (le_trans' lG2 lG3)
  refine hO6.app (x := x.2.1) (news := u8s x.2.2) underlying39 sz5 zr5 rfl (by decide) (hv.le (le_trans' lG4 hO6.le)) st_u8s (by omega) (by omega) ?_
  intro s4 F8 hO7
  refine ⟨T.length - (k + 1), by omega, k + 1, G3, w64s (by omega), by omega, rfl, lG4, ?_⟩
  rw [payl_take hxr]
  have e2 : u8s (payl ((rcs T).take k) ++ pay1 (x.1, x.2.2)) = u8s (payl ((rcs T).take k)) ++ u8s [IntKind.u8.wrap (x.1.size : Int)] ++ strB x.1 ++ u8s (be4 x.2.1.len) ++ u8s x.2.2 := by
   simp only [u8s, pay1, List.map_append, List.append_assoc, strB]
   rw [← hvl]
  rw [e2]
  exact hO7
 ·obtain rfl : k = T.length := by omega
  unfold b52j1
  rw [List.take_of_length_le (by rw [rcs, List.length_map]; exact Nat.le_refl _)] at hO
  exact ⟨out, rfl, le_trans' lG hO.le, hO.own, fun a ha => le_none lG (hO.oz a ha)⟩
end
theorem beqB (a b : ByteArray) : (a == b) = decide (a = b) := by
 show (a.data == b.data) = _
 rw [Bool.eq_iff_iff, beq_iff_eq, decide_eq_true_eq]
 exact ⟨fun h => by cases a; cases b; cases h; rfl, fun h => by rw [h]⟩
theorem map_eraseIdx' {α β : Type} (f : α → β) : ∀ (l : List α) (i : Nat), (l.eraseIdx i).map f = (l.map f).eraseIdx i
 | [], _ => rfl
 | _ :: _, 0 => rfl
 | a :: l, i + 1 => by simp [map_eraseIdx' f l i]
theorem nodup_at {α : Type} {l : List α} (h : l.Nodup) {i j : Nat} {x : α} (hi : l[i]? = some x) (hj : l[j]? = some x) : i = j := by
 obtain ⟨h1, h2⟩ := List.getElem?_eq_some_iff.1 hi
 obtain ⟨h3, h4⟩ := List.getElem?_eq_some_iff.1 hj
 rcases Nat.lt_trichotomy i j with k | k | k
 ·exact absurd (h2.trans h4.symm) (List.pairwise_iff_getElem.1 h i j h1 h3 k)
 ·exact k
 ·exact absurd (h4.trans h2.symm) (List.pairwise_iff_getElem.1 h j i h3 h1 k)
theorem keyS : KeyTy prog 9 Value.string := by
 refine ⟨fun F a b => ?_, fun F e a => ?_, fun a => ?_, _, underlying9, .inl fun a b => ?_⟩
 ·unfold Op.equal Op.maxDepth
  show rdo prog (Op.equalIn (9999 + 1) 9 (.string a) (.string b)) F _
  unfold Op.equalIn
  simp only [rdo_bind]
  refine ⟨_, (rdo_underlying underlying9 _).2 rfl, ?_⟩
  exact beqB a b
 ·show rdo prog (Instr.checkKey e (9999 + 1) 9 (.string a)) F ()
  unfold Instr.checkKey
  simp only [rdo_bind]
  exact ⟨_, (rdo_underlying underlying9 _).2 rfl, rfl⟩
 ·show (a == a) = true
  rw [beqB]
  simp
 ·show some (a == b) = _
  rw [beqB]
theorem zr39' : tzero prog 39 = some (.slice none 0 0) := by kernel_rfl
theorem mtS : MapTy prog 82 Value.string (.slice none 0 0) := ⟨_, _, underlying82, zr39', keyS⟩
structure MapS (m : ByteArray → Option Value) (es : Array MapEntry) (c : Nat) (L : List (ByteArray × Value)) : Prop where
 eq : es.toList.map (fun e => (e.key, e.val)) = L.map (fun p => (Value.string p.1, p.2))
 lk : ∀ k, m k = lk k L
 st : MapKept.Stamped es c
def MapE (m : ByteArray → Option Value) (o : Obj) : Prop := ∃ es c L, o = .map es c ∧ MapS m es c L
theorem MapE.mapO {m : ByteArray → Option Value} {o : Obj} (h : MapE m o) : MapO Value.string m o := by
 obtain ⟨es, c, L, rfl, h⟩ := h
 exact ⟨es, c, L, rfl, h.eq, h.lk⟩
theorem MapE.empty : MapE (fun _ => none) (.map #[] 0) := ⟨#[], 0, [], rfl, rfl, fun _ => rfl, MapKept.stamped_empty 0⟩
theorem MapS.nodup {m : ByteArray → Option Value} {es : Array MapEntry} {c : Nat} {L : List (ByteArray × Value)} (h : MapS m es c L) : (L.map (·.1)).Nodup := by
 have h3 := h.st.2.2
 have e : es.toList.map (·.key) = (L.map (·.1)).map Value.string := by
  have := congrArg (List.map Prod.fst) h.eq
  simpa [List.map_map, Function.comp_def] using this
 rw [e] at h3
 exact (List.pairwise_map.1 h3).imp fun hne e => hne (by rw [e])
theorem MapS.len {m : ByteArray → Option Value} {es : Array MapEntry} {c : Nat} {L : List (ByteArray × Value)} (h : MapS m es c L) : es.size = L.length := by simpa using congrArg List.length h.eq
theorem fnd_none' {K : Type} [DecidableEq K] (k : K) : ∀ (L : List (K × Value)) (i : Nat), fnd k L i = none → ∀ p ∈ L, p.1 ≠ k
 | [], _, _, p, hp => by simp at hp
 | q :: r, i, h, p, hp => by
  unfold fnd at h
  by_cases e : k = q.1
  ·rw [if_pos e] at h
   cases h
  ·rw [if_neg e] at h
   rcases List.mem_cons.1 hp with rfl | hp
   ·exact fun e' => e e'.symm
   ·exact fnd_none' k r (i + 1) h p hp
theorem lk_none {K : Type} [DecidableEq K] (k : K) : ∀ (L : List (K × Value)), (∀ p ∈ L, p.1 ≠ k) → lk k L = none
 | [], _ => rfl
 | q :: r, h => by
  unfold lk
  rw [if_neg (fun e => h q (by simp) e.symm)]
  exact lk_none k r fun p hp => h p (by simp [hp])
theorem lk_mem {K : Type} [DecidableEq K] {k : K} {v : Value} : ∀ {L : List (K × Value)}, (L.map (·.1)).Nodup → (lk k L = some v ↔ (k, v) ∈ L)
 | [], _ => by simp [lk]
 | q :: r, h => by
  rw [List.map_cons, List.nodup_cons] at h
  unfold lk
  by_cases e : k = q.1
  ·subst e
   rw [if_pos rfl]
   constructor
   ·intro h'
    cases h'
    simp
   ·intro h'
    rcases List.mem_cons.1 h' with h' | h'
    ·rw [← h']
    ·exact absurd (List.mem_map.2 ⟨_, h', rfl⟩) h.1
  ·rw [if_neg e, lk_mem h.2, List.mem_cons]
   constructor
   ·exact .inr
   ·rintro (h' | h')
    ·rw [← h'] at e
     exact absurd rfl e
    ·exact h'
theorem lk_erase {K : Type} [DecidableEq K] {k : K} {v : Value} {L : List (K × Value)} {j : Nat} (hn : (L.map (·.1)).Nodup) (hj : L[j]? = some (k, v)) (k' : K) : lk k' (L.eraseIdx j) = if k' = k then none else lk k' L := by
 have hj' := List.getElem?_eq_some_iff.1 hj
 have hn2 : ((L.eraseIdx j).map (·.1)).Nodup := by
  rw [map_eraseIdx']
  exact hn.sublist (List.eraseIdx_sublist _ _)
 by_cases e : k' = k
 ·rw [if_pos e]
  subst e
  refine lk_none _ _ fun p hp hpk => ?_
  obtain ⟨i, hi, hij⟩ := List.mem_eraseIdx_iff_getElem?.1 hp
  have h1 : (L.map (·.1))[i]? = some k' := by rw [List.getElem?_map, hij]; simp [hpk]
  have h2 : (L.map (·.1))[j]? = some k' := by rw [List.getElem?_map, hj]; rfl
  exact hi (nodup_at hn h1 h2)
 ·rw [if_neg e]
  cases hl : lk k' L with
  | none =>
   cases hl2 : lk k' (L.eraseIdx j) with
   | none => rfl
   | some w =>
    have := (lk_mem hn).2 (List.mem_of_mem_eraseIdx ((lk_mem hn2).1 hl2))
    rw [hl] at this
    cases this
  | some w =>
   refine (lk_mem hn2).2 (List.mem_eraseIdx_iff_getElem?.2 ?_)
   obtain ⟨i, hi⟩ := List.mem_iff_getElem?.1 ((lk_mem hn).1 hl)
   refine ⟨i, fun eij => ?_, hi⟩
   subst eij
   rw [hj] at hi
   cases hi
   exact e rfl
section
variable {F : PH} {r : Nat} {m : ByteArray → Option Value}
theorem runs_upd {o : Obj} (hr : F r = some o) (ho : MapE m o) (k : ByteArray) (v : Value) {Q : Unit → PH → Prop}
  (h : ∀ o', MapE (fun k' => if k' = k then some v else m k') o' → Q () (F.set r o')) : runs prog (Instr.mapUpdate 82 (.map (some r)) (.string k) v) F Q := by
 have hnc := ho.mapO.not_cells
 obtain ⟨es, c, L, rfl, hm⟩ := ho
 have h3 := hm.eq
 have hf := fnd_some k v L 0
 have hn := fnd_none k v L 0
 unfold Instr.mapUpdate
 simp only [runs_bind', runs_underlying underlying82]
 refine ⟨_, hr, hnc, ?_⟩
 rw [show (Sem.pure (Obj.map es c) : Sem Obj) = pure (Obj.map es c) from rfl]
 simp only [runs_pure, runs_bind']
 refine rdo_runs _ _ _ _ (keyS.chk F _ k) ?_
 refine rdo_runs _ _ _ _ (rdo_findKey keyS k _ _ h3) ?_
 have hmm : ∀ k', (if k' = k then some v else m k') = lk k' (upL k v L) := fun k' => by rw [lk_upL, hm.lk]
 cases hfd : fnd k L 0 with
 | none =>
  refine ⟨_, hr, hnc, h _ ⟨_, _, upL k v L, rfl, ?_, hmm, MapKept.stamped_push hm.st fun x hx => ?_⟩⟩
  ·rw [(hn hfd).2]
   simp [h3]
  ·have hx' : (x.key, x.val) ∈ L.map (fun p => (Value.string p.1, p.2)) := by rw [← h3]; exact List.mem_map.2 ⟨x, hx, rfl⟩
   obtain ⟨p, hp, e⟩ := List.mem_map.1 hx'
   injection e with e1 e2
   rw [← e1]
   exact fun e' => fnd_none' k L 0 hfd p hp (by injection e')
 | some q =>
  obtain ⟨j, w⟩ := q
  obtain ⟨d, hj, hd, h5, h6, h7⟩ := hf j w hfd
  obtain rfl : j = d := by omega
  have hlen := hm.len
  have hjk : ∀ e ∈ es.toList, es[j]? = some e → Value.string k = e.key := fun e _ he => by
   have := congrArg (fun l => l[j]?) h3
   simp only [List.getElem?_map, h5, Option.map_some, Array.getElem?_toList, he] at this
   injection this with this
   injection this with this _
   exact this.symm
  have hkey : (es[j]?.map (·.key)).getD (Value.string k) = Value.string k := by
   have := congrArg (fun l => l[j]?) h3
   simp only [List.getElem?_map, h5, Option.map_some] at this
   have hj2 : j < es.size := by omega
   simp [hj2] at this ⊢
   exact this.1
  simp only [runs_bind', hkey, Instr.keyThatStays, keyS.same, if_true, runs_pure]
  refine ⟨_, hr, hnc, h _ ⟨_, _, upL k v L, rfl, ?_, hmm, MapKept.stamped_modify hm.st j _ (fun _ _ => rfl) (fun e he1 he2 => hjk e he1 he2)⟩⟩
  rw [h7]
  apply List.ext_getElem?
  intro i
  have h3i := congrArg (fun l => l[i]?) h3
  simp only [List.getElem?_map] at h3i
  simp only [Array.toList_modify, List.getElem?_map, List.getElem?_modify, List.getElem?_set]
  by_cases hi : j = i
  ·subst hi
   have hj2 : j < es.toList.length := by simpa [hlen] using hd
   rw [List.getElem?_eq_getElem hj2]
   simp [hd]
  ·simp only [hi, if_false]
   simpa using h3i
theorem runs_del {o : Obj} (hr : F r = some o) (ho : MapE m o) (k : ByteArray) {ty : TypeId} {Q : Value → PH → Prop}
  (h : ∀ o', MapE (fun k' => if k' = k then none else m k') o' → Q (.tuple #[]) (F.set r o')) : runs prog (Builtin.delete_ #[82, 9] ty #[.map (some r), .string k]) F Q := by
 have hnc := ho.mapO.not_cells
 obtain ⟨es, c, L, rfl, hm⟩ := ho
 have h3 := hm.eq
 have hf := fun v => fnd_some k v L 0
 unfold Builtin.delete_
 simp only [List.getElem?_toArray, List.getElem?_cons_zero, List.getElem?_cons_succ, runs_bind', runs_underlying underlying82]
 refine ⟨_, hr, hnc, ?_⟩
 rw [show (Sem.pure (Obj.map es c) : Sem Obj) = pure (Obj.map es c) from rfl]
 simp only [runs_pure, runs_bind']
 refine rdo_runs _ _ _ _ (keyS.chk F _ k) ?_
 refine rdo_runs _ _ _ _ (rdo_findKey keyS k _ _ h3) ?_
 cases hfd : fnd k L 0 with
 | none =>
  simp only [runs_bind']
  refine ⟨_, hr, hnc, h _ ⟨es, c, L, rfl, h3, fun k' => ?_, hm.st⟩⟩
  by_cases e : k' = k
  ·rw [if_pos e, e, lk_none _ _ (fnd_none' k L 0 hfd)]
  ·rw [if_neg e, hm.lk]
 | some q =>
  obtain ⟨j, w⟩ := q
  obtain ⟨d, hj, hd, h5, h6, _⟩ := hf w j w hfd
  obtain rfl : j = d := by omega
  simp only [runs_bind']
  refine ⟨_, hr, hnc, h _ ⟨es.eraseIdxIfInBounds j, c, L.eraseIdx j, rfl, ?_, fun k' => ?_, MapKept.stamped_erase hm.st j⟩⟩
  ·have hj2 : j < es.size := by rw [hm.len]; exact hd
   unfold Array.eraseIdxIfInBounds
   rw [dif_pos hj2, Array.toList_eraseIdx, map_eraseIdx', h3, map_eraseIdx']
  ·rw [lk_erase hm.nodup h5, hm.lk]
theorem rdo_lenMap {o : Obj} (hr : F r = some o) {es : Array MapEntry} {c : Nat} (ho : o = .map es c) {ty : TypeId} : rdo prog (Builtin.len_ #[82] ty #[.map (some r)]) F (.int .i64 es.size) := by
 subst ho
 unfold Builtin.len_
 simp only [List.getElem?_toArray, List.getElem?_cons_zero, rdo_bind]
 refine ⟨_, (rdo_underlying underlying82 _).2 rfl, ?_⟩
 simp only [rdo_bind]
 exact ⟨_, ⟨_, hr, fun _ _ _ h => (by cases h), rfl⟩, rfl⟩
theorem runs_range {es : Array MapEntry} {c : Nat} (hr : F r = some (.map es c)) {Q : Value → PH → Prop} (h : ∀ b, F b = none → Q (.pointer (some ⟨b, 0, none⟩)) (F.set b (.mapIter (some r) c #[] c))) : runs prog (Instr.range 82 (.map (some r))) F Q := by
 unfold Instr.range
 simp only [runs_bind', runs_underlying underlying82]
 refine ⟨_, hr, fun _ _ _ h => (by cases h), ?_⟩
 rw [show (Sem.pure (Obj.map es c) : Sem Obj) = pure (Obj.map es c) from rfl]
 simp only [runs_pure, runs_bind', newObj, runs]
 exact h
theorem runs_choose_next {n : Nat} (hn : 0 < n) {F : PH} {Q : Nat → PH → Prop} (h : ∀ i, i < n → Q i F) : runs prog (choose (.mapNext n)) F Q := by
 unfold choose
 unfold runs
 by_cases hf : (Question.mapNext n).forced = true
 ·rw [if_pos hf]
  exact h 0 hn
 ·rw [if_neg hf]
  intro t
  exact h (t % n) (Nat.mod_lt _ hn)
theorem runs_nextM {es : Array MapEntry} {c b : Nat} {seen : Array Nat} {ty : TypeId} (hr : F r = some (.map es c)) (hst : MapKept.Stamped es c) (hb : F b = some (.mapIter (some r) c seen c)) {Q : Value → PH → Prop}
  (h0 : (∀ e ∈ es.toList, seen.contains e.born = true) → Q (.tuple #[.bool false]) F)
  (h1 : ∀ e ∈ es.toList, seen.contains e.born = false → Q (.tuple #[.bool true, e.key, e.val]) (F.set b (.mapIter (some r) c (seen.push e.born) c))) :
  runs prog (Instr.next (.pointer (some ⟨b, 0, none⟩)) false ty) F Q := by
 unfold Instr.next
 simp only [runs_bind']
 refine ⟨_, hb, fun _ _ _ h => (by cases h), ?_⟩
 rw [show (Sem.pure (Obj.mapIter (some r) c seen c) : Sem Obj) = pure (Obj.mapIter (some r) c seen c) from rfl]
 simp only [runs_pure, runs_bind']
 refine ⟨_, hr, fun _ _ _ h => (by cases h), ?_⟩
 rw [show (Sem.pure (Obj.map es c) : Sem Obj) = pure (Obj.map es c) from rfl]
 simp only [runs_pure, runs_bind']
 have hall : (es.all fun e => decide (e.born ≥ c)) = false ∨ es.isEmpty = true := by
  by_cases he : es.isEmpty = true
  ·exact .inr he
  ·left
   rw [Bool.eq_false_iff]
   intro hc
   rw [Array.all_eq_true'] at hc
   have hne : es.toList ≠ [] := fun e => he (by rw [Array.isEmpty_iff]; exact Array.toList_eq_nil_iff.1 e)
   obtain ⟨x, hx⟩ := List.exists_mem_of_ne_nil _ hne
   have h2 := hst.1 x hx
   have h3 := hc x (Array.mem_def.2 hx)
   simp at h3
   omega
 have hif : (!seen.isEmpty && !es.isEmpty && es.all fun e => decide (e.born ≥ c)) = false := by
  rcases hall with h | h <;> simp [h]
 rw [hif]
 simp only [Bool.false_eq_true, if_false, runs_bind', runs_pure]
 refine runs_choose_next (by
  rw [Array.size_append]
  by_cases ho : ((es.filter fun e => !seen.contains e.born).filter fun x => decide (x.born < c)).isEmpty = true
  ·rw [if_pos ho]
   exact Nat.lt_of_lt_of_le Nat.zero_lt_one (Nat.le_add_right _ _)
  ·rw [if_neg ho]
   have : 0 < ((es.filter fun e => !seen.contains e.born).filter fun x => decide (x.born < c)).size := by
    rcases Nat.eq_zero_or_pos ((es.filter fun e => !seen.contains e.born).filter fun x => decide (x.born < c)).size with h | h
    ·exact absurd (by simpa [Array.isEmpty] using h) ho
    ·exact h
   rw [Array.size_map, Array.size_append]
   omega) fun i hi => ?_
 rw [Array.getElem?_eq_getElem hi]
 have hmem := Array.getElem_mem hi
 revert hmem
 generalize ((if ((es.filter fun e => !seen.contains e.born).filter fun x => decide (x.born < c)).isEmpty = true then #[none] else #[]) ++ Array.map some ((es.filter fun e => !seen.contains e.born).filter (fun x => decide (x.born < c)) ++ (es.filter fun e => !seen.contains e.born).filter fun x => decide (x.born ≥ c)))[i] = y
 intro hmem
 rw [Array.mem_append] at hmem
 cases y with
 | none =>
  simp only [runs_pure]
  refine h0 fun e he => ?_
  have h3 := hst.1 e he
  rcases hmem with hmem | hmem
  ·by_cases ho : ((es.filter fun e => !seen.contains e.born).filter fun x => decide (x.born < c)).isEmpty = true
   ·cases hs : seen.contains e.born with
    | true => rfl
    | false =>
     exfalso
     have hin : e ∈ (es.filter fun e => !seen.contains e.born).filter fun x => decide (x.born < c) := by
      rw [Array.mem_filter, Array.mem_filter]
      exact ⟨⟨Array.mem_def.2 he, by rw [hs]; rfl⟩, by simpa using h3⟩
     rw [Array.isEmpty_iff] at ho
     rw [ho] at hin
     exact absurd hin (by simp)
   ·rw [if_neg ho] at hmem
    exact absurd hmem (by simp)
  ·rw [Array.mem_map] at hmem
   obtain ⟨_, _, h⟩ := hmem
   cases h
 | some e =>
  have hin : e ∈ es ∧ seen.contains e.born = false := by
   rcases hmem with hmem | hmem
   ·split at hmem
    ·simp at hmem
    ·simp at hmem
   ·rw [Array.mem_map] at hmem
    obtain ⟨e', he', h⟩ := hmem
    injection h with h
    subst h
    simp only [Array.mem_append, Array.mem_filter] at he'
    rcases he' with h | h
    ·exact ⟨h.1.1, by simpa using h.1.2⟩
    ·exact ⟨h.1.1, by simpa using h.1.2⟩
  simp only [runs_bind', runs_pure]
  refine ⟨_, hb, fun _ _ _ h => (by cases h), h1 e (Array.mem_def.1 hin.1) hin.2⟩
end
end Go.Proofs.Ytelkfnmdnbbniaa
