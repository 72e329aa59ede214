/-
  The disk: small functions (filled, Same, Clone) and helpers on lists of cells.
-/
import Derived.Test.YthnolhcknhhipaaPhg
import Derived.Test.YthnolhcknhhipaaGa
import Derived.Test.YthnolhcknhhipaaGb
namespace Go.Proofs.Ythnolhcknhhipaa
open Go Go.Proofs.Try

/-! storing -/
theorem st1 {F : PH} {b o : Nat} {v : Value} {c : Array Value} {e : TypeId} {K : PH → Prop} (h : F b = some (.cells c e (0, 0))) (hl : o < c.size) (k : K (F.set b (.cells (c.setIfInBounds o v) e))) :
    ∃ c e, F (Addr.mk b o none).block = some (.cells c e (0, 0)) ∧ (Addr.mk b o none).spot = none ∧ (Addr.mk b o none).off < c.size ∧
      atF (F.set (Addr.mk b o none).block (.cells (c.setIfInBounds (Addr.mk b o none).off v) e)) K := ⟨c, e, h, rfl, hl, k⟩
theorem st1' {F : PH} {A : Addr} {b o : Nat} {v : Value} {c : Array Value} {e : TypeId} {K : PH → Prop} (hA : A = ⟨b, o, none⟩) (h : F b = some (.cells c e (0, 0))) (hl : o < c.size) (k : K (F.set b (.cells (c.setIfInBounds o v) e))) :
    ∃ c e, F A.block = some (.cells c e (0, 0)) ∧ A.spot = none ∧ A.off < c.size ∧ atF (F.set A.block (.cells (c.setIfInBounds A.off v) e)) K := by
  subst hA; exact st1 h hl k
theorem wr_whole {c d : Array Value} (h : c.size = d.size) : wr c 0 d.toList = d := by
  apply Array.ext
  · rw [wr_size, h]
  · intro i h1 h2
    have := wr_get d.toList c 0 i (by simp [h])
    rw [if_pos (by simp; omega)] at this
    simp only [Nat.sub_zero] at this
    rw [Array.getElem?_eq_getElem h1] at this
    simp at this
    rw [Array.getElem?_eq_getElem h2] at this
    exact Option.some.inj this
/-- A whole variable is stored. -/
theorem stW {F : PH} {b n : Nat} {v c : Array Value} {e : TypeId} {K : PH → Prop} (h : F b = some (.cells c e (0, 0))) (hs : v.size = n) (hc : c.size = n) (hst : ∀ x ∈ v.toList, storable x) (k : K (F.set b (.cells v e))) :
    v.size = n ∧ (∀ x ∈ v.toList, storable x) ∧ ∃ c e, F (Addr.mk b 0 none).block = some (.cells c e (0, 0)) ∧ (Addr.mk b 0 none).spot = none ∧ (Addr.mk b 0 none).off + n ≤ c.size ∧
      atF (F.set (Addr.mk b 0 none).block (.cells (wr c (Addr.mk b 0 none).off v.toList) e)) K :=
  ⟨hs, hst, c, e, h, rfl, by simp [hc], by
    unfold atF
    rw [show (Addr.mk b 0 none).off = 0 from rfl, wr_whole (by rw [hc, hs])]
    exact k⟩

/-! lists of bytes and numbers -/
abbrev u8s (l : List Int) : List Value := l.map (Value.int .u8)
abbrev i64s (l : List Int) : List Value := l.map (Value.int .i64)
theorem st_u8s {l : List Int} : ∀ v ∈ u8s l, storable v := by
  intro v hv
  obtain ⟨x, _, rfl⟩ := List.mem_map.1 hv
  exact st_int
theorem st_i64s {l : List Int} : ∀ v ∈ i64s l, storable v := by
  intro v hv
  obtain ⟨x, _, rfl⟩ := List.mem_map.1 hv
  exact st_int
theorem zc1 (v : Value) (h : v.cells = #[v]) (n : Nat) : Builtin.zeroCells v.cells n = (List.replicate n v).toArray := by
  rw [zc_flat _ (by rw [h]; rfl), h]
  congr 1
  induction n with
  | zero => rfl
  | succ n ih => simp [List.replicate_succ, ih]
theorem w64n {n : Nat} (h : n ≤ 9223372036854775807) : IntKind.i64.wrap (n : Int) = n := w64_eq (by omega) (by omega)
theorem w64s {n : Nat} (h : n < 9223372036854775807) : IntKind.i64.wrap ((n : Int) + 1) = ((n + 1 : Nat) : Int) := by rw [w64_eq (by omega) (by omega)]; omega
theorem RdS.byte {F : PH} {s : Sl} {l : List Int} {k : IntKind} (h : RdS F s 1 (l.map (Value.int k))) {i : Nat} (hi : i < l.length) : ∃ a, s.base = some a ∧ F.cell (a.add (Int.toNat (i : Int) * 1)) = some (.int k l[i]) := by
  have hl := h.len
  simp at hl
  obtain ⟨b, o, h1, h2⟩ := h.cells (by omega)
  refine ⟨_, h1, ?_⟩
  have := h2 i (by simpa using hi)
  simpa using this

/-! filled -/
theorem filled_spec (b : Int) (F : PH) : Spec prog 15 #[.int .u8 b] F fun v F' => ∃ g, F g = none ∧ v = Sl.v ⟨some ⟨g, 0, none⟩, 64, 64⟩ ∧ F' = F.set g (.cells (u8s (List.replicate 64 b)).toArray 5) := by
  refine c15 ?_
  unfold b15
  refine runs_makeSlice underlying26 sz5 zr5 rfl (by decide) (by decide) (by decide) (by decide) ?_
  intro g hg
  refine ⟨_, rfl, ?_⟩
  rw [zc1 _ rfl]
  refine ⟨fun m i F' => ∃ k : Nat, i = k ∧ k ≤ 64 ∧ m = 64 - k ∧ F' = F.set g (.cells (u8s (List.replicate k b ++ List.replicate (64 - k) 0)).toArray 5), 64, ⟨0, rfl, by omega, rfl, by simp⟩, ?_⟩
  rintro m i F' ⟨k, rfl, hk, rfl, rfl⟩
  unfold b15L1
  refine ⟨fun hlt => ?_, fun hge => ?_⟩
  · refine ⟨_, rfl, by omega, by simpa using hlt, ?_⟩
    refine st1' (b := g) (o := k) (by simp) (set_eq _ _ _) (by simp; omega) ?_
    refine ⟨64 - (k + 1), by omega, k + 1, w64s (by omega), by omega, rfl, ?_⟩
    rw [set_twice]
    congr 2
    apply Array.ext'
    have hk' : k < 64 := by omega
    have e : 64 - k = (64 - (k + 1)) + 1 := by omega
    simp only [List.setIfInBounds_toArray]
    rw [e, List.replicate_succ, show List.replicate (k + 1) b = List.replicate k b ++ [b] by rw [← List.replicate_succ']]
    simp only [u8s, List.map_append, List.map_cons, List.map_nil, List.append_assoc, List.cons_append, List.nil_append]
    rw [List.set_append_right _ _ (by simp)]
    simp
  · obtain rfl : k = 64 := by omega
    exact ⟨g, hg, rfl, by simp⟩

/-! Same -/
theorem same_spec {F : PH} {a b : Sl} {x y : List Int} (ha : RdS F a 1 (u8s x)) (hb : RdS F b 1 (u8s y)) (hl : x.length < 9223372036854775807) :
    Spec prog 18 #[a.v, b.v] F fun v F' => v = .bool (decide (x = y)) ∧ F' = F := by
  have hal := ha.len
  have hbl := hb.len
  simp at hal hbl
  refine c18 ?_
  unfold b18
  refine ⟨fun h => ?_, fun h => ?_⟩
  · refine ⟨?_, rfl⟩
    have : ¬ x = y := by intro e; subst e; omega
    simp [this]
  · have hlen : x.length = y.length := by omega
    refine ⟨fun m i F' => ∃ k : Nat, i = k ∧ k ≤ x.length ∧ m = x.length - k ∧ F' = F ∧ x.take k = y.take k, x.length, ⟨0, rfl, by omega, rfl, rfl, rfl⟩, ?_⟩
    rintro m i F' ⟨k, rfl, hk, rfl, rfl, htake⟩
    unfold b18L1
    refine ⟨fun hlt => ?_, fun hge => ?_⟩
    · have hkx : k < x.length := by omega
      have hky : k < y.length := by omega
      obtain ⟨p, hp, hpc⟩ := ha.byte hkx
      obtain ⟨q, hq, hqc⟩ := hb.byte hky
      refine ⟨p, hp, by omega, hlt, _, hpc, q, hq, by omega, by omega, _, hqc, fun hne => ?_, fun heq => ?_⟩
      · refine ⟨?_, rfl⟩
        have : ¬ x = y := by rintro rfl; exact hne rfl
        simp [this]
      · refine ⟨x.length - (k + 1), by omega, k + 1, w64s (by omega), by omega, rfl, rfl, ?_⟩
        rw [List.take_succ_eq_append_getElem hkx, List.take_succ_eq_append_getElem hky, htake]
        simp at heq
        rw [heq]
    · refine ⟨?_, rfl⟩
      have hk' : k = x.length := by omega
      rw [hk', List.take_length, hlen, List.take_length] at htake
      simp [htake]
end Go.Proofs.Ythnolhcknhhipaa
