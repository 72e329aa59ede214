/-
  A program logic over partial heaps: the user's kit, second part: stores into whole variables, rows that are owned, appending to them.
-/
import Derived.Test.YtnjcgpihfmklfaaDoorPhg
import Derived.Test.YtnjcgpihfmklfaaDoorPhm
namespace Go.Proofs.YtnjcgpihfmklfaaDoor
open Go
theorem st1 {F : PH} {b o : Nat} {v : Value} {c : Array Value} {e : TypeId} {K : PH → Prop} (h : F b = some (.cells c e (0, 0))) (hl : o < c.size) (k : K (F.set b (.cells (c.setIfInBounds o v) e))) :
  ∃ c e, F (Addr.mk b o none).block = some (.cells c e (0, 0)) ∧ (Addr.mk b o none).spot = none ∧ (Addr.mk b o none).off < c.size ∧
   atF (F.set (Addr.mk b o none).block (.cells (c.setIfInBounds (Addr.mk b o none).off v) e)) K := ⟨c, e, h, rfl, hl, k⟩
theorem st1' {F : PH} {A : Addr} {b o : Nat} {v : Value} {c : Array Value} {e : TypeId} {K : PH → Prop} (hA : A = ⟨b, o, none⟩) (h : F b = some (.cells c e (0, 0))) (hl : o < c.size) (k : K (F.set b (.cells (c.setIfInBounds o v) e))) :
  ∃ c e, F A.block = some (.cells c e (0, 0)) ∧ A.spot = none ∧ A.off < c.size ∧ atF (F.set A.block (.cells (c.setIfInBounds A.off v) e)) K := by
 subst hA; exact st1 h hl k
theorem wr_whole {c d : Array Value} (h : c.size = d.size) : wr c 0 d.toList = d := by
 apply Array.ext
 ·rw [wr_size, h]
 ·intro i h1 h2
  have := wr_get d.toList c 0 i (by simp [h])
  rw [if_pos (by simp; omega)] at this
  simp only [Nat.sub_zero] at this
  rw [Array.getElem?_eq_getElem h1] at this
  simp at this
  rw [Array.getElem?_eq_getElem h2] at this
  exact Option.some.inj this
theorem stW {F : PH} {b n : Nat} {v c : Array Value} {e : TypeId} {K : PH → Prop} (h : F b = some (.cells c e (0, 0))) (hs : v.size = n) (hc : c.size = n) (hst : ∀ x ∈ v.toList, storable x) (k : K (F.set b (.cells v e))) :
  v.size = n ∧ (∀ x ∈ v.toList, storable x) ∧ ∃ c e, F (Addr.mk b 0 none).block = some (.cells c e (0, 0)) ∧ (Addr.mk b 0 none).spot = none ∧ (Addr.mk b 0 none).off + n ≤ c.size ∧
   atF (F.set (Addr.mk b 0 none).block (.cells (wr c (Addr.mk b 0 none).off v.toList) e)) K :=
 ⟨hs, hst, c, e, h, rfl, by simp [hc], by
  unfold atF
  rw [show (Addr.mk b 0 none).off = 0 from rfl, wr_whole (by rw [hc, hs])]
  exact k⟩
theorem zc1 (v : Value) (h : v.cells = #[v]) (n : Nat) : Builtin.zeroCells v.cells n = (List.replicate n v).toArray := by
 rw [zc_flat _ (by rw [h]; rfl), h]
 congr 1
 induction n with
 | zero => rfl
 | succ n ih => simp [List.replicate_succ, ih]
theorem w64n {n : Nat} (h : n ≤ 9223372036854775807) : IntKind.i64.wrap (n : Int) = n := w64_eq (by omega) (by omega)
theorem w64s {n : Nat} (h : n < 9223372036854775807) : IntKind.i64.wrap ((n : Int) + 1) = ((n + 1 : Nat) : Int) := by rw [w64_eq (by omega) (by omega)]; omega
theorem wr_list (vs : List Value) : ∀ (c : List Value) (o : Nat), o + vs.length ≤ c.length → wr c.toArray o vs = (c.take o ++ vs ++ c.drop (o + vs.length)).toArray := by
 intro c o h
 apply Array.ext
 ·rw [wr_size]; simp; omega
 ·intro i h1 h2
  have := wr_get vs c.toArray o i (by simpa using h)
  rw [Array.getElem?_eq_getElem h1] at this
  rw [wr_size] at h1
  simp only [List.size_toArray] at h1
  have h3 : (c.take o ++ vs ++ c.drop (o + vs.length)).toArray[i] = (c.take o ++ vs ++ c.drop (o + vs.length))[i]'(by simpa using h2) := by simp
  rw [h3]
  apply Option.some.inj
  rw [← List.getElem?_eq_getElem, this]
  by_cases hi : i < o
  ·rw [if_neg (by omega), List.append_assoc, List.getElem?_append_left (by simp; omega)]
   simp [hi]
  ·by_cases hj : i < o + vs.length
   ·rw [if_pos ⟨by omega, hj⟩, List.getElem?_append_left (by simp; omega), List.getElem?_append_right (by simp; omega)]
    simp
    congr 1
    omega
   ·rw [if_neg (by omega), List.getElem?_append_right (by simp; omega)]
    simp
    congr 1
    omega
def OwnS (F : PH) (e size : Nat) (s : Sl) (vs : List Value) : Prop :=
 (s = Sl.nil ∧ vs = []) ∨ ∃ b cur, s.base = some ⟨b, 0, none⟩ ∧ F b = some (.cells cur e (0, 0)) ∧ cur.size = s.cap * size ∧ s.len ≤ s.cap ∧ vs.length = s.len * size ∧ cur.toList.take (s.len * size) = vs
theorem OwnS.rd {F : PH} {e size : Nat} {s : Sl} {vs : List Value} (h : OwnS F e size s vs) : RdS F s size vs := by
 rcases h with ⟨rfl, rfl⟩ | ⟨b, cur, h1, h2, h3, h4, h5, h6⟩
 ·exact RdS.nil F size
 ·obtain ⟨base, len, cap⟩ := s
  cases h1
  exact RdS.new h2 h6 h5 h4
theorem OwnS.keep {F G : PH} {e size : Nat} {s : Sl} {vs : List Value} (h : OwnS F e size s vs) (hk : ∀ a, s.base = some a → G a.block = F a.block) : OwnS G e size s vs := by
 rcases h with h | ⟨b, cur, h1, h2, h3⟩
 ·exact .inl h
 ·exact .inr ⟨b, cur, h1, (hk _ h1).trans h2, h3⟩
theorem own_append {F : PH} {s x : Sl} {t e size bytes ty : Nat} {z : Value} {P : Program} {olds news : List Value} {Q : Value → PH → Prop} (ht : P.underlying t = some (.slice e)) (hsz : tsz P e = some (size, bytes)) (hz : tzero P e = some z) (hzs : z.cells.size = size) (hs0 : 0 < size)
  (ho : OwnS F e size s olds) (hn : RdS F x size news) (hx : 0 < x.len) (hst : ∀ v ∈ news, storable v) (hfit : (s.len + x.len) * bytes ≤ 140737488355328) (hlen : s.len + x.len ≤ 9223372036854775807)
  (h : ∀ s' F' b o, F' = F.set b o → OwnS F' e size s' (olds ++ news) → s'.len = s.len + x.len → (∀ a, s'.base = some a → a.block = b) → ((∃ a, s.base = some a ∧ a.block = b) ∨ F b = none) → Q s'.v F') :
  runs P (Builtin.append_ #[t, t] ty #[s.v, x.v]) F Q := by
 have hpos : 0 < x.len * size := Nat.mul_pos hx hs0
 have hol := ho.rd.len
 refine runs_append ht hsz hz hzs ho.rd hn hst hfit hlen (fun h0 => by omega) ?_ ?_
 ·intro _ hroom
  rcases ho with ⟨rfl, rfl⟩ | ⟨b, cur, h1, h2, h3, h4, h5, h6⟩
  ·simp [Sl.nil] at hroom; omega
  ·have hle : s.len * size + x.len * size ≤ cur.size := by rw [h3, ← Nat.add_mul]; exact Nat.mul_le_mul_right _ hroom
   refine ⟨b, 0, cur, e, h1, h2, by omega, ?_⟩
   refine h ⟨_, _, _⟩ _ b _ rfl (.inr ⟨b, _, h1, set_eq _ _ _, by rw [wr_size, h3], hroom, by simp [h5, hn.len, Nat.add_mul], ?_⟩) rfl (fun a ha => by rw [h1] at ha; cases ha; rfl) (.inl ⟨_, h1, rfl⟩)
   simp only [Nat.zero_add]
   have hw := wr_list news cur.toList (s.len * size) (by simp [hn.len]; omega)
   rw [show cur.toList.toArray = cur by simp] at hw
   rw [hw]
   simp only
   rw [h6, Nat.add_mul]
   rw [List.take_append_of_le_length (by simp [h5, hn.len]), List.take_of_length_le (by simp [h5, hn.len])]
 ·intro hgt cap b hc hb
  refine h ⟨_, _, _⟩ _ b _ rfl (.inr ⟨b, _, rfl, set_eq _ _ _, ?_, hc, by simp [hol, hn.len, Nat.add_mul], ?_⟩) rfl (fun a ha => by cases ha; rfl) (.inr hb)
  ·simp [Builtin.zeroCells, hzs, hol, hn.len]
   rw [← Nat.add_mul, ← Nat.add_mul]
   congr 1
   omega
  ·simp only [List.append_toArray, Array.toList_append]
   rw [List.take_append_of_le_length (by simp [hol, hn.len, Nat.add_mul]), List.take_of_length_le (by simp [hol, hn.len, Nat.add_mul])]
theorem own_append0 {F : PH} {s x : Sl} {t e size bytes ty : Nat} {z : Value} {P : Program} {olds news : List Value} {Q : Value → PH → Prop} (ht : P.underlying t = some (.slice e)) (hsz : tsz P e = some (size, bytes)) (hz : tzero P e = some z) (hzs : z.cells.size = size)
  (ho : OwnS F e size s olds) (hn : RdS F x size news) (hx : x.len = 0) (hfit : s.len * bytes ≤ 140737488355328) (hlen : s.len ≤ 9223372036854775807)
  (h : Q s.v F) : runs P (Builtin.append_ #[t, t] ty #[s.v, x.v]) F Q := by
 have hnil : news = [] := List.eq_nil_of_length_eq_zero (by rw [hn.len, hx, Nat.zero_mul])
 subst hnil
 refine runs_append ht hsz hz hzs ho.rd hn (by simp) (by rw [hx]; exact hfit) (by rw [hx]; exact hlen) (fun _ _ => ?_) (fun h1 => ?_) (fun h1 => ?_)
 ·rw [hx]; exact h
 ·rw [hx] at h1; simp at h1
 ·have := ho.rd.cap; omega
theorem own_app {F0 F : PH} {s x : Sl} {t e size bytes ty : Nat} {z : Value} {P : Program} {olds news : List Value} {Q : Value → PH → Prop} (ht : P.underlying t = some (.slice e)) (hsz : tsz P e = some (size, bytes)) (hz : tzero P e = some z) (hzs : z.cells.size = size) (hs0 : 0 < size)
  (hle : F0.le F) (ho : OwnS F e size s olds) (hnew : ∀ a, s.base = some a → F0 a.block = none) (hn : RdS F x size news) (hst : ∀ v ∈ news, storable v) (hfit : (s.len + x.len) * bytes ≤ 140737488355328) (hlen : s.len + x.len ≤ 9223372036854775807)
  (h : ∀ s' F', F0.le F' → OwnS F' e size s' (olds ++ news) → s'.len = s.len + x.len → (∀ a, s'.base = some a → F0 a.block = none) → Keep (fun b => ∃ a, s.base = some a ∧ a.block = b) F F' → (∀ a, s'.base = some a → (∃ a', s.base = some a' ∧ a'.block = a.block) ∨ F a.block = none) → Q s'.v F') :
  runs P (Builtin.append_ #[t, t] ty #[s.v, x.v]) F Q := by
 by_cases h0 : x.len = 0
 ·have hnil : news = [] := List.eq_nil_of_length_eq_zero (by rw [hn.len, h0, Nat.zero_mul])
  refine own_append0 ht hsz hz hzs ho hn h0 (by rw [h0] at hfit; exact hfit) (by omega) ?_
  refine h s F hle (by rw [hnil, List.append_nil]; exact ho) (by omega) hnew (Keep.refl _ _) (fun a ha => .inl ⟨a, ha, rfl⟩)
 ·refine own_append ht hsz hz hzs hs0 ho hn (by omega) hst hfit hlen ?_
  rintro s' F' b ob rfl ho' hl' hbase hb
  have hb0 : F0 b = none := by
   rcases hb with ⟨a, ha, rfl⟩ | hb
   ·exact hnew a ha
   ·exact le_none hle hb
  refine h s' _ (fun y o hy => ?_) ho' hl' (fun a ha => by rw [hbase a ha]; exact hb0) (fun y o hy hn => ?_) (fun a ha => ?_)
  ·rw [set_ne _ _ (fun e => by rw [e, hb0] at hy; cases hy)]; exact hle _ _ hy
  ·rw [set_ne]
   ·exact hy
   ·rintro rfl
    rcases hb with hb | hb
    ·exact hn hb
    ·rw [hb] at hy; cases hy
  ·rw [hbase a ha]
   exact hb
theorem row_whole {F : PH} {b e : Nat} {c : Array Value} {fr : Nat × Nat} (h : F b = some (.cells c e fr)) : F.row (Addr.mk b 0 none) c := by
 intro i hi
 rw [add_mk, cell_eq h]
 simp
theorem le_set_new {F0 F : PH} {b : Nat} {o : Obj} (h : F0.le F) (hb : F0 b = none) : F0.le (F.set b o) := fun y o' hy => by
 rw [set_ne _ _ (fun e => by rw [e, hb] at hy; cases hy)]
 exact h _ _ hy
theorem Spec.upon {P : Program} {f : FuncId} {args : Array Value} {F F2 : PH} {R : Value → PH → Prop} (h : Spec P f args F R) (hle : F.le F2) :
  Spec P f args F2 fun v F' => ∃ G, R v G ∧ G.le F' ∧ ∀ b o, F b = none → F2 b = some o → F' b = some o ∧ G b = none := by
 have e : F2 = F.and (fun b => if (F b).isNone then F2 b else none) := by
  funext b
  cases hf : F b with
  | some o => rw [PH.and_left hf]; exact hle b o hf
  | none => rw [PH.and_right hf]; simp [hf]
 have hb := h.beside (H := fun b => if (F b).isNone then F2 b else none) (fun b o hb => by
  cases hf : F b with
  | some o' => simp [hf] at hb
  | none => rfl)
 rw [← e] at hb
 refine hb.mono ?_
 rintro v F' ⟨G, hr, rfl, hd⟩
 refine ⟨G, hr, fun b o hb => PH.and_left hb, fun b o hb ho => ?_⟩
 have hH : (fun b => if (F b).isNone then F2 b else none) b = some o := by simp [hb, ho]
 have hG := hd b o hH
 exact ⟨(PH.and_right hG).trans hH, hG⟩
end Go.Proofs.YtnjcgpihfmklfaaDoor
