/-
  PatternLiterals: what Literal returns.
-/
import Derived.Test.YtnjcgpihfmklfaaDoorSk
import Derived.Test.YtnjcgpihfmklfaaDoorSn
import Derived.Test.YtnjcgpihfmklfaaDoorSs
import Derived.Test.YtnjcgpihfmklfaaDoorGt
import Derived.Test.YtnjcgpihfmklfaaDoorGm
import Derived.Test.YtnjcgpihfmklfaaDoorGL14
namespace Go.Proofs.YtnjcgpihfmklfaaDoor
open Go Go.Proofs.Tryd
set_option maxRecDepth 10000
def litT : List Nat → Pat
 | [] => .emp
 | b :: w => w.foldl (fun t c => .seq t (.rng c c)) (.rng b b)
theorem lit_snoc (w : List Nat) (b : Nat) (h : w ≠ []) : litT (w ++ [b]) = .seq (litT w) (.rng b b) := by
 cases w with
 | nil => exact absurd rfl h
 | cons c w => simp [litT, List.foldl_append]
theorem snoc_ind {P : List Nat → Prop} (h0 : P []) (h1 : ∀ w b, P w → P (w ++ [b])) : ∀ w, P w := by
 intro w
 have : ∀ n (w : List Nat), w.length = n → P w := by
  intro n
  induction n with
  | zero => intro w hw; rw [List.length_eq_zero_iff.1 hw]; exact h0
  | succ n ih =>
   intro w hw
   have hne : w ≠ [] := by intro e; rw [e] at hw; simp at hw
   have e := List.dropLast_concat_getLast hne
   rw [← e]
   exact h1 _ _ (ih _ (by simp [hw]))
 exact this _ w rfl
theorem lit_size (w : List Nat) : w ≠ [] → (litT w).size = 2 * w.length - 1 := by
 refine snoc_ind (P := fun w => w ≠ [] → (litT w).size = 2 * w.length - 1) (fun h => absurd rfl h) (fun w b ih _ => ?_) w
 by_cases h : w = []
 ·subst h
  rfl
 ·rw [lit_snoc w b h]
  have hp := List.length_pos_iff.2 h
  simp only [Pat.size, ih h, List.length_append, List.length_singleton]
  omega
def litR (st : ByteArray) : List Nd × Int := if 256 < st.size then ([], 2) else ((litT (bs st)).nodes 0, 0)
theorem lit_nodes (w : List Nat) (b : Nat) (h : w ≠ []) : (litT (w ++ [b])).nodes 0 = (litT w).nodes 0 ++ [⟨1, b, b, 0, 0⟩] ++ [⟨2, 0, 0, ((litT w).size : Int) - 1, ((litT w).size : Int)⟩] := by
 have hp := (litT w).size_pos
 rw [lit_snoc w b h]
 simp only [Pat.nodes, Pat.size]
 congr 4
 all_goals omega
structure OwN (G F : PH) (s : Sl) (l : List Nd) : Prop where
 le : G.le F
 own : OwnS F 50 5 s (nflat l)
 oz : ∀ a, s.base = some a → G a.block = none
section
variable {F : PH}
theorem OwN.push {G : PH} {s : Sl} {l : List Nd} (h : OwN G F s l) (x : Nd) (hl : s.len ≤ 1000000) {K : Sl → PH → Prop} (k : ∀ s' F', OwN G F' s' (l ++ [x]) → K s' F') :
  ∀ b, F b = none → atF (F.set b (.cells x.arr 50)) fun F =>
   runs prog (Builtin.append_ #[25, 25] 25 #[(Sl.v s), (Sl.v (Sl.mk (some (Addr.mk b 0 none)) 1 1))]) F fun v F => ∃ s' : Sl, v = (Sl.v s') ∧ K s' F := by
 intro b hb
 refine atI ?_
 have l1 := le_set_fresh (.cells x.arr 50) hb
 have q1 := set_eq F b (.cells x.arr 50)
 have o1 : OwnS (F.set b (.cells x.arr 50)) 50 5 s (nflat l) := h.own.keep fun a ha => by
  obtain ⟨o', ho⟩ := h.own.some ha
  exact set_ne _ _ (ne_of_fresh hb ho)
 generalize F.set b (.cells x.arr 50) = F1 at *
 refine own_app (F0 := G) (x := ⟨some ⟨b, 0, none⟩, 1, 1⟩) (news := x.cells) underlying25 sz50' zr50' rfl (by decide) (le_trans' h.le l1) o1 h.oz (RdS.new q1 rfl rfl (Nat.le_refl _)) (st_narr x) (by simp only; omega) (by simp only; omega) ?_
 intro s' F2 le2 ho2 hl2 hnew keep hsome
 have e : nflat l ++ x.cells = nflat (l ++ [x]) := by simp [nflat]
 rw [e] at ho2
 exact ⟨s', rfl, k s' F2 ⟨le2, ho2, hnew⟩⟩
def lI1 (F0 : PH) (st : ByteArray) : Nat → Sl → Int → PH → Prop := fun m s i F' => ∃ w : Nat, i = w ∧ w ≤ st.size ∧ m = st.size - w ∧ OwN F0 F' s (if w = 0 then [] else (litT ((bs st).take w)).nodes 0)
theorem literal_spec (F : PH) (st : ByteArray) (hsz : st.size ≤ 9000000000000000) : Spec prog 36 #[.string st] F fun r F' => PatR F' r (litR st) ∧ F.le F' := by
 have ew : IntKind.i64.wrap ((2 : Int) * (st.size : Int)) = ((2 * st.size : Nat) : Int) := by rw [w64_eq (by omega) (by omega)]; omega
 refine c36 ?_
 unfold b36
 rw [ew]
 refine ⟨fun h => ?_, fun h => ⟨fun h0 => ?_, fun h0 => ?_⟩⟩
 ·have e : litR st = ([], 2) := by unfold litR; rw [if_pos (by omega)]
  rw [e]
  exact ⟨⟨_, rfl, PatV.nil F⟩, le_refl' F⟩
 ·have hb : bs st = [] := by
   rw [beq_bs] at h0
   exact of_decide_eq_true h0
  have e : litR st = (Pat.emp.nodes 0, 0) := by unfold litR; rw [if_neg (by omega), hb]; rfl
  rw [e]
  refine ⟨rfl, fun b hb => ?_⟩
  exact atI ⟨⟨_, rfl, ⟨_, rfl, RdS.new (set_eq _ _ _) rfl rfl (Nat.le_refl _)⟩⟩, le_set_fresh _ hb⟩
 ·have hb : bs st ≠ [] := by
   rw [beq_bs] at h0
   exact of_decide_eq_false h0
  have hpos : 0 < st.size := by rw [← bs_length]; exact List.length_pos_iff.2 hb
  have e : litR st = ((litT (bs st)).nodes 0, 0) := by unfold litR; rw [if_neg (by omega)]
  rw [e]
  refine ⟨lI1 F st, st.size, ⟨0, rfl, by omega, by omega, ⟨le_refl' F, .inl ⟨rfl, rfl⟩, fun a ha => (by cases ha)⟩⟩, ?_⟩
  rintro _ s _ F1 ⟨w, rfl, hw, rfl, hO⟩
  unfold b36L1
  refine ⟨fun hlt => ?_, fun hge => ?_⟩
  ·have hw' : w < st.size := by omega
   have hwl : w < (bs st).length := by rw [bs_length]; exact hw'
   have hx : (bs st)[w]? = some (bs st)[w] := List.getElem?_eq_getElem hwl
   have hlt256 := bs_lt st _ (List.getElem_mem hwl)
   have hget : ∀ (hx : Int.toNat (w : Int) < st.size), ((st[Int.toNat (w : Int)]'hx).toNat : Int) = (((bs st)[w] : Nat) : Int) := fun hx => by
    simp [bs]
    rfl
   have htk : (bs st).take (w + 1) = (bs st).take w ++ [(bs st)[w]] := by rw [List.take_add_one, hx]; rfl
   refine ⟨by omega, by omega, by rw [Int.toNat_natCast]; exact hw', _, rfl, by omega, by omega, by rw [Int.toNat_natCast]; exact hw', _, rfl, rfl, ?_⟩
   rw [hget]
   generalize (bs st)[w] = x at *
   rw [w64_eq (x := (x : Int)) (by omega) (by omega)]
   have hsn : s.len = (if w = 0 then [] else (litT ((bs st).take w)).nodes 0).length := hO.own.rd.nlen
   have hsl : s.len ≤ 1000 := by
    rw [hsn]
    split
    ·simp
    ·rename_i h0
     rw [Pat.nodes_length, lit_size _ (by intro e; have := congrArg List.length e; simp only [List.length_take, List.length_nil, bs_length] at this; omega), List.length_take, bs_length]
     omega
   refine hO.push ⟨1, x, x, 0, 0⟩ (by omega) fun s1 F2 h1 => ⟨fun hp => ?_, fun hp => ?_⟩
   ·have hw0 : ¬ w = 0 := by omega
    have hne : (bs st).take w ≠ [] := by intro e; have := congrArg List.length e; simp only [List.length_take, List.length_nil, bs_length] at this; omega
    rw [if_neg hw0] at h1 hsn
    rw [Pat.nodes_length] at hsn
    have hp1 := (litT ((bs st).take w)).size_pos
    rw [w64_eq (x := (s.len : Int) - 1) (by omega) (by omega), w64_eq (x := (s.len : Int) - 1 + 1) (by omega) (by omega)]
    refine ⟨rfl, ?_⟩
    have hs1 : s1.len = s.len + 1 := by
     have := h1.own.rd.nlen
     rw [List.length_append, Pat.nodes_length, List.length_singleton] at this
     omega
    refine h1.push ⟨2, 0, 0, (s.len : Int) - 1, (s.len : Int) - 1 + 1⟩ (by omega) fun s2 F3 h2 => ?_
    unfold b36j2
    refine ⟨st.size - (w + 1), by omega, w + 1, w64s (by omega), by omega, rfl, ?_⟩
    rw [if_neg (by omega), htk, lit_nodes _ _ hne]
    rw [hsn, show ((litT (List.take w (bs st))).size : Int) - 1 + 1 = ((litT (List.take w (bs st))).size : Int) by omega] at h2
    exact h2
   ·obtain rfl : w = 0 := by omega
    unfold b36j2
    refine ⟨st.size - (0 + 1), by omega, 0 + 1, w64s (by omega), by omega, rfl, ?_⟩
    rw [if_neg (by omega), htk]
    exact h1
  ·have hw' : w = st.size := by omega
   subst hw'
   rw [if_neg (by omega), List.take_of_length_le (by rw [bs_length]; exact Nat.le_refl _)] at hO
   unfold b36j1
   exact ⟨⟨_, rfl, ⟨s, rfl, hO.own.rd⟩⟩, hO.le⟩
end
end Go.Proofs.YtnjcgpihfmklfaaDoor
