/-
  Strings: their bytes; strings made of bytes.
-/
import Derived.Test.YtnjcgpihfmklfaaDoorQg
namespace Go.Proofs.YtnjcgpihfmklfaaDoor
open Go Go.Proofs.Tryd
set_option maxRecDepth 10000
def bs (s : ByteArray) : List Nat := s.data.toList.map UInt8.toNat
theorem bs_append (s t : ByteArray) : bs (s ++ t) = bs s ++ bs t := by simp [bs, ByteArray.data_append]
theorem bs_length (s : ByteArray) : (bs s).length = s.size := by simp [bs]
theorem bs_inj {s t : ByteArray} (h : bs s = bs t) : s = t := by
 unfold bs at h
 have : s.data.toList = t.data.toList := List.map_inj_right (fun a b e => UInt8.toNat_inj.1 e) |>.1 h
 cases s
 cases t
 congr
 exact Array.toList_inj.1 this
theorem bs_cb (s : ByteArray) (i : Nat) : cb s i = (bs s).getD i 0 := by
 unfold cb bs
 by_cases h : i < s.size
 ·rw [dif_pos h]
  have h' : i < s.data.toList.length := by simpa using h
  rw [List.getD_eq_getElem?_getD, List.getElem?_map, List.getElem?_eq_getElem h']
  rfl
 ·rw [dif_neg h, List.getD_eq_getElem?_getD, List.getElem?_map, List.getElem?_eq_none (by simpa using h)]
  rfl
theorem loop_eq (s : ByteArray) : ∀ (n i : Nat) (r : List UInt8), s.size - i = n → ByteArray.toList.loop s i r = r.reverse ++ s.data.toList.drop i := by
 intro n
 induction n with
 | zero =>
  intro i r h
  unfold ByteArray.toList.loop
  rw [if_neg (by omega), List.drop_eq_nil_of_le (by simp at h ⊢; omega), List.append_nil]
 | succ n ih =>
  intro i r h
  have hi : i < s.size := by omega
  have hi' : i < s.data.toList.length := by simpa using hi
  unfold ByteArray.toList.loop
  rw [if_pos hi, ih (i + 1) _ (by omega), List.drop_eq_getElem_cons hi', List.reverse_cons, List.append_assoc]
  congr 1
  rw [List.singleton_append]
  congr 1
  simp [ByteArray.get!, getElem!_pos, hi]
theorem toList_data (s : ByteArray) : s.toList = s.data.toList := by
 unfold ByteArray.toList
 rw [loop_eq s _ 0 [] rfl]
 rfl
theorem toList_bs (s : ByteArray) : s.toList.map UInt8.toNat = bs s := by rw [toList_data]; rfl
theorem beq_bs (s t : ByteArray) : (s.toList == t.toList) = decide (bs s = bs t) := by
 rw [Bool.eq_iff_iff, decide_eq_true_eq, beq_iff_eq]
 constructor
 ·intro h
  rw [← toList_bs, ← toList_bs, h]
 ·intro h
  rw [bs_inj h]
def u8l (ns : List Nat) : List Value := ns.map fun (n : Nat) => Value.int .u8 (n : Int)
def mkS (ns : List Nat) : ByteArray := ⟨(ns.map UInt8.ofNat).toArray⟩
theorem bs_mkS {ns : List Nat} (h : ∀ n ∈ ns, n < 256) : bs (mkS ns) = ns := by
 unfold bs mkS
 rw [List.toList_toArray, List.map_map]
 refine (List.map_congr_left fun n hn => ?_).trans (List.map_id ns)
 simp only [Function.comp]
 have := h n hn
 simp
 omega
section
variable {F : PH}
theorem bts_loop (P : Program) : ∀ (ns : List Nat) (s : ByteArray),
  rdo P (forIn (u8l ns) s fun c s => do
   let .int .u8 n := c | stuck "bytesToString: byte expected"
   let s := s.push (UInt8.ofNat n.toNat)
   pure (ForInStep.yield s)) F (ns.foldl (fun s n => s.push (UInt8.ofNat n)) s)
 | [], s => by simp [u8l, rdo]
 | n :: ns, s => by
  simp only [u8l, List.map_cons, List.forIn_cons, rdo_bind, List.foldl_cons]
  refine ⟨.yield (s.push (UInt8.ofNat n)), ?_, ?_⟩
  ·simp [rdo]
  ·exact bts_loop P ns _
theorem push_fold : ∀ (ns : List Nat) (s : ByteArray), ns.foldl (fun s n => s.push (UInt8.ofNat n)) s = ⟨s.data ++ (ns.map UInt8.ofNat).toArray⟩
 | [], s => by simp
 | n :: ns, s => by
  rw [List.foldl_cons, push_fold ns]
  simp [ByteArray.push]
theorem bts_rdo {P : Program} {s : Sl} {ns : List Nat} (h : RdS F s 1 (u8l ns)) : rdo P (Conv.bytesToString s.v) F (.string (mkS ns)) := by
 obtain ⟨base, len, cap⟩ := s
 have hl := h.len
 simp only [u8l, List.length_map, Nat.mul_one] at hl
 unfold Conv.bytesToString Sl.v
 cases base with
 | none =>
  have h0 : len = 0 := by
   rcases Nat.eq_zero_or_pos len with h0 | h0
   ·exact h0
   ·obtain ⟨b, o, h1, _⟩ := h.cells h0
    cases h1
  subst h0
  have : ns = [] := List.length_eq_zero_iff.1 (by omega)
  subst this
  rfl
 | some a =>
  simp only [rdo_bind]
  refine ⟨(u8l ns).toArray, ?_, ?_⟩
  ·have hr := h.row (a := a) rfl 0 (u8l ns).toArray (by simp)
   rw [show a.add 0 = a from rfl] at hr
   have := rdo_loadCells (P := P) hr
   simp only [u8l, List.size_toArray, List.length_map] at this
   rw [hl] at this
   exact this
  ·refine ⟨ns.foldl (fun s n => s.push (UInt8.ofNat n)) .empty, ?_, ?_⟩
   ·rw [← Array.forIn_toList]
    exact bts_loop P ns .empty
   ·rw [push_fold]
    show (Value.string _) = _
    simp [mkS, ByteArray.empty, ByteArray.emptyWithCapacity]
    rfl
end
end Go.Proofs.YtnjcgpihfmklfaaDoor
