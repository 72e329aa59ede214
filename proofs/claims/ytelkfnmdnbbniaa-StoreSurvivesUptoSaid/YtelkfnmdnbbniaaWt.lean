/-
  Scripts of operations; StoreCompacts.
-/
import Derived.Test.YtelkfnmdnbbniaaWs
import Derived.Test.YtelkfnmdnbbniaaGL4
namespace Go.Proofs.Ytelkfnmdnbbniaa
open Go Go.Proofs.Try
set_option maxRecDepth 10000
def opsC (l : List OpS) : List Value := l.flatMap fun o => [.int .u8 o.kind, o.sl.v]
theorem opsC_len (l : List OpS) : (opsC l).length = l.length * 2 := by
 induction l with
 | nil => rfl
 | cons b T ih => simp only [opsC, List.flatMap_cons, List.length_append, List.length_cons] at ih ⊢; rw [ih]; simp; omega
theorem opsC_get : ∀ (T : List OpS) (i : Nat) (x : OpS), T[i]? = some x → ((opsC T).drop (i * 2)).take 2 = [.int .u8 x.kind, x.sl.v]
 | b :: T, 0, x, h => by cases h; simp [opsC]
 | b :: T, i + 1, x, h => by
  have e : (i + 1) * 2 = 2 + i * 2 := by omega
  have : opsC (b :: T) = [.int .u8 b.kind, b.sl.v] ++ opsC T := by simp [opsC]
  rw [this, e, ← List.drop_drop, List.drop_left' (by simp)]
  exact opsC_get T i x (by simpa using h)
structure OpsRd (F : PH) (sl : Sl) (ops : List OpS) : Prop where
 rd : RdS F sl 2 (opsC ops)
 ok : ∀ o ∈ ops, OpRd F o
 len9 : ops.length ≤ 9000000000000000000
theorem OpsRd.le {F G : PH} {sl : Sl} {ops : List OpS} (h : OpsRd F sl ops) (l : F.le G) : OpsRd G sl ops := ⟨h.rd.le l, fun o ho => (h.ok o ho).le l, h.len9⟩
theorem OpsRd.len {F : PH} {sl : Sl} {ops : List OpS} (h : OpsRd F sl ops) : sl.len = ops.length := by have := h.rd.len; rw [opsC_len] at this; omega
theorem OpsRd.at {F : PH} {sl : Sl} {ops : List OpS} (h : OpsRd F sl ops) {i : Nat} (hi : i < ops.length) : ∃ a : Addr, sl.base = some a ∧ F.row (a.add (Int.toNat (i : Int) * 2)) ops[i].cells := by
 have hl := h.len
 obtain ⟨b, o, hb⟩ := h.rd.base (by omega)
 refine ⟨_, hb, ?_⟩
 rw [Int.toNat_natCast]
 exact h.rd.row hb (i * 2) ops[i].cells (opsC_get _ _ _ (List.getElem?_eq_getElem hi)).symm
structure Lc (F0 G : PH) (fp : Nat → Prop) (n : Nat) (s : DS) (st cm d : Nat) (x : SS) (slm : Sl) (k : Nat) : Prop where
 st : St G fp n s st cm d x slm
 fz : s.fuse = 0
 kp : s.kept = []
 num : x.num ≤ (k : Int) + 1
 le : F0.le (mns G fp)
section
variable {F F0 G : PH} {fp : Nat → Prop} {n : Nat} {s : DS} {st cm d : Nat} {x : SS} {slm sl : Sl} {k : Nat} {M : List Nat} {ops : List OpS} {o : OpS}
theorem Lc.up (h : Lc F0 G fp n s st cm d x slm k) {G' : PH} (l : G.le G') : Lc F0 G' fp n s st cm d x slm k := ⟨h.st.le l, h.fz, h.kp, h.num, le_trans' h.le (mns_mono l)⟩
theorem Lc.sr (h : Lc F0 G fp n s st cm d x slm k) (hn : n ≤ 500) (hk : k ≤ 1000) : Sr G fp n s st cm d x := ⟨h.st.act, h.st.fine, h.st.inv, h.st.br, h.fz, hn, by have := h.num; omega⟩
theorem fresh_lc (F : PH) (h4 : 4 ≤ n) (hn : n ≤ 500) : Spec prog 11 #[.int .i64 (n : Int)] F fun v F' => ∃ d st cm fp s, v = .tuple #[.pointer (some ⟨d, 0, none⟩), .pointer (some ⟨st, 0, none⟩), .agg (refC n 0 Sl.nil), .bool true] ∧ Lc F F' fp n s st cm d (empt n) Sl.nil 0 := by
 refine (fresh_spec h4 hn).mono ?_
 rintro v F' ⟨d, st, cm, fp, s, rfl, h, hz, hkp, l, hnew⟩
 exact ⟨d, st, cm, fp, s, rfl, h, hz, hkp, Int.le_refl _, le_mns_new l hnew⟩
theorem size_nat {m : Int} (h0 : 0 ≤ m) (h1 : m ≤ 255) : Spec prog 12 #[.int .u8 m] F fun v F' => ∃ n : Nat, v = .int .i64 (n : Int) ∧ (n : Int) = 4 + m % 40 ∧ 4 ≤ n ∧ n ≤ 43 ∧ F' = F := by
 refine (size_spec h0 h1).mono ?_
 rintro v F' ⟨rfl, ee⟩
 exact ⟨(4 + m % 40).toNat, by congr 1; omega, by omega, by omega, by omega, ee⟩
end
end Go.Proofs.Ytelkfnmdnbbniaa
