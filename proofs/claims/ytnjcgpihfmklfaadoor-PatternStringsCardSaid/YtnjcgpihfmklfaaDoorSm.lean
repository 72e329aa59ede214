/-
  PatternLiterals: what Literal returns.
-/
import Derived.Test.YtnjcgpihfmklfaaDoorSk
import Derived.Test.YtnjcgpihfmklfaaDoorSn
import Derived.Test.YtnjcgpihfmklfaaDoorSs
import Derived.Test.YtnjcgpihfmklfaaDoorGt
import Derived.Test.YtnjcgpihfmklfaaDoorGm
import Derived.Test.YtnjcgpihfmklfaaDoorGL14
namespace Go.Proofs.YtnjcgpihfmklfaaDoor
open Go Go.Proofs.Tryd
set_option maxRecDepth 10000
structure OwN (G F : PH) (s : Sl) (l : List Nd) : Prop where
 le : G.le F
 own : OwnS F 50 5 s (nflat l)
 oz : ∀ a, s.base = some a → G a.block = none
section
variable {F : PH}
theorem OwN.push {G : PH} {s : Sl} {l : List Nd} (h : OwN G F s l) (x : Nd) (hl : s.len ≤ 1000000) {K : Sl → PH → Prop} (k : ∀ s' F', OwN G F' s' (l ++ [x]) → K s' F') :
  ∀ b, F b = none → atF (F.set b (.cells x.arr 50)) fun F =>
   runs prog (Builtin.append_ #[25, 25] 25 #[(Sl.v s), (Sl.v (Sl.mk (some (Addr.mk b 0 none)) 1 1))]) F fun v F => ∃ s' : Sl, v = (Sl.v s') ∧ K s' F := by
 intro b hb
 refine atI ?_
 have l1 := le_set_fresh (.cells x.arr 50) hb
 have q1 := set_eq F b (.cells x.arr 50)
 have o1 : OwnS (F.set b (.cells x.arr 50)) 50 5 s (nflat l) := h.own.keep fun a ha => by
  obtain ⟨o', ho⟩ := h.own.some ha
  exact set_ne _ _ (ne_of_fresh hb ho)
 generalize F.set b (.cells x.arr 50) = F1 at *
 refine own_app (F0 := G) (x := ⟨some ⟨b, 0, none⟩, 1, 1⟩) (news := x.cells) underlying25 sz50' zr50' rfl (by decide) (le_trans' h.le l1) o1 h.oz (RdS.new q1 rfl rfl (Nat.le_refl _)) (st_narr x) (by simp only; omega) (by simp only; omega) ?_
 intro s' F2 le2 ho2 hl2 hnew keep hsome
 have e : nflat l ++ x.cells = nflat (l ++ [x]) := by simp [nflat]
 rw [e] at ho2
 exact ⟨s', rfl, k s' F2 ⟨le2, ho2, hnew⟩⟩
theorem parse_pr {t : Pat} {st : ByteArray} (hb : t.byt) (hs : bs st = t.pr) (h512 : t.size ≤ 512) (hl : st.size ≤ 8192) : parseR st = (t.nodes 0, 0) := by
 have h := wr_parse (pr_wr t hb).1 (st := st) (by rw [← bs_length, hs]) fun k x hk => by
  rw [bs_cb, hs, List.getD_eq_getElem?_getD, hk]
  rfl
 unfold parseR
 rw [if_neg (by omega), h]
 simp only
 rw [if_neg (by omega)]
end
end Go.Proofs.YtnjcgpihfmklfaaDoor
