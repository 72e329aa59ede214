/-
  The example of the chapter.
-/
import Derived.Test.YtnjcgpihfmklfaaDoorSf
import Derived.Test.YtnjcgpihfmklfaaDoorSg
import Derived.Test.YtnjcgpihfmklfaaDoorGl
namespace Go.Proofs.YtnjcgpihfmklfaaDoor
open Go Go.Proofs.Tryd
set_option maxRecDepth 10000
def tA : Pat := .seq (.rng 97 97) (.rep (.alt (.rng 98 98) (.rng 99 99)))
def tB : Pat := .seq (.rng 97 122) (.rep (.rng 97 122))
def tC : Pat := .seq (.rng 105 105) (.alt (.rng 102 102) (.rng 110 110))
def tD : Pat := .seq (.rng 97 97) (.seq (.rng 98 98) (.rng 99 99))
theorem pA : parseR (ByteArray.mk #[97, 40, 98, 124, 99, 41, 42]) = (tA.nodes 0, 0) := by kernel_rfl
theorem pB : parseR (ByteArray.mk #[91, 97, 45, 122, 93, 40, 91, 97, 45, 122, 93, 41, 42]) = (tB.nodes 0, 0) := by kernel_rfl
theorem pC : parseR (ByteArray.mk #[105, 40, 102, 124, 110, 41]) = (tC.nodes 0, 0) := by kernel_rfl
theorem pE : parseR (ByteArray.mk #[91, 98, 45, 97, 93]) = ([], 40) := by kernel_rfl
theorem bA : tA.byt := ⟨⟨by decide, by decide⟩, ⟨by decide, by decide⟩, by decide, by decide⟩
theorem bB : tB.byt := ⟨⟨by decide, by decide⟩, by decide, by decide⟩
theorem bC : tC.byt := ⟨⟨by decide, by decide⟩, ⟨by decide, by decide⟩, by decide, by decide⟩
theorem bD : tD.byt := ⟨⟨by decide, by decide⟩, ⟨by decide, by decide⟩, by decide, by decide⟩
theorem LgL_nodes {t : Pat} (hb : t.byt) (w : List Nat) : LgL (t.nodes 0) w ↔ Lg t w := by
 unfold LgL
 rw [nodes_pat hb]
theorem bestA : Best (fun n => LgL (tA.nodes 0) (((bs (ByteArray.mk #[120, 97, 98, 99, 100])).drop (Int.toNat 1)).take n)) ((ByteArray.mk #[120, 97, 98, 99, 100]).size - Int.toNat 1) 3 := by
 refine ⟨by decide, .inr ((LgL_nodes bA _).2 ((mtc_iff _ _).1 (by decide))), fun m h1 h2 => ?_⟩
 have : m = 4 := by
  have : (ByteArray.mk #[120, 97, 98, 99, 100]).size - Int.toNat 1 = 4 := rfl
  omega
 subst this
 rw [LgL_nodes bA, ← mtc_iff]
 decide
theorem shortA : LeastC (ComW (tA.nodes 0) (tA.nodes 0)) [97] := by
 have h : ∀ v, ComW (tA.nodes 0) (tA.nodes 0) v ↔ v ≠ [] ∧ Lg tA v := fun v => by
  unfold ComW
  rw [LgL_nodes bA]
  exact ⟨fun h => ⟨h.1, h.2.1⟩, fun h => ⟨h.1, h.2, h.2⟩⟩
 refine ⟨(h _).2 ⟨by simp, (mtc_iff _ _).1 (by decide)⟩, fun v hv => ?_, fun v hv hl => ?_⟩
 ·have := List.length_pos_iff.2 ((h v).1 hv).1
  simp
  omega
 ·obtain ⟨u, v', rfl, ⟨b, rfl, h1, h2⟩, _⟩ := ((h v).1 hv).2
  have : b = 97 := by omega
  subst this
  exact .inl ⟨v', rfl⟩
theorem comB : LeastC (ComW (tB.nodes 0) (tC.nodes 0)) [105, 102] := by
 have h : ∀ v, ComW (tB.nodes 0) (tC.nodes 0) v ↔ v ≠ [] ∧ Lg tB v ∧ Lg tC v := fun v => by
  unfold ComW
  rw [LgL_nodes bB, LgL_nodes bC]
 have hw : ∀ v, ComW (tB.nodes 0) (tC.nodes 0) v → v = [105, 102] ∨ v = [105, 110] := fun v hv => by
  obtain ⟨_, _, u, v', rfl, ⟨b, rfl, h1, h2⟩, h3⟩ := (h v).1 hv
  obtain rfl : b = 105 := by omega
  rcases h3 with ⟨c, rfl, h4, h5⟩ | ⟨c, rfl, h4, h5⟩
  ·obtain rfl : c = 102 := by omega
   exact .inl rfl
  ·obtain rfl : c = 110 := by omega
   exact .inr rfl
 refine ⟨(h _).2 ⟨by simp, (mtc_iff _ _).1 (by decide), (mtc_iff _ _).1 (by decide)⟩, fun v hv => ?_, fun v hv hl => ?_⟩
 ·rcases hw v hv with rfl | rfl <;> simp
 ·rcases hw v hv with rfl | rfl
  ·exact .inl ⟨[], rfl⟩
  ·exact .inr ⟨[105], 102, 110, [], [], rfl, rfl, by decide⟩
theorem printD : printR (tD.nodes 0) = ([97, 40, 98, 99, 41], 0) := by
 unfold printR
 rw [nodes_chk bD (by decide), if_neg (by simp), nodes_pat bD]
 rfl
theorem ComR.least {l1 l2 : List Nd} {r : Value} (h : ComR l1 l2 r) (h1 : chkP l1 = 0) (h2 : chkP l2 = 0) {w : List Nat} (hw : LeastC (ComW l1 l2) w) : r = .tuple #[.string (mkS w), vi 0] := by
 rcases h with ⟨h, _⟩ | ⟨_, h, _⟩ | ⟨_, _, ⟨h, _⟩ | ⟨u, hu, _, rfl⟩⟩
 ·exact absurd h1 h
 ·exact absurd h2 h
 ·exact absurd hw.is (h w)
 ·rw [hu.uniq hw]
theorem wrD : (wr (wr (wr (wr (wr (#[.int .i64 0, .int .i64 0, .int .i64 0, .int .i64 0, .int .i64 0, .int .i64 0, .int .i64 0, .int .i64 0, .int .i64 0, .int .i64 0, .int .i64 0, .int .i64 0, .int .i64 0, .int .i64 0, .int .i64 0, .int .i64 0, .int .i64 0, .int .i64 0, .int .i64 0, .int .i64 0, .int .i64 0, .int .i64 0, .int .i64 0, .int .i64 0, .int .i64 0] : Array Value) 0 (#[(.int .i64 (1 : Int)), (.int .i64 (97 : Int)), (.int .i64 (97 : Int)), .int .i64 0, .int .i64 0] : Array Value).toList) 5 (#[(.int .i64 (1 : Int)), (.int .i64 (98 : Int)), (.int .i64 (98 : Int)), .int .i64 0, .int .i64 0] : Array Value).toList) 10 (#[(.int .i64 (1 : Int)), (.int .i64 (99 : Int)), (.int .i64 (99 : Int)), .int .i64 0, .int .i64 0] : Array Value).toList) 15 (#[(.int .i64 (2 : Int)), .int .i64 0, .int .i64 0, (.int .i64 (1 : Int)), (.int .i64 (2 : Int))] : Array Value).toList) 20 (#[(.int .i64 (2 : Int)), .int .i64 0, .int .i64 0, (.int .i64 (0 : Int)), (.int .i64 (3 : Int))] : Array Value).toList) = (nflat (tD.nodes 0)).toArray := rfl
theorem sanity_spec {F : PH} (hT : Tab F) : Spec prog 15 #[] F fun r F' => r = .bool true ∧ F.le F' := by
 refine c15 ?_
 unfold b15
 have cA := nodes_chk bA (by decide)
 have cB := nodes_chk bB (by decide)
 have cC := nodes_chk bC (by decide)
 refine (parse_spec F _).mono ?_
 rw [pA]
 rintro _ F1 ⟨⟨_, rfl, sA, rfl, rA⟩, l1⟩
 refine ⟨sA, 0, rfl, ?_⟩
 refine (longest_spec (hT.le l1) rA (ByteArray.mk #[120, 97, 98, 99, 100]) (by decide) 1).mono ?_
 rintro r F2 ⟨hr, l2⟩
 replace rA : RdS F2 sA 5 (nflat (tA.nodes 0)) := rA.le l2
 replace l2 := le_trans' l1 l2
 have hr3 : r = .tuple #[vi 3, .bool true] := by
  rcases hr with ⟨h, _⟩ | ⟨_, _, _, b, hb, rfl⟩
  ·exact absurd ⟨cA, by decide, by decide⟩ h
  ·rw [hb.uniq bestA]
   rfl
 subst hr3
 refine ⟨3, true, rfl, ?_⟩
 refine (shortest_spec (hT.le l2) rA).mono ?_
 rintro r F3 ⟨hr, l3⟩
 replace rA := rA.le l3
 replace l3 := le_trans' l2 l3
 obtain rfl := hr.least cA cA shortA
 refine ⟨_, 0, rfl, ?_⟩
 refine (parse_spec F3 _).mono ?_
 rw [pB]
 rintro _ F4 ⟨⟨_, rfl, sB, rfl, rB⟩, l4⟩
 replace rA := rA.le l4
 replace l4 := le_trans' l3 l4
 refine ⟨sB, 0, rfl, ?_⟩
 refine (parse_spec F4 _).mono ?_
 rw [pC]
 rintro _ F5 ⟨⟨_, rfl, sC, rfl, rC⟩, l5⟩
 replace rA := rA.le l5
 replace rB : RdS F5 sB 5 (nflat (tB.nodes 0)) := rB.le l5
 replace rC : RdS F5 sC 5 (nflat (tC.nodes 0)) := rC
 replace l5 := le_trans' l4 l5
 refine ⟨sC, 0, rfl, ?_⟩
 refine (common_spec (hT.le l5) rB rC).mono ?_
 rintro r F6 ⟨hr, l6⟩
 replace rA := rA.le l6
 replace l6 := le_trans' l5 l6
 obtain rfl := hr.least cB cC comB
 refine ⟨_, 0, rfl, rfl, rfl, rfl, rfl, rfl, ?_⟩
 intro b52 h52
 refine atI ?_
 have l7 := le_set_fresh (.cells (nflat (tD.nodes 0)).toArray 50) h52
 have q7 := set_eq F6 b52 (.cells (nflat (tD.nodes 0)).toArray 50)
 have rD : RdS (F6.set b52 (.cells (nflat (tD.nodes 0)).toArray 50)) ⟨some ⟨b52, 0, none⟩, 5, 5⟩ 5 (nflat (tD.nodes 0)) := RdS.new q7 rfl rfl (Nat.le_refl _)
 rw [wrD]
 generalize F6.set b52 (.cells (nflat (tD.nodes 0)).toArray 50) = F7 at *
 replace rA := rA.le l7
 replace l7 := le_trans' l6 l7
 refine (print_spec rD).mono ?_
 rw [printD]
 rintro _ F8 ⟨⟨_, rfl, d, rfl, hd⟩, l8⟩
 replace rA := rA.le l8
 replace l8 := le_trans' l7 l8
 refine ⟨d, 0, rfl, ?_⟩
 refine (parse_spec F8 _).mono ?_
 rw [pE]
 rintro _ F9 ⟨⟨_, rfl, sE, rfl, _⟩, l9⟩
 replace rA := rA.le l9
 replace l9 := le_trans' l8 l9
 refine ⟨sE, 40, rfl, fun _ => ⟨fun _ => ⟨fun _ => ⟨fun _ => ⟨fun _ => ⟨fun _ => ?_, fun h => absurd rfl h⟩, fun h => absurd rfl h⟩, fun h => absurd rfl h⟩, fun h => absurd rfl h⟩, fun h => absurd rfl h⟩, fun h => absurd rfl h⟩
 unfold b15j1
 have sAl : sA.len = 6 := rA.nlen
 refine ⟨fun _ => ⟨fun _ => ?_, fun h => absurd (by rw [sAl]; rfl) h⟩, fun h => absurd (show decide ((40 : Int) = 40) = true from rfl) (by rw [h]; simp)⟩
 refine (matches_spec (hT.le l9) rA (ByteArray.mk #[97, 98, 99, 98]) (by decide)).mono ?_
 rintro _ F10 ⟨⟨q, rfl, hq⟩, l10⟩
 obtain rfl : q = true := hq.2 ⟨cA, (LgL_nodes bA _).2 ((mtc_iff _ _).1 (by decide))⟩
 replace rA := rA.le l10
 replace l10 := le_trans' l9 l10
 refine ⟨true, rfl, fun _ => ?_, fun h => (by cases h)⟩
 refine (matches_spec (hT.le l10) rA (ByteArray.mk #[98, 97]) (by decide)).mono ?_
 rintro _ F11 ⟨⟨q, rfl, hq⟩, l11⟩
 have hq0 : q = false := by
  rw [← Bool.not_eq_true, hq]
  rintro ⟨_, h⟩
  rw [LgL_nodes bA, ← mtc_iff] at h
  revert h
  decide
 subst hq0
 replace l11 := le_trans' l10 l11
 have e1 : ((mkS [97]).toList == (ByteArray.mk #[97]).toList) = true := by rw [beq_bs]; decide
 have e2 : ((mkS [105, 102]).toList == (ByteArray.mk #[105, 102]).toList) = true := by rw [beq_bs]; decide
 have e3 : (d.toList == (ByteArray.mk #[97, 40, 98, 99, 41]).toList) = true := by rw [beq_bs, hd]; rfl
 rw [e1, e2, e3]
 exact ⟨false, rfl, fun _ => ⟨fun _ => ⟨fun _ => ⟨fun _ => ⟨fun _ => ⟨rfl, l11⟩, fun h => (by cases h)⟩, fun h => (by cases h)⟩, fun h => absurd rfl h⟩, fun h => (by cases h)⟩, fun h => (by cases h)⟩
end Go.Proofs.YtnjcgpihfmklfaaDoor
