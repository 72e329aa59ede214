/-
  PatternParentheses.
-/
import Derived.Test.YtnjcgpihfmklfaaDoorSp
import Derived.Test.YtnjcgpihfmklfaaDoorSq
import Derived.Test.YtnjcgpihfmklfaaDoorSs
import Derived.Test.YtnjcgpihfmklfaaDoorGL12
namespace Go.Proofs.YtnjcgpihfmklfaaDoor
open Go Go.Proofs.Tryd
set_option maxRecDepth 10000
theorem no_less {t : Pat} (hb : t.byt) {st : ByteArray} (hl : st.size < t.pr.length) (h0 : (parseR st).2 = 0) : (parseR st).1 ≠ t.nodes 0 := by
 revert h0
 unfold parseR
 split
 ·intro h; cases h
 ·split
  ·rename_i t' h'
   split
   ·intro h; cases h
   ·intro _ e
    obtain ⟨hb', hm⟩ := parseT_min h'
    have e : t'.nodes 0 = t.nodes 0 := e
    have := nodes_pat hb'
    rw [e, nodes_pat hb] at this
    subst this
    omega
  ·intro h; cases h
theorem sz3' : tsz prog 3 = some (1, 8) := by kernel_rfl
section
variable {F0 F : PH} {s : Sl} {t : Pat} {d : ByteArray}
def qvs (L : List Nat) : List Value := L.map fun (n : Nat) => vi n
def qI1 (F0 : PH) (d : ByteArray) : Nat → Sl → Int → PH → Prop := fun m os i F' => ∃ (w : Nat) (G : PH) (L : List Nat), i = w ∧ w ≤ d.size ∧ m = d.size - w ∧ F0.le G ∧ Ov 3 G F' os (qvs L) ∧ (∀ x ∈ L, x < w) ∧ L.length + ((bs d).take w).count 41 = ((bs d).take w).count 40
theorem law12_L1 (hr : RdS F0 s 5 (nflat (t.nodes 0))) (hb : t.byt) (hd : bs d = t.pr) (hdl : d.size ≤ 8192) {m : Nat} {os : Sl} {i : Int} {R : Value → PH → Prop} (hR : ∀ F', F0.le F' → R (.bool true) F') (hI : qI1 F0 d m os i F) :
  b12L1 (fun y0 y1 F' => ∃ m', m' < m ∧ qI1 F0 d m' y0 y1 F') true s d R os i F := by
 obtain ⟨w, G, L, rfl, hw, rfl, lG, hO, hL, hc⟩ := hI
 have hlen : os.len = L.length := by rw [hO.len]; simp [qvs]
 have hbal := pr_bal t
 rw [← hd] at hbal
 have hdn : (bs d).length = d.size := bs_length d
 have hcl : ((bs d).take w).count 40 ≤ d.size := Nat.le_trans List.count_le_length (by rw [List.length_take]; omega)
 unfold b12L1
 refine ⟨fun hlt => ?_, fun hge => ?_⟩
 ·have hw' : w < d.size := by omega
  have hwl : w < (bs d).length := by omega
  have hx : (bs d)[w]? = some (bs d)[w] := List.getElem?_eq_getElem hwl
  have hget : ∀ (hx : Int.toNat (w : Int) < d.size), ((d[Int.toNat (w : Int)]'hx).toNat : Int) = (((bs d)[w] : Nat) : Int) := fun hx => by
   simp [bs]
   rfl
  have htk : (bs d).take (w + 1) = (bs d).take w ++ [(bs d)[w]] := by rw [List.take_add_one, hx]; rfl
  have hpre := hbal.pre (w + 1)
  refine ⟨by omega, by omega, by rw [Int.toNat_natCast]; exact hw', _, rfl, ?_⟩
  rw [hget]
  refine ⟨fun h40 => ?_, fun h40 => ?_⟩
  ·have h40 : (bs d)[w] = 40 := by omega
   refine hO.push (t := 53) underlying53 sz3' zr3' rfl (by decide) st_int (by omega) fun s' F' h' => ?_
   unfold b12j3
   refine ⟨by omega, by omega, by rw [Int.toNat_natCast]; exact hw', _, rfl, fun _ => ?_, fun h => absurd (by rw [hget]; omega) h⟩
   unfold b12j2
   refine ⟨d.size - (w + 1), by omega, w + 1, G, L ++ [w], w64s (by omega), by omega, rfl, lG, by simpa [qvs] using h', fun x hx => ?_, ?_⟩
   ·rcases List.mem_append.1 hx with hx | hx
    ·have := hL x hx; omega
    ·rw [List.mem_singleton] at hx; omega
   ·rw [htk, h40, List.count_append, List.count_append, List.length_append]
    simp
    omega
  ·have h40 : (bs d)[w] ≠ 40 := by omega
   have hcc : ((bs d).take (w + 1)).count 40 = ((bs d).take w).count 40 := by
    rw [htk, List.count_append, List.count_singleton]
    simp [h40]
   unfold b12j3
   refine ⟨by omega, by omega, by rw [Int.toNat_natCast]; exact hw', _, rfl, fun h41 => ?_, fun h41 => ?_⟩
   ·rw [hget] at h41
    have h41 : (bs d)[w] ≠ 41 := by omega
    unfold b12j2
    refine ⟨d.size - (w + 1), by omega, w + 1, G, L, w64s (by omega), by omega, rfl, lG, hO, fun x hx => by have := hL x hx; omega, ?_⟩
    rw [hcc, htk, List.count_append, List.count_singleton]
    simp [h41]
    exact hc
   ·rw [hget] at h41
    have h41 : (bs d)[w] = 41 := by omega
    have hc41 : ((bs d).take (w + 1)).count 41 = ((bs d).take w).count 41 + 1 := by
     rw [htk, List.count_append, h41]
     simp
    rw [hc41, hcc] at hpre
    have hpos : 1 ≤ L.length := by omega
    obtain ⟨M, x, rfl⟩ : ∃ M x, L = M ++ [x] := ⟨L.dropLast, L.getLast (by intro e; rw [e] at hpos; simp at hpos), (List.dropLast_concat_getLast _).symm⟩
    rw [List.length_append, List.length_singleton] at hlen hc hpos
    refine ⟨fun h => by omega, fun _ => ?_⟩
    have eL : IntKind.i64.wrap ((os.len : Int) - 1) = ((M.length : Nat) : Int) := by rw [w64_eq (by omega) (by omega)]; omega
    rw [eL, Int.toNat_natCast]
    have hxw := hL x (by simp)
    obtain ⟨b, o, hbase, hcell⟩ := hO.own.rd.cells (by omega)
    have hcx := hcell M.length (by simp [qvs])
    have hvx : F.cell (Addr.add ⟨b, o, none⟩ (M.length * 1)) = some (vi x) := by
     rw [add_off, Nat.mul_one, hcx]
     simp [qvs]
    have hne : os ≠ Sl.nil := by rintro rfl; simp [Sl.nil] at hlen
    have hcap : M.length ≤ os.cap := by have := hO.own.rd.cap; omega
    have hcut := fun {G' F' : PH} (h : Ov 3 G' F' os (qvs (M ++ [x]))) => h.cut (k := M.length) (by omega) hne
    have e3 : (qvs (M ++ [x])).take M.length = qvs M := by simp [qvs, List.take_left']
    have j2 : ∀ {G' F' : PH}, F0.le G' → Ov 3 G' F' os (qvs (M ++ [x])) → b12j2 (fun y0 y1 F' => ∃ m', m' < d.size - w ∧ qI1 F0 d m' y0 y1 F') true s d (w : Int) (Sl.cut os 1 0 M.length os.cap) R F' := fun {G' F'} l' h' => by
     have h3 := hcut h'
     rw [e3] at h3
     unfold b12j2
     refine ⟨d.size - (w + 1), by omega, w + 1, G', M, w64s (by omega), by omega, rfl, l', h3, fun y hy => by have := hL y (by simp [hy]); omega, ?_⟩
     rw [hc41, hcc]
     omega
    refine ⟨_, hbase, by omega, by omega, (x : Int), hvx, by omega, by omega, hcap, fun _ => j2 lG hO, fun hxn => ?_⟩
    have e4 : Int.toNat (IntKind.i64.wrap ((x : Int) + 1)) = x + 1 := by rw [w64s (by omega), Int.toNat_natCast]
    have e5 : Int.toNat (IntKind.i64.wrap ((w : Int) + 1)) = w + 1 := by rw [w64s (by omega), Int.toNat_natCast]
    rw [e4, e5, Int.toNat_natCast, Int.toNat_natCast]
    have z1 : (d.extract 0 x).size = x := by rw [← bs_length, ext_take, List.length_take]; omega
    have z2 : (d.extract (x + 1) w).size = w - (x + 1) := by rw [← bs_length, bs_extract, List.length_take, List.length_drop]; omega
    have z3 : (d.extract (w + 1) d.size).size = d.size - (w + 1) := by rw [← bs_length, ext_drop, List.length_drop, hdn]
    refine ⟨by omega, by omega, by omega, by rw [w64s (by omega)]; omega, by omega, by omega, by omega, by rw [z1, z2]; omega, by rw [w64s (by omega)]; omega, by omega, Nat.le_refl _, by rw [ByteArray.size_append, z1, z2, z3]; omega, ?_⟩
    have hsz : ((d.extract 0 x ++ d.extract (x + 1) w) ++ d.extract (w + 1) d.size).size < t.pr.length := by
     rw [ByteArray.size_append, ByteArray.size_append, z1, z2, z3, ← hd, hdn]
     omega
    generalize ((d.extract 0 x ++ d.extract (x + 1) w) ++ d.extract (w + 1) d.size) = st' at *
    refine (hO.call (parse_spec G st')).mono ?_
    rintro _ F1 ⟨G1, ⟨⟨_, rfl, s', rfl, hr'⟩, l1⟩, hO⟩
    refine ⟨s', _, rfl, fun h0 => ?_, fun _ => j2 (le_trans' lG l1) hO⟩
    refine (hO.call (same_spec (Nat.le_trans (parseR_len st') (by decide)) hr' ((hr.le lG).le l1))).mono ?_
    rintro _ F2 ⟨G2, ⟨rfl, rfl⟩, hO2⟩
    rw [decide_eq_false (no_less hb hsz h0)]
    exact ⟨false, rfl, fun h => (by cases h), fun _ => j2 (le_trans' lG l1) hO2⟩
 ·have hw' : w = d.size := by omega
  subst hw'
  unfold b12j1
  rw [List.take_of_length_le (by omega)] at hc
  have := hbal.all
  refine ⟨fun _ => hR _ (le_trans' lG hO.le), fun h => by omega⟩
theorem law12_b12 (hT : Tab F) {sl : Sl} {zs : List Int} (h1 : RdS F sl 1 (zs.map (Value.int .u8))) (hz1 : ∀ z ∈ zs, 0 ≤ z ∧ z ≤ 255) (hn1 : zs.length ≤ 9000000000000000) : b12 sl (fun r F' => r = .bool true ∧ F.le F') F := by
 unfold b12
 refine (sanity_spec hT).mono ?_
 rintro _ F1 ⟨rfl, l1⟩
 refine ⟨true, rfl, ?_⟩
 refine (made_spec (by decide) (h1.le l1) hz1 hn1).mono ?_
 rintro _ F2 ⟨hm, l2⟩
 obtain ⟨s, t, rfl, hb, hz, hr, _⟩ := hm.rd
 replace l2 := le_trans' l1 l2
 refine ⟨s, rfl, ?_⟩
 refine (print_made (hT.le l2) hr hb (by omega)).mono ?_
 rintro _ F3 ⟨⟨d, rfl, hd, hl⟩, l3⟩
 replace hr := hr.le l3
 replace l3 := le_trans' l2 l3
 refine ⟨d, 0, rfl, fun h => absurd rfl h, fun _ => ?_⟩
 intro b hb22
 refine atI ?_
 have l4 := le_set_fresh (.cells #[] 3) hb22
 have q4 := set_eq F3 b (.cells #[] 3)
 generalize F3.set b (.cells #[] 3) = F4 at *
 refine ⟨qI1 F3 d, d.size, ⟨0, F3, [], rfl, by omega, by omega, le_refl' F3, ⟨l4, .inr ⟨b, #[], rfl, q4, rfl, Nat.le_refl _, rfl, rfl⟩, fun a ha => by cases ha; exact hb22⟩, fun x hx => (by cases hx), by simp⟩, fun m os i F5 hI => law12_L1 hr hb hd (by omega) (fun F' h => ⟨rfl, le_trans' l3 h⟩) hI⟩
theorem law12_spec (hT : Tab F) {sl : Sl} {zs : List Int} (h1 : RdS F sl 1 (zs.map (Value.int .u8))) (hz1 : ∀ z ∈ zs, 0 ≤ z ∧ z ≤ 255) (hn1 : zs.length ≤ 9000000000000000) : Spec prog 12 #[sl.v] F fun r F' => r = .bool true ∧ F.le F' := c12 (law12_b12 hT h1 hz1 hn1)
end
end Go.Proofs.YtnjcgpihfmklfaaDoor
