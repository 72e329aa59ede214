/-
  The law's helpers: contents compared, same, names, twice, kept, record.
-/
import Derived.Test.YtelkfnmdnbbniaaWg
import Derived.Test.YtelkfnmdnbbniaaGl
import Derived.Test.YtelkfnmdnbbniaaGr
namespace Go.Proofs.Ytelkfnmdnbbniaa
open Go Go.Proofs.Try
set_option maxRecDepth 10000
def pick1 (b : List Int) (i : Nat) (p : Nat × Int) : Nat × Int := if mk0 b = 1 ∧ p.2 < nm b ∧ vl b = magic then (i, nm b) else p
def pick (D : Nat → List Int) (size : Nat) : Nat → Nat × Int
 | 0 => (0, 0)
 | i + 1 => pick1 (D (i * size)) i (pick D size i)
theorem pick_inv {D : Nat → List Int} {n : Nat} {x : SS} (h : SInv D n x) : pick D (n / 2) 2 = (x.half, x.num) := by
 have h1 := h.num1
 have h2 := h.num2
 have hs := h.size
 have hp := h.pos
 have hd := h.hdr
 have ho := h.oth
 have hnm : nm (hdl 1 x.num magic) = x.num := nm_hdl (by omega) (by omega)
 have hvl : vl (hdl 1 x.num magic) = magic := vl_hdl (by decide) (by decide)
 show pick1 (D (1 * (n / 2))) 1 (pick1 (D (0 * (n / 2))) 0 (0, 0)) = _
 rw [Nat.one_mul, Nat.zero_mul, ← hs]
 rcases hp with ⟨e, e1, e2⟩ | ⟨e, e1, e2⟩
 ·rw [e1] at hd
  rw [e2] at ho
  have q1 : pick1 (D 0) 0 (0, 0) = (0, x.num) := by
   unfold pick1
   rw [hd, if_pos ⟨rfl, by rw [hnm]; show (0 : Int) < x.num; omega, hvl⟩, hnm]
  rw [q1, e]
  unfold pick1
  rw [if_neg]
  rintro ⟨c1, c2, c3⟩
  exact ho ⟨c1, c3, Int.le_of_lt c2⟩
 ·rw [e1] at hd
  rw [e2] at ho
  have q1 : (pick1 (D 0) 0 (0, 0)).2 < x.num := by
   unfold pick1
   split
   ·rename_i hc
    show nm (D 0) < x.num
    apply Classical.byContradiction
    intro hn
    exact ho ⟨hc.1, hc.2.2, by omega⟩
   ·show (0 : Int) < x.num
    omega
  rw [e]
  generalize pick1 (D 0) 0 (0, 0) = q at *
  unfold pick1
  rw [hd, if_pos ⟨rfl, by rw [hnm]; exact q1, hvl⟩, hnm]
theorem nm_range {b : List Int} (h : Byt b) (hl : b.length = 64) : 0 ≤ nm b ∧ nm b < 18446744073709551616 := un8_range (byt_take (byt_drop h 1) 8) (by rw [List.length_take, List.length_drop]; omega)
theorem le_keep {F G H : PH} {b : Nat} (h : F.le G) (hk : Keep (· = b) G H) (hb : F b = none) : F.le H := fun y o hy => hk y o (h y o hy) (fun e => by rw [e, hb] at hy; cases hy)
section
variable {F K : PH} {d n : Nat} {fd : Nat → Prop} {s : DS}
theorem act_new {F' : PH} {st cm : Nat} {y : SS} (hd : DRep F K d fd n s) (hle : F.le F') (hst : F st = none) (hcm : F cm = none) (ho : StO F' (mns F' (fun b => fd b ∨ b = st ∨ b = cm)) st cm d y) : Act F' (fun b => fd b ∨ b = st ∨ b = cm) n s st cm d y := by
 have hn : ∀ b, F b ≠ none → ¬ fs2 st cm b := by
  rintro b hb (rfl | rfl)
  ·exact hb hst
  ·exact hb hcm
 refine ⟨⟨fd, K, hd.keep (fun b hb => ?_) (fun b o hb => ?_), fun b => Iff.rfl⟩, ho⟩
 ·have hb' := hd.dom b hb
  rw [mns_of (hn b hb')]
  cases hf : F b with
  | none => exact absurd hf hb'
  | some o => exact hle _ _ hf
 ·have h1 := hd.K_le _ _ hb
  have h2 := mns_le _ _ _ _ h1
  have h3 : ¬ fd b := fun e => by unfold mns at h1; rw [if_pos e] at h1; cases h1
  rw [mns_of h3, mns_of (hn b (by rw [h2]; simp))]
  exact hle _ _ h2
theorem open_spec (hd : DRep F K d fd n s) (hup : Up s) (hn : n ≤ 1000) (hbyt : ∀ q, q < n → Byt (s.rd q) ∧ (s.rd q).length = 64) {x : SS} (hc : n < 4 ∨ (pick s.rd (n / 2) 2).2 = 0 ∨ SInv s.rd n x) :
  Spec prog 20 #[.pointer (some ⟨d, 0, none⟩)] F fun v F' => F.le F' ∧ ((n < 4 ∧ v = .tuple #[.pointer none, .int .i64 1]) ∨ (4 ≤ n ∧ (pick s.rd (n / 2) 2).2 = 0 ∧ v = .tuple #[.pointer none, .int .i64 350]) ∨
   (4 ≤ n ∧ ∃ st cm, SInv s.rd n x ∧ v = .tuple #[.pointer (some ⟨st, 0, none⟩), .int .i64 0] ∧ F st = none ∧ F cm = none ∧ StO F' (mns F' (fun b => F b ≠ none ∨ b = st ∨ b = cm)) st cm d { x with broken := false } ∧ Act F' (fun b => fd b ∨ b = st ∨ b = cm) n s st cm d { x with broken := false })) := by
 have hok := hd.ok
 refine c20 ?_
 unfold b20
 refine (sectors_spec hd).mono ?_
 rintro v F1 ⟨rfl, ee⟩
 obtain rfl := ee.symm
 refine ⟨_, rfl, fun h4 => ⟨le_refl' _, .inl ⟨by omega, rfl⟩⟩, fun h4 => ?_⟩
 refine (sectors_spec hd).mono ?_
 rintro v F1 ⟨rfl, ee⟩
 obtain rfl := ee.symm
 refine ⟨_, rfl, ?_⟩
 intro cm hcm
 refine atI ?_
 intro st hst0
 refine atI ?_
 have hne : st ≠ cm := fun e => by rw [e, set_eq] at hst0; cases hst0
 have hst : F st = none := by rw [set_ne _ _ hne] at hst0; exact hst0
 have hsize : IntKind.i64.wrap (Int.tdiv (n : Int) 2) = ((n / 2 : Nat) : Int) := by
  rw [Int.tdiv_eq_ediv_of_nonneg (by omega), w64_eq (by omega) (by omega)]
  omega
 rw [hsize]
 have hc' : (pick s.rd (n / 2) 2).2 = 0 ∨ SInv s.rd n x := by
  rcases hc with h | h
  ·omega
  ·exact h
 refine ⟨fun m i F' => ∃ k : Nat, i = k ∧ k ≤ 2 ∧ m = 2 - k ∧ F.le F' ∧ F' cm = some (.map #[] 0) ∧ F' st = some (.cells (scells d cm ⟨n / 2, (pick s.rd (n / 2) k).1, (pick s.rd (n / 2) k).2, 0, [], false⟩) 84 (0, 0)), 2,
  ⟨0, rfl, by omega, rfl, le_trans' (le_set_fresh _ hcm) (le_set_fresh _ hst0), by rw [set_ne _ _ hne.symm, set_eq], by rw [set_eq]; rfl⟩, ?_⟩
 rintro _ _ F1 ⟨k, rfl, hk, rfl, l1, hcm1, hst1⟩
 unfold b20L2
 refine ⟨fun hlt => ?_, fun hge => ?_⟩
 ·have hk' : k < 2 := by omega
  refine ⟨((n / 2 : Nat) : Int), by rw [cell_eq hst1]; rfl, ?_⟩
  have hq : k * (n / 2) < n := by
   rcases Nat.lt_or_ge k 1 with e | e
   ·obtain rfl : k = 0 := by omega
    omega
   ·obtain rfl : k = 1 := by omega
    omega
  have eat : IntKind.i64.wrap ((k : Int) * ((n / 2 : Nat) : Int)) = ((k * (n / 2) : Nat) : Int) := by
   rw [show (k : Int) * ((n / 2 : Nat) : Int) = ((k * (n / 2) : Nat) : Int) by rw [Int.natCast_mul], w64_eq (by omega) (by omega)]
  rw [eat]
  have hread := hup.read hq
  refine (read_spec (hd.le l1)).mono ?_
  rintro v F2 ⟨l2, h2⟩
  rcases h2 with ⟨e, _, h3, h5⟩ | ⟨g, l, hg, rfl, hgl, h3, hl⟩
  ·rw [hread] at h3
   injection h3 with _ h3
   exact absurd h3.symm h5
  rw [hread] at h3
  injection h3 with h3 _
  obtain rfl := h3
  have hb := (hbyt _ hq).1
  have hnr := nm_range hb hl
  refine ⟨_, 0, rfl, fun h => absurd rfl h, fun _ => ?_⟩
  refine ⟨by simp only; omega, by simp only; omega, ?_⟩
  refine (get_cut hgl hl hb (o := 1) (by omega)).mono ?_
  rintro v F3 ⟨rfl, ee⟩
  obtain rfl := ee.symm
  have hst2 := l2 _ _ hst1
  have hcm2 := l2 _ _ hcm1
  have hp : pick s.rd (n / 2) (k + 1) = pick1 (s.rd (k * (n / 2))) k (pick s.rd (n / 2) k) := rfl
  have stay : pick s.rd (n / 2) (k + 1) = pick s.rd (n / 2) k → ∀ (N : PH → Prop), (∀ F', (∃ m', m' < 2 - k ∧ ∃ k' : Nat, IntKind.i64.wrap ((k : Int) + 1) = k' ∧ k' ≤ 2 ∧ m' = 2 - k' ∧ F.le F' ∧ F' cm = some (.map #[] 0) ∧ F' st = some (.cells (scells d cm ⟨n / 2, (pick s.rd (n / 2) k').1, (pick s.rd (n / 2) k').2, 0, [], false⟩) 84 (0, 0))) → N F') → N F2 := fun he N hN => hN _ ⟨2 - (k + 1), by omega, k + 1, w64s (by omega), by omega, rfl, le_trans' l1 l2, hcm2, by rw [he]; exact hst2⟩
  refine ⟨_, rfl, _, rfl, by omega, by simp only; omega, _, get_mark hgl hl, fun hm => ?_, fun hm => ?_⟩
  ·refine ⟨(pick s.rd (n / 2) k).2, by rw [cell_eq hst2]; rfl, fun hlt2 => ?_, fun hge2 => ?_⟩
   ·refine ⟨by simp only; omega, by simp only; omega, ?_⟩
    refine (get_cut hgl hl hb (o := 9) (by omega)).mono ?_
    rintro v F3 ⟨rfl, ee⟩
    obtain rfl := ee.symm
    refine ⟨_, rfl, ?_⟩
    unfold b20j3
    refine ⟨fun hd9 => ?_, fun hd9 => ?_⟩
    ·have hv9 : vl (s.rd (k * (n / 2))) = magic := of_decide_eq_true hd9
     have hpk : pick s.rd (n / 2) (k + 1) = (k, nm (s.rd (k * (n / 2)))) := by
      rw [hp]
      unfold pick1
      rw [if_pos ⟨hm, hlt2, hv9⟩]
     refine st1' (b := st) (o := 2) rfl hst2 (by simp) ?_
     refine st1' (b := st) (o := 3) rfl (set_eq _ _ _) (by simp) ?_
     rw [set_twice]
     unfold b20j2
     refine ⟨2 - (k + 1), by omega, k + 1, w64s (by omega), by omega, rfl, ?_, ?_, ?_⟩
     ·exact le_set_new (le_trans' l1 l2) hst
     ·rw [set_ne _ _ hne.symm]; exact hcm2
     ·rw [set_eq, hpk]; rfl
    ·have hv9 : ¬ vl (s.rd (k * (n / 2))) = magic := of_decide_eq_false hd9
     unfold b20j2
     refine stay ?_ _ (fun F' h => h)
     rw [hp]
     unfold pick1
     rw [if_neg (fun h => hv9 h.2.2)]
   ·unfold b20j3
    refine ⟨fun h => (by cases h), fun _ => ?_⟩
    unfold b20j2
    refine stay ?_ _ (fun F' h => h)
    rw [hp]
    unfold pick1
    rw [if_neg (fun h => hge2 h.2.1)]
  ·unfold b20j3
   refine ⟨fun h => (by cases h), fun _ => ?_⟩
   unfold b20j2
   refine stay ?_ _ (fun F' h => h)
   rw [hp]
   unfold pick1
   rw [if_neg (fun h => hm h.1)]
 ·obtain rfl : k = 2 := by omega
  unfold b20j1
  refine ⟨(pick s.rd (n / 2) 2).2, by rw [cell_eq hst1]; rfl, fun h0 => ⟨l1, .inr (.inl ⟨by omega, h0, rfl⟩)⟩, fun h0 => ?_⟩
  have hx : SInv s.rd n x := by
   rcases hc' with h | h
   ·exact absurd h h0
   ·exact h
  have hpk := pick_inv hx
  rw [hpk] at hst1
  have hpos := hx.pos
  have hsz := hx.size
  have hn1 := hx.num1
  have hn2 := hx.num2
  obtain ⟨ts, hlog, hL, hused⟩ := hx.log
  have hfd : ∀ b, (F b ≠ none ∨ b = st ∨ b = cm) → F1 b ≠ none := by
   rintro b (h | rfl | rfl)
   ·have := h
    cases hf : F b with
    | none => exact absurd hf this
    | some o => rw [l1 _ _ hf]; simp
   ·rw [hst1]; simp
   ·rw [hcm1]; simp
  refine ⟨fun m F' => ∃ (done rest : List (List Rc)) (o : Obj) (mm : ByteArray → Option Value), ts = done ++ rest ∧ m = rest.length ∧ F.le F' ∧ F' st = some (.cells (scells d cm ⟨n / 2, x.half, x.num, usedOf done, afterR [] done.flatten, false⟩) 84 (0, 0)) ∧ F' cm = some o ∧ MapE mm o ∧
   Vals (mns F' (fun b => F b ≠ none ∨ b = st ∨ b = cm)) mm (afterR [] done.flatten) ∧ (∀ b, (F b ≠ none ∨ b = st ∨ b = cm) → F' b ≠ none) ∧ LogAt s.rd (x.half * (n / 2) + 1) (n / 2 - 1) x.num (usedOf done) rest, ts.length,
   ⟨[], ts, _, _, rfl, rfl, l1, hst1, hcm1, MapE.empty, fun k => ⟨fun _ => rfl, fun v hv => (by cases hv)⟩, hfd, by rw [← hsz]; exact hlog⟩, ?_⟩
  rintro _ F2 ⟨done, rest, o, mm, hts, rfl, l2, hst2, hcm2, hmm, hV, hfd2, hlg⟩
  have hrds : Rds F2 K d n st cm fd s ⟨n / 2, x.half, x.num, usedOf done, afterR [] done.flatten, false⟩ := ⟨hd.le l2, hst2, hup, hn, hbyt, by show x.half * (n / 2) + n / 2 ≤ n; rw [← hsz]; omega, by show 1 ≤ n / 2; omega, by show 0 ≤ x.num; omega, hn2⟩
  unfold b20L1
  cases rest with
  | nil =>
   refine (readlog_nil hrds hlg).mono ?_
   rintro v F3 ⟨l3, rfl⟩
   refine ⟨Sl.nil, false, 0, rfl, fun h => absurd rfl h, fun _ => ⟨fun _ => ?_, fun h => (by cases h)⟩⟩
   have hts' : ts = done := by rw [hts, List.append_nil]
   refine ⟨le_trans' l2 l3, .inr (.inr ⟨by omega, st, cm, hx, rfl, hst, hcm, ?_⟩)⟩
   have hx' : ({ x with broken := false } : SS) = ⟨n / 2, x.half, x.num, usedOf done, afterR [] done.flatten, false⟩ := by
    rw [← hts', ← hL, ← hused, ← hsz]
   rw [hx']
   have hsto : StO F3 (mns F3 (fun b => F b ≠ none ∨ b = st ∨ b = cm)) st cm d ⟨n / 2, x.half, x.num, usedOf done, afterR [] done.flatten, false⟩ := ⟨l3 _ _ hst2, ⟨o, mm, l3 _ _ hcm2, hmm, hV.le (mns_mono l3)⟩, afterR_srt List.Pairwise.nil⟩
   refine ⟨hsto, act_new hd (le_trans' l2 l3) hst hcm (hsto.le (le_refl' _) fun b o hb => ?_)⟩
   unfold mns at hb ⊢
   split at hb
   ·cases hb
   ·rename_i hn
    rw [if_neg (fun e => hn (e.imp (fun h => hd.dom b h) id))]
    exact hb
  | cons t rest =>
   have hval := hlg.2.2.1
   have hfit := hlg.1
   have hse : secs (plen t) = 1 + (plen t + 62) / 63 := rfl
   refine (readlog_cons hrds hlg).mono ?_
   rintro v F3 ⟨l3, sl, rfl, hrd⟩
   refine ⟨sl, true, 0, rfl, fun h => absurd rfl h, fun _ => ⟨fun h => (by cases h), fun _ => ?_⟩⟩
   have hst3 := l3 _ _ hst2
   refine ⟨some cm, by rw [cell_eq hst3]; rfl, ?_⟩
   refine (records_spec hrd (fun r hr => ⟨(hval r hr).1, (hval r hr).2.1, (hval r hr).2.2.1⟩) (by omega)).mono ?_
   rintro v F4 ⟨sl4, T, rfl, hT, hrT, l4⟩
   have hst4 := l4 _ _ hst3
   have hcm4 := l4 _ _ (l3 _ _ hcm2)
   have hl24 := le_trans' l3 l4
   refine ⟨sl4, rfl, by rw [cell_eq hst4]; rfl, ?_⟩
   have hTl : T.length = t.length := by rw [← hT]; simp [rcs]
   have htl := plen_le t
   have hfd4 : ∀ b, (F b ≠ none ∨ b = st ∨ b = cm) → F4 b ≠ none := fun b hb => by
    have := hfd2 b hb
    cases hf : F2 b with
    | none => exact absurd hf this
    | some o => rw [hl24 _ _ hf]; simp
   refine (apply_spec (fp := fun b => F b ≠ none ∨ b = st ∨ b = cm) hcm4 hmm (hV.le (mns_mono hl24)) hfd4 (.inr (.inr rfl)) hrT (by omega) (fun y hy => ?_)).mono ?_
   ·have hmem : (y.1, y.2.2) ∈ t := by rw [← hT]; exact List.mem_map.2 ⟨y, hy, rfl⟩
    have := (hval _ hmem).2.2.1
    simp only at this
    omega
   rintro v F5 ⟨rfl, o5, m5, hcm5, hm5, hv5, hk5⟩
   have hst5 := hk5 _ _ hst4 hne
   have hsl := (hrd.le l4).ulen
   rw [plen_payl] at hsl
   refine ⟨rfl, ((usedOf done : Nat) : Int), by rw [cell_eq hst5]; rfl, ?_⟩
   rw [hsl]
   refine (sectors_of (p := (plen t : Int)) (by omega) (by omega)).mono ?_
   rintro v F6 ⟨rfl, ee⟩
   obtain rfl := ee.symm
   refine ⟨_, rfl, by rw [cell_eq hst5]; rfl, ?_⟩
   refine st1' (b := st) (o := 4) rfl hst5 (by simp) ?_
   have eus : IntKind.i64.wrap (((usedOf done : Nat) : Int) + (1 + ((plen t : Int) + 62) / 63)) = ((usedOf (done ++ [t]) : Nat) : Int) := by
    rw [usedOf_append, usedOf_cons, show usedOf [] = 0 from rfl, hse, w64_eq (by omega) (by omega)]
    omega
   rw [eus]
   have hl5 : F.le F5 := le_keep (le_trans' l2 hl24) hk5 hcm
   refine ⟨rest.length, by simp, done ++ [t], rest, o5, m5, by rw [hts]; simp, rfl, le_set_new hl5 hst, ?_, by rw [set_ne _ _ hne.symm]; exact hcm5, hm5, ?_, fun b hb => ?_, ?_⟩
   ·rw [set_eq]
    rfl
   ·rw [mns_same (fp := fun b => F b ≠ none ∨ b = st ∨ b = cm) (.inr (.inl rfl)), List.flatten_append, afterR_append]
    rw [hT] at hv5
    simpa using hv5
   ·by_cases e : b = st
    ·rw [e, set_eq]; simp
    ·rw [set_ne _ _ e]
     by_cases e2 : b = cm
     ·rw [e2, hcm5]; simp
     ·have := hfd4 b hb
      cases hf : F4 b with
      | none => exact absurd hf this
      | some o => rw [hk5 _ _ hf e2]; simp
   ·rw [usedOf_append, usedOf_cons, show usedOf [] = 0 from rfl, Nat.add_zero]
    exact hlg.2.2.2
end
abbrev fpo (fd : Nat → Prop) (st cm : Nat) : Nat → Prop := fun b => fd b ∨ b = st ∨ b = cm
structure ActD (F K : PH) (fd : Nat → Prop) (n : Nat) (s : DS) (st cm d : Nat) (x : SS) : Prop where
 hd : DRep (mns F (fs2 st cm)) K d fd n s
 ho : StO F (mns F (fpo fd st cm)) st cm d x
theorem Act.open {F : PH} {fp : Nat → Prop} {n : Nat} {s : DS} {st cm d : Nat} {x : SS} (h : Act F fp n s st cm d x) : ∃ fd K, fp = fpo fd st cm ∧ ActD F K fd n s st cm d x := by
 obtain ⟨⟨fd, K, h1, h2⟩, h3⟩ := h
 have e : fp = fpo fd st cm := funext fun b => propext (h2 b)
 subst e
 exact ⟨fd, K, rfl, h1, h3⟩
theorem ActD.act {F K : PH} {fd : Nat → Prop} {n : Nat} {s : DS} {st cm d : Nat} {x : SS} (h : ActD F K fd n s st cm d x) : Act F (fpo fd st cm) n s st cm d x := ⟨⟨fd, K, h.hd, fun _ => Iff.rfl⟩, h.ho⟩
section
variable {F G K : PH} {fd fd' : Nat → Prop} {n : Nat} {s s' : DS} {st cm d : Nat} {x y : SS}
theorem ActD.le (h : ActD F K fd n s st cm d x) (l : F.le G) : ActD G K fd n s st cm d x := ⟨h.hd.le (mns_mono l), h.ho.le l (mns_mono l)⟩
theorem ActD.sto (h : ActD F K fd n s st cm d x) : StO F F st cm d x := h.ho.le (le_refl' _) (mns_le _ _)
theorem ActD.cm_ne (h : ActD F K fd n s st cm d x) : F cm ≠ none := by
 obtain ⟨o, m, h1, _⟩ := h.ho.hm
 rw [h1]
 simp
theorem ActD.dom (h : ActD F K fd n s st cm d x) : ∀ b, fpo fd st cm b → F b ≠ none := by
 rintro b (hb | rfl | rfl)
 ·intro hn
  refine h.hd.dom b hb ?_
  unfold mns
  split
  ·rfl
  ·exact hn
 ·rw [h.ho.hs]; simp
 ·exact h.cm_ne
theorem Step.wide {fs : Nat → Prop} (h : Step fd F fd' G) : Step (fun b => fd b ∨ fs b) F (fun b => fd' b ∨ fs b) G :=
 ⟨h.keep.mono fun b hb => .inl hb, fun b hb => by
  rcases hb with hb | hb
  ·rcases h.new b hb with h1 | h1
   ·exact .inl (.inl h1)
   ·exact .inr h1
  ·exact .inl (.inr hb)⟩
theorem ActD.step {K' : PH} (h : ActD F K fd n s st cm d x) (hd : DRep (mns G (fs2 st cm)) K' d fd' n s') (hs : Step fd F fd' G) (h1 : G st = F st) (h2 : G cm = F cm) : ActD G K' fd' n s' st cm d x ∧ Step (fpo fd st cm) F (fpo fd' st cm) G := by
 have hw : Step (fpo fd st cm) F (fpo fd' st cm) G := hs.wide
 obtain ⟨o, m, g1, g2, g3⟩ := h.ho.hm
 exact ⟨⟨hd, h1.trans h.ho.hs, ⟨o, m, h2.trans g1, g2, g3.le hw.le⟩, h.ho.srt⟩, hw⟩
theorem ActD.cells (h : ActD F K fd n s st cm d x) (hL : y.L = x.L) : ActD (F.set st (.cells (scells d cm y) 84)) K fd n s st cm d y ∧ Step (fpo fd st cm) F (fpo fd st cm) (F.set st (.cells (scells d cm y) 84)) := by
 obtain ⟨o, m, g1, g2, g3⟩ := h.ho.hm
 refine ⟨⟨?_, set_eq _ _ _, ⟨o, m, ?_, g2, ?_⟩, ?_⟩, ⟨Keep.set _ (.inl (.inr (.inl rfl))), fun b hb => .inl hb⟩⟩
 ·rw [mns_same (fp := fs2 st cm) (.inl rfl)]
  exact h.hd
 ·rw [set_ne _ _ h.ho.ne.symm]
  exact g1
 ·rw [mns_same (fp := fpo fd st cm) (.inr (.inl rfl)), hL]
  exact g3
 ·rw [hL]
  exact h.ho.srt
theorem ActD.rd_new (h : ActD F K fd n s st cm d x) {e size : Nat} {sl : Sl} {vs : List Value} (hO : Ov e size F G sl vs) : RdS (mns (mns G (fs2 st cm)) fd) sl size vs := by
 rw [mns_mns]
 have : OwnS (mns G fun b => fs2 st cm b ∨ fd b) e size sl vs := hO.own.keep fun a ha => mns_of fun hb => by
  have h1 := hO.oz a ha
  rcases hb with hb | hb
  ·exact h.dom _ (.inr hb) h1
  ·exact h.dom _ (.inl hb) h1
 exact this.rd
theorem ActD.fs (h : ActD F K fd n s st cm d x) : ∀ b, fs2 st cm b → F b ≠ none := fun b hb => h.dom b (.inr hb)
theorem put_act {sl : Sl} {bs : List (List Int)} {at_ : Int} {e : Nat} (h : ActD F K fd n s st cm d x) (hO : Ov e 64 F G sl (flatB bs)) (hb : ∀ b ∈ bs, b.length = 64) (h1000 : s.ws.length + bs.length ≤ 1000) (h0 : 0 ≤ at_) (h1 : at_ ≤ 1000000) :
  Spec prog 57 #[.pointer (some ⟨d, 0, none⟩), .int .i64 at_, sl.v] G fun v F' => v = .int .i64 (putW s n at_ bs).2 ∧ ∃ fd', ActD F' K fd' n (putW s n at_ bs).1 st cm d x ∧ Step (fpo fd st cm) F (fpo fd' st cm) F' := by
 have hG := h.le hO.le
 refine (Spec.side hG.fs (put_spec hG.hd (h.rd_new hO) hb h1000 h0 h1)).mono ?_
 rintro v F2 ⟨⟨rfl, fd2, hrep, hs⟩, hf⟩
 obtain ⟨a1, a2⟩ := hG.step hrep (hs.side hf hrep.dom) (hf st (.inl rfl)) (hf cm (.inr rfl))
 exact ⟨rfl, fd2, a1, (Step.of_le hO.le).trans a2⟩
theorem complete_act {sl : Sl} {l : List (List Int)} {at_ : Int} (h : ActD F K fd n s st cm d x) (hO : Ov 104 64 F G sl (flatB l)) (hl : l ≠ []) (hb : ∀ b ∈ l, b.length = 64) (h1000 : s.ws.length + l.length < 1000) (h0 : 0 ≤ at_) (h1 : at_ ≤ 1000000) :
  Spec prog 54 #[.pointer (some ⟨st, 0, none⟩), .int .i64 at_, sl.v] G fun v F' => v = .int .i64 (completeW s n at_ l).2 ∧ ∃ fd', ActD F' K fd' n (completeW s n at_ l).1 st cm d x ∧ Step (fpo fd st cm) F (fpo fd' st cm) F' := by
 refine (complete_spec h.hd h.ho.hs h.cm_ne hO hl hb h0 h1 h1000).mono ?_
 rintro v F2 ⟨rfl, fd2, hrep, hs, e1, e2⟩
 obtain ⟨a1, a2⟩ := h.step hrep hs e1 e2
 exact ⟨rfl, fd2, a1, a2⟩
theorem done_act {e : Int} (h : ActD F K fd n s st cm d x) : Spec prog 45 #[.pointer (some ⟨st, 0, none⟩), .int .i64 e] F fun v F' => v = .int .i64 e ∧ ActD F' K fd n s st cm d (if e ≠ 0 then { x with broken := true } else x) ∧ Step (fpo fd st cm) F (fpo fd st cm) F' := by
 refine c45 ?_
 unfold b45
 refine ⟨fun he => ?_, fun he => ?_⟩
 ·refine ⟨_, rfl, ?_⟩
  refine st1' (b := st) (o := 6) (by simp) h.ho.hs (by simp) ?_
  rw [if_pos he]
  obtain ⟨a1, a2⟩ := h.cells (y := { x with broken := true }) rfl
  exact ⟨rfl, a1, a2⟩
 ·rw [if_neg he]
  exact ⟨rfl, h, Step.refl _ _⟩
theorem Ov.one {F : PH} {b : Nat} {l : List Int} (hb : F b = none) (hl : l.length = 64) : Ov 104 64 F (F.set b (.cells (u8s l).toArray 104)) ⟨some ⟨b, 0, none⟩, 1, 1⟩ (flatB [l]) := by
 refine ⟨le_set_fresh _ hb, .inr ⟨b, _, rfl, set_eq _ _ _, by simp [hl], Nat.le_refl _, by simp [flatB, hl], ?_⟩, fun a ha => by cases ha; exact hb⟩
 simp [flatB]
 exact List.take_of_length_le (by simp [hl])
theorem Ov.mono {e size : Nat} {H : PH} {sl : Sl} {vs : List Value} (h : Ov e size G H sl vs) (l : F.le G) : Ov e size F H sl vs := ⟨le_trans' l h.le, h.own, fun a ha => le_none l (h.oz a ha)⟩
theorem compact_spec (h : ActD F K fd n s st cm d x) (hf : Fine s n) (hi : SInv s.rd n x) (hn : n ≤ 1000) (hnum : x.num < 9223372036854775807) :
  Spec prog 46 #[.pointer (some ⟨st, 0, none⟩)] F fun v F' => v = .int .i64 (compactW s n x).err ∧ ∃ fd', ActD F' K fd' n (compactW s n x).s st cm d (compactW s n x).x ∧ Step (fpo fd st cm) F (fpo fd' st cm) F' := by
 have hsm := hi.small hn
 have hpos := hi.pos
 have hsz := hi.size
 have h4 := hi.n4
 have hh := hi.half
 have hn1 := hi.num1
 have hsl := hi.snapB_le
 have hwl : s.ws.length = 0 := by rw [hf.ws]; rfl
 have hso := h.sto
 have eh : IntKind.i64.wrap ((1 : Int) - (x.half : Int)) = ((1 - x.half : Nat) : Int) := by rw [w64_eq (by omega) (by omega)]; omega
 have em : IntKind.i64.wrap (((1 - x.half : Nat) : Int) * (x.size : Int)) = (((1 - x.half) * x.size : Nat) : Int) := by
  rw [show ((1 - x.half : Nat) : Int) * (x.size : Int) = (((1 - x.half) * x.size : Nat) : Int) by rw [Int.natCast_mul], w64_eq (by omega) (by omega)]
 have em1 : IntKind.i64.wrap ((((1 - x.half) * x.size : Nat) : Int) + 1) = (((1 - x.half) * x.size + 1 : Nat) : Int) := w64s (by omega)
 have en : IntKind.u64.wrap (x.num + 1) = x.num + 1 := wu64_eq (by omega) (by omega)
 refine c46 ?_
 unfold b46
 refine ⟨_, rfl, (x.half : Int), by rw [add_mk, cell_eq hso.hs]; rfl, ?_⟩
 have j1 : ∀ (F1 : PH) (sl : Sl), Ov 104 64 F F1 sl (flatB (snapB x)) → b46j1 ⟨st, 0, none⟩ (x.half : Int) (snapN x.L : Int) sl (fun v F' => v = .int .i64 (compactW s n x).err ∧ ∃ fd', ActD F' K fd' n (compactW s n x).s st cm d (compactW s n x).x ∧ Step (fpo fd st cm) F (fpo fd' st cm) F') F1 := by
  intro F1 sl hO
  have hs1 := hO.le _ _ hso.hs
  unfold b46j1
  refine ⟨_, (cell_eq hs1).trans rfl, (x.size : Int), by rw [add_mk, cell_eq hs1]; rfl, ?_⟩
  rw [eh, em, em1]
  refine (put_act h hO (fun b hb => (hi.snapB_ok b hb).1) (by omega) (by omega) (by omega)).mono ?_
  rintro v F2 ⟨rfl, fd2, ha2, hst2⟩
  refine ⟨_, rfl, by rw [add_mk, cell_eq ha2.ho.hs]; rfl, fun hne => ?_, fun heq => ?_⟩
  ·have e : compactW s n x = ⟨(putW s n (((1 - x.half) * x.size + 1 : Nat) : Int) (snapB x)).1, (putW s n (((1 - x.half) * x.size + 1 : Nat) : Int) (snapB x)).2, x⟩ := by unfold compactW; rw [if_pos hne]
   rw [e]
   exact ⟨rfl, fd2, ha2, hst2⟩
  have hput : (putW s n (((1 - x.half) * x.size + 1 : Nat) : Int) (snapB x)).2 = 0 := Classical.not_not.1 heq
  have hws2 : (putW s n (((1 - x.half) * x.size + 1 : Nat) : Int) (snapB x)).1.ws.length = 0 := by
   rcases putW_cases (n := n) (a := (1 - x.half) * x.size + 1) (snapB x) hf.up (by omega) (fun b hb => (hi.snapB_ok b hb).1) with ⟨_, h2⟩ | ⟨h2, _⟩
   ·rw [h2.ws]; rfl
   ·rw [hput] at h2; cases h2
  have ecw : compactW s n x = if (completeW (putW s n (((1 - x.half) * x.size + 1 : Nat) : Int) (snapB x)).1 n (((1 - x.half) * x.size : Nat) : Int) [hdl 0 (x.num + 1) magic]).2 ≠ 0 then
    ⟨(completeW (putW s n (((1 - x.half) * x.size + 1 : Nat) : Int) (snapB x)).1 n (((1 - x.half) * x.size : Nat) : Int) [hdl 0 (x.num + 1) magic]).1, (completeW (putW s n (((1 - x.half) * x.size + 1 : Nat) : Int) (snapB x)).1 n (((1 - x.half) * x.size : Nat) : Int) [hdl 0 (x.num + 1) magic]).2, x⟩
    else ⟨(completeW (putW s n (((1 - x.half) * x.size + 1 : Nat) : Int) (snapB x)).1 n (((1 - x.half) * x.size : Nat) : Int) [hdl 0 (x.num + 1) magic]).1, 0, comp x⟩ := by
   conv => lhs; unfold compactW
   rw [if_neg heq]
  rw [ecw]
  generalize (putW s n (((1 - x.half) * x.size + 1 : Nat) : Int) (snapB x)).1 = s2 at *
  have hs2 := ha2.ho.hs
  refine ⟨(x.size : Int), by rw [add_mk, cell_eq hs2]; rfl, x.num, by rw [add_mk, cell_eq hs2]; rfl, ?_⟩
  rw [en]
  refine (head_spec (m := 0) (n := x.num + 1) (v := 461430681189) (F := F2)).mono ?_
  rintro v F3 ⟨rfl, l3⟩
  have ha3 := ha2.le l3
  have hs3 := ha3.ho.hs
  refine ⟨_, rfl, by rw [add_mk, cell_eq hs3]; rfl, by rw [add_mk, cell_eq hs3]; rfl, by simp [hdl_len], ?_⟩
  intro b57 h57
  refine atI ?_
  rw [em]
  refine (complete_act ha3 (Ov.one h57 (hdl_len _ _ _)) (by simp) (fun b hb => by rw [List.mem_singleton.1 hb]; rfl) (by rw [List.length_singleton]; omega) (by omega) (by omega)).mono ?_
  rintro v F4 ⟨rfl, fd4, ha4, hst4⟩
  have hs4 := ha4.ho.hs
  have hsteps := hst2.trans ((Step.of_le l3).trans hst4)
  refine ⟨_, rfl, by rw [add_mk, cell_eq hs4]; rfl, by rw [add_mk, cell_eq hs4]; rfl, fun hne => ?_, fun heq2 => ?_⟩
  ·rw [if_pos hne]
   exact ⟨rfl, fd4, ha4, hsteps⟩
  rw [if_neg heq2]
  refine ⟨x.num, by rw [add_mk, cell_eq hs4]; rfl, ?_⟩
  refine st1' (b := st) (o := 2) (by simp) hs4 (by simp) ?_
  refine st1' (b := st) (o := 4) (by simp) (set_eq _ _ _) (by simp) ?_
  rw [set_twice]
  refine st1' (b := st) (o := 3) (by simp) (set_eq _ _ _) (by simp) ?_
  rw [set_twice, en]
  obtain ⟨a1, a2⟩ := ha4.cells (y := comp x) rfl
  exact ⟨rfl, fd4, a1, hsteps.trans a2⟩
 refine (snapSize_spec hso hsm).mono ?_
 rintro v F1 ⟨rfl, l1⟩
 have hs1 := l1 _ _ hso.hs
 refine ⟨_, rfl, by rw [add_mk, cell_eq hs1]; rfl, by simp, ?_⟩
 intro b16 h16
 refine atI ?_
 refine ⟨fun hlt => ?_, fun hge => ?_⟩
 ·have hL : x.L ≠ [] := fun e => by
   rw [e] at hlt
   exact absurd hlt (by decide)
  have hsb : snapB x = blks 1 (x.num + 1) (payl x.L) := by unfold snapB; rw [if_neg hL]
  have l2 := le_trans' l1 (le_set_fresh (.cells (Array.replicate 64 (Value.int .u8 0)) 104) h16)
  generalize F1.set b16 (.cells (Array.replicate 64 (Value.int .u8 0)) 104) = F2 at *
  have hs2 := l2 _ _ hso.hs
  refine ⟨x.num, by rw [add_mk, cell_eq hs2]; rfl, ?_⟩
  refine (snapshot_spec (hso.le l2 l2) (le_refl' _) hsm).mono ?_
  rintro v F3 ⟨sl, T, rfl, hT, hr, l3⟩
  have hs3 := l3 _ _ hs2
  refine ⟨_, rfl, by rw [add_mk, cell_eq hs3]; rfl, ?_⟩
  have hpl := hsm.len
  refine (payload_spec hr (by rw [hT, plen_payl]; omega)).mono ?_
  rintro v F4 ⟨s4, rfl, hO4⟩
  rw [hT] at hO4
  have hs4 := hO4.le _ _ hs3
  refine ⟨_, rfl, by rw [add_mk, cell_eq hs4]; rfl, ?_⟩
  rw [en]
  refine (blocks_spec (m := 1) (num := x.num + 1) hO4.own.rd (by rw [plen_payl]; omega)).mono ?_
  rintro v F5 ⟨s5, rfl, hO5⟩
  have hs5 := hO5.le _ _ hs4
  refine ⟨_, rfl, by rw [add_mk, cell_eq hs5]; rfl, ?_⟩
  refine j1 F5 s5 ?_
  rw [hsb]
  exact hO5.mono (le_trans' l2 (le_trans' l3 hO4.le))
 ·have hL : x.L = [] := by
   apply Classical.byContradiction
   intro hne
   unfold snapN secs at hge
   rw [if_neg hne] at hge
   omega
  have hsb : snapB x = [List.replicate 64 0] := by unfold snapB; rw [if_pos hL]
  refine j1 _ _ ?_
  rw [hsb, z64_u8s]
  exact (Ov.one h16 (by simp)).mono l1
theorem Compact_spec (h : ActD F K fd n s st cm d x) (hf : x.broken = false → Fine s n) (hi : x.broken = false → SInv s.rd n x) (hn : n ≤ 1000) (hnum : x.broken = false → x.num < 9223372036854775807) :
  Spec prog 19 #[.pointer (some ⟨st, 0, none⟩)] F fun v F' => v = .int .i64 (compW s n x).err ∧ ∃ fd', ActD F' K fd' n (compW s n x).s st cm d (compW s n x).x ∧ Step (fpo fd st cm) F (fpo fd' st cm) F' := by
 refine c19 ?_
 unfold b19
 refine ⟨_, rfl, x.broken, by rw [add_mk, cell_eq h.ho.hs]; rfl, fun hb => ?_, fun hb => ?_⟩
 ·have e : compW s n x = ⟨s, 340, x⟩ := by unfold compW; rw [if_pos hb]
  rw [e]
  exact ⟨rfl, fd, h, Step.refl _ _⟩
 ·refine (compact_spec h (hf hb) (hi hb) hn (hnum hb)).mono ?_
  rintro v F2 ⟨rfl, fd2, ha2, hst2⟩
  refine ⟨_, rfl, ?_⟩
  refine (done_act ha2).mono ?_
  rintro v F3 ⟨rfl, ha3, hst3⟩
  refine ⟨_, rfl, ?_⟩
  by_cases he : (compactW s n x).err ≠ 0
  ·have e : compW s n x = ⟨(compactW s n x).s, (compactW s n x).err, { (compactW s n x).x with broken := true }⟩ := by unfold compW; rw [if_neg (by rw [hb]; decide), if_pos he]
   rw [if_pos he] at ha3
   rw [e]
   exact ⟨rfl, fd2, ha3, hst2.trans hst3⟩
  ·have e : compW s n x = compactW s n x := by unfold compW; rw [if_neg (by rw [hb]; decide), if_neg he]
   rw [if_neg he] at ha3
   rw [e]
   exact ⟨rfl, fd2, ha3, hst2.trans hst3⟩
end
section
variable {F G K : PH} {fd fd' : Nat → Prop} {n : Nat} {s s' : DS} {st cm d : Nat} {x y : SS}
theorem ActD.applied (h : ActD F K fd n s st cm d x) {o : Obj} {m : ByteArray → Option Value} {L : List Rc} (hk : Keep (· = cm) F G) (h1 : G cm = some o) (h2 : MapE m o) (h3 : Vals (mns G (fpo fd st cm)) m L) (hs : Srt L) : ActD G K fd n s st cm d { x with L := L } ∧ Step (fpo fd st cm) F (fpo fd st cm) G := by
 refine ⟨⟨h.hd.le fun b o hb => ?_, hk _ _ h.ho.hs h.ho.ne, ⟨o, m, h1, h2, h3⟩, hs⟩, ⟨hk.mono fun b hb => .inr (.inr hb), fun b hb => .inl hb⟩⟩
 unfold mns at hb ⊢
 split at hb
 ·cases hb
 ·rename_i hn
  rw [if_neg hn]
  exact hk _ _ hb fun e => hn (.inr e)
theorem ActD.rd_own (h : ActD F K fd n s st cm d x) {e size : Nat} {sl : Sl} {vs : List Value} (hO : Ov e size F G sl vs) : RdS (mns G (fpo fd st cm)) sl size vs := by
 have := h.rd_new hO
 rw [mns_mns, mns_congr (fq := fpo fd st cm) (fun b => ⟨fun hb => hb.elim .inr .inl, fun hb => hb.elim .inr .inl⟩)] at this
 exact this
theorem fin_spec {sl : Sl} {T : List Rt} {v : Sl} (h : ActD F K fd n s st cm d x) (hf : Fine s n) (hi : SInv s.rd n x) (hn : n ≤ 1000) (hr : RdT (mns F (fpo fd st cm)) sl T) (hd : RdS (mns F (fpo fd st cm)) v 1 (u8s (payl (rcs T)))) (hok : OkT (rcs T)) (hfit : x.used + secs (plen (rcs T)) ≤ x.size - 1)
  {R : Value → PH → Prop} (hR : ∀ F' fd', ActD F' K fd' n (finW s n x (rcs T)).s st cm d (finW s n x (rcs T)).x → Step (fpo fd st cm) F (fpo fd' st cm) F' → R (.int .i64 (finW s n x (rcs T)).err) F') :
  b25j2 ⟨st, 0, none⟩ sl v (1 + ((v.len : Int) + 62) / 63) R F := by
 have hpos := hi.pos
 have hsz := hi.size
 have h4 := hi.n4
 have hh := hi.half
 have hwl : s.ws.length = 0 := by rw [hf.ws]; rfl
 have hs1 := h.ho.hs
 have hvl := hd.len
 rw [List.length_map, Nat.mul_one, plen_payl] at hvl
 have hse : secs (plen (rcs T)) = 1 + (plen (rcs T) + 62) / 63 := rfl
 have hTl : T.length = (rcs T).length := by simp [rcs]
 have htl := plen_le (rcs T)
 have em : IntKind.i64.wrap (IntKind.i64.wrap (IntKind.i64.wrap ((x.half : Int) * (x.size : Int)) + (1 : Int)) + (x.used : Int)) = ((x.half * x.size + 1 + x.used : Nat) : Int) := by
  rw [show (x.half : Int) * (x.size : Int) = ((x.half * x.size : Nat) : Int) by rw [Int.natCast_mul], w64_eq (x := ((x.half * x.size : Nat) : Int)) (by omega) (by omega), w64s (n := x.half * x.size) (by omega), w64_eq (by omega) (by omega)]
  omega
 unfold b25j2
 refine ⟨(x.half : Int), by rw [add_mk, cell_eq hs1]; rfl, (x.size : Int), by rw [add_mk, cell_eq hs1]; rfl, (x.used : Int), by rw [add_mk, cell_eq hs1]; rfl, x.num, by rw [add_mk, cell_eq hs1]; rfl, ?_⟩
 rw [em]
 refine (blocks_spec (m := 0) (num := x.num) (hd.le (mns_le _ _)) (by rw [plen_payl]; omega)).mono ?_
 rintro w F1 ⟨s1, rfl, hO⟩
 have hs2 := hO.le _ _ hs1
 have hbl : (blks 0 x.num (payl (rcs T))).length = secs (plen (rcs T)) := by rw [blks_len, plen_payl]
 refine ⟨_, rfl, by rw [add_mk, cell_eq hs2]; rfl, by rw [add_mk, cell_eq hs2]; rfl, by rw [add_mk, cell_eq hs2]; rfl, ?_⟩
 refine (complete_act h hO (fun e => by rw [e] at hbl; simp [secs] at hbl; omega) (fun b hb => ?_) (by omega) (by omega) (by omega)).mono ?_
 ·obtain ⟨i, hi1, rfl⟩ := List.getElem_of_mem hb
  cases i with
  | zero => rfl
  | succ i =>
   have := blks_succ (m := 0) (num := x.num) (d := payl (rcs T)) hi1
   rw [List.getD_eq_getElem?_getD, List.getElem?_eq_getElem hi1] at this
   simp only [Option.getD_some] at this
   rw [this]
   exact fur_len _ _
 rintro w F2 ⟨rfl, fd2, ha2, hst2⟩
 have hs3 := ha2.ho.hs
 refine ⟨_, rfl, by rw [add_mk, cell_eq hs3]; rfl, by rw [add_mk, cell_eq hs3]; rfl, by rw [add_mk, cell_eq hs3]; rfl, ?_⟩
 refine (done_act ha2).mono ?_
 rintro w F3 ⟨rfl, ha3, hst3⟩
 have hfin : finW s n x (rcs T) = if (completeW s n ((x.half * x.size + 1 + x.used : Nat) : Int) (blks 0 x.num (payl (rcs T)))).2 ≠ 0 then ⟨(completeW s n ((x.half * x.size + 1 + x.used : Nat) : Int) (blks 0 x.num (payl (rcs T)))).1, (completeW s n ((x.half * x.size + 1 + x.used : Nat) : Int) (blks 0 x.num (payl (rcs T)))).2, { x with broken := true }⟩
   else ⟨(completeW s n ((x.half * x.size + 1 + x.used : Nat) : Int) (blks 0 x.num (payl (rcs T)))).1, 0, comt x (rcs T)⟩ := rfl
 rw [hfin] at hR
 generalize completeW s n ((x.half * x.size + 1 + x.used : Nat) : Int) (blks 0 x.num (payl (rcs T))) = cw at *
 have hsteps := hst2.trans hst3
 by_cases hne : cw.2 ≠ 0
 ·rw [if_pos hne] at ha3
  rw [if_pos hne] at hR
  have hs4 := ha3.ho.hs
  exact ⟨_, rfl, by rw [add_mk, cell_eq hs4]; rfl, by rw [add_mk, cell_eq hs4]; rfl, by rw [add_mk, cell_eq hs4]; rfl, fun _ => hR _ fd2 ha3 hsteps, fun h0 => absurd hne h0⟩
 ·rw [if_neg hne] at ha3
  rw [if_neg hne] at hR
  have hs4 := ha3.ho.hs
  refine ⟨_, rfl, by rw [add_mk, cell_eq hs4]; rfl, by rw [add_mk, cell_eq hs4]; rfl, by rw [add_mk, cell_eq hs4]; rfl, fun h0 => absurd h0 hne, fun _ => ?_⟩
  refine ⟨(x.used : Int), by rw [add_mk, cell_eq hs4]; rfl, ?_⟩
  refine st1' (b := st) (o := 4) (by simp) hs4 (by simp) ?_
  have eu : IntKind.i64.wrap ((x.used : Int) + (1 + ((v.len : Int) + 62) / 63)) = ((x.used + secs (plen (rcs T)) : Nat) : Int) := by
   rw [w64_eq (by omega) (by omega), hse]
   omega
  rw [eu]
  obtain ⟨a1, a2⟩ := ha3.cells (y := { x with used := x.used + secs (plen (rcs T)) }) rfl
  refine ⟨some cm, by rw [add_mk, cell_eq (set_eq _ _ _)]; rfl, ?_⟩
  have hs5 := a1.ho.hs
  have ecell : ((scells d cm x).setIfInBounds 4 (.int .i64 ((x.used + secs (plen (rcs T)) : Nat) : Int))) = scells d cm { x with used := x.used + secs (plen (rcs T)) } := rfl
  rw [ecell]
  have hsteps2 := hsteps.trans a2
  have hr2 := hr.le hsteps2.le
  generalize F3.set st (.cells (scells d cm { x with used := x.used + secs (plen (rcs T)) }) 84) = F4 at *
  obtain ⟨o, m, g1, g2, g3⟩ := a1.ho.hm
  refine (apply_spec (fp := fpo fd2 st cm) g1 g2 g3 a1.dom (.inr (.inr rfl)) (hr2.le (mns_le _ _)) (by omega) (fun y hy => ?_)).mono ?_
  ·have hmem : (y.1, y.2.2) ∈ rcs T := List.mem_map.2 ⟨y, hy, rfl⟩
   have := (hok _ hmem).2.2
   simp only at this
   omega
  rintro w F5 ⟨rfl, o5, m5, hcm5, hm5, hv5, hk5⟩
  obtain ⟨b1, b2⟩ := a1.applied hk5 hcm5 hm5 hv5 (afterR_srt h.ho.srt)
  exact ⟨rfl, hR _ fd2 b1 (hsteps2.trans b2)⟩
theorem Commit_spec {sl : Sl} {T : List Rt} (h : ActD F K fd n s st cm d x) (hf : x.broken = false → Fine s n) (hi : x.broken = false → SInv s.rd n x) (hn : n ≤ 1000) (hnum : x.broken = false → x.num < 9223372036854775806) (hr : RdT (mns F (fpo fd st cm)) sl T) (hT : T.length ≤ 1000) (hb : ∀ r ∈ rcs T, Byt r.2) :
  Spec prog 25 #[.pointer (some ⟨st, 0, none⟩), sl.v] F fun v F' => v = .int .i64 (commitW s n x (rcs T)).err ∧ ∃ fd', ActD F' K fd' n (commitW s n x (rcs T)).s st cm d (commitW s n x (rcs T)).x ∧ Step (fpo fd st cm) F (fpo fd' st cm) F' := by
 have hs1 := h.ho.hs
 have hsl := hr.len
 refine c25 ?_
 unfold b25
 refine ⟨_, rfl, x.broken, by rw [add_mk, cell_eq hs1]; rfl, fun hbr => ?_, fun hbr => ?_⟩
 ·have e : commitW s n x (rcs T) = ⟨s, 340, x⟩ := by unfold commitW; rw [if_pos hbr]
  rw [e]
  exact ⟨rfl, fd, h, Step.refl _ _⟩
 have hf := hf hbr
 have hi := hi hbr
 have hnum := hnum hbr
 refine ⟨fun m i F' => ∃ k : Nat, i = k ∧ k ≤ T.length ∧ m = T.length - k ∧ F.le F' ∧ ∀ j y, j < k → T[j]? = some y → 1 ≤ y.1.size ∧ y.1.size ≤ 255 ∧ y.2.2.length ≤ 1048576, T.length, ⟨0, rfl, by omega, rfl, le_refl' _, fun j y hj => absurd hj (by omega)⟩, ?_⟩
 rintro _ _ F1 ⟨k, rfl, hk, rfl, l1, hpre⟩
 unfold b25L1
 refine ⟨fun hlt => ?_, fun hge => ?_⟩
 ·have hkT : k < T.length := by omega
  obtain ⟨y, hy⟩ : ∃ y, T[k]? = some y := ⟨_, List.getElem?_eq_getElem hkT⟩
  have hr1 := (hr.le (mns_le _ _)).le l1
  obtain ⟨a, ha, hrow⟩ := hr1.row hy
  have hmem : (y.1, y.2.2) ∈ rcs T := List.mem_map.2 ⟨y, List.mem_of_getElem? hy, rfl⟩
  have hvl := (hr1.vals y (List.mem_of_getElem? hy)).ulen
  have bad : ¬ (1 ≤ y.1.size ∧ y.1.size ≤ 255 ∧ y.2.2.length ≤ 1048576) → commitW s n x (rcs T) = ⟨s, 1, x⟩ := fun hn => by
   unfold commitW
   rw [if_neg (by rw [hbr]; decide), if_pos (fun hok => hn (hok _ hmem))]
  refine ⟨a, ha, by omega, by omega, _, rfl, hrow, ?_⟩
  intro b6 h6
  refine atI ?_
  refine stW (set_eq _ _ _) rfl rfl (st_two st_str st_sl) ?_
  rw [set_twice]
  have l6 := le_trans' l1 (le_set_fresh (.cells #[.string y.1, y.2.1.v] 41) h6)
  have q6 := set_eq F1 b6 (.cells #[.string y.1, y.2.1.v] 41)
  generalize F1.set b6 (.cells #[.string y.1, y.2.1.v] 41) = F2 at *
  have out : ∀ e : Prop, (commitW s n x (rcs T) = ⟨s, 1, x⟩) → (.int .i64 1 : Value) = .int .i64 (commitW s n x (rcs T)).err ∧ ∃ fd', ActD F2 K fd' n (commitW s n x (rcs T)).s st cm d (commitW s n x (rcs T)).x ∧ Step (fpo fd st cm) F (fpo fd' st cm) F2 := fun _ e => by
   rw [e]
   exact ⟨rfl, fd, h.le l6, Step.of_le l6⟩
  refine ⟨y.1, by rw [cell_eq q6]; rfl, fun h0 => out True (bad (by omega)), fun h0 => ?_⟩
  refine ⟨y.1, by rw [cell_eq q6]; rfl, fun h0 => out True (bad (by omega)), fun h0 => ?_⟩
  refine ⟨y.2.1, by rw [cell_eq q6]; rfl, fun h0 => out True (bad (by omega)), fun h0 => ?_⟩
  refine ⟨T.length - (k + 1), by omega, k + 1, w64s (by omega), by omega, rfl, l6, fun j z hj hz => ?_⟩
  by_cases e : j = k
  ·rw [e, hy] at hz
   cases hz
   exact ⟨by omega, by omega, by omega⟩
  ·exact hpre j z (by omega) hz
 obtain rfl : k = T.length := by omega
 have hok : OkT (rcs T) := by
  intro r hr
  obtain ⟨y, hy, rfl⟩ := List.mem_map.1 hr
  obtain ⟨j, hj, e⟩ := List.getElem_of_mem hy
  exact hpre j y hj (by rw [List.getElem?_eq_getElem hj, e])
 have hpl : plen (rcs T) ≤ T.length * 1048836 := by
  clear hpre hge hk hr hb hT hsl
  induction T with
  | nil => simp [rcs, plen_nil]
  | cons z T ih =>
   have h1 : rcs (z :: T) = (z.1, z.2.2) :: rcs T := rfl
   rw [h1] at hok ⊢
   rw [plen_cons, List.length_cons]
   have h2 := hok (z.1, z.2.2) (List.mem_cons_self ..)
   have h3 := ih (fun r hr => hok r (List.mem_cons_of_mem _ hr))
   simp only at h2 ⊢
   omega
 have h' := h.le l1
 have hr1 := hr.le (mns_mono (fp := fpo fd st cm) l1)
 unfold b25j1
 refine ⟨fun h0 => ?_, fun h0 => ?_⟩
 ·have e : rcs T = [] := by
   have : T.length = 0 := by omega
   rw [List.eq_nil_of_length_eq_zero this]
   rfl
  have e2 : commitW s n x (rcs T) = ⟨s, 0, x⟩ := by
   unfold commitW
   rw [if_neg (by rw [hbr]; decide), if_neg (fun hh => hh hok), if_pos e]
  rw [e2]
  exact ⟨rfl, fd, h', Step.of_le l1⟩
 have hne : rcs T ≠ [] := fun e => h0 (by
  have : (rcs T).length = T.length := by simp [rcs]
  rw [e] at this
  simp at this
  omega)
 have hcw : commitW s n x (rcs T) = if x.size - 1 - x.used < secs (plen (rcs T)) then
  if x.size - 1 - snapN x.L < secs (plen (rcs T)) then ⟨s, 351, x⟩ else
  if (compactW s n x).err ≠ 0 then ⟨(compactW s n x).s, (compactW s n x).err, { (compactW s n x).x with broken := true }⟩ else finW (compactW s n x).s n (compactW s n x).x (rcs T)
 else finW s n x (rcs T) := by
  conv => lhs; unfold commitW
  rw [if_neg (by rw [hbr]; decide), if_neg (fun hh => hh hok), if_neg hne]
 rw [hcw]
 have hpos := hi.pos
 have hsz := hi.size
 have h4 := hi.n4
 have hsnap := hi.snap
 have hsm := hi.small hn
 have hse : secs (plen (rcs T)) = 1 + (plen (rcs T) + 62) / 63 := rfl
 refine (payload_spec (hr1.le (mns_le _ _)) (by rw [plen_payl]; omega)).mono ?_
 rintro w F2 ⟨v, rfl, hO⟩
 have hvl := hO.own.rd.ulen
 rw [plen_payl] at hvl
 have h2 := h'.le hO.le
 have hr2 := hr1.le (mns_mono (fp := fpo fd st cm) hO.le)
 have hd2 := h'.rd_own hO
 have l2 := le_trans' l1 hO.le
 refine ⟨_, rfl, ?_⟩
 refine (sectors_of (p := (v.len : Int)) (by omega) (by omega)).mono ?_
 rintro w F3 ⟨rfl, ee⟩
 obtain rfl := ee.symm
 have hs2 := h2.ho.hs
 refine ⟨_, rfl, (x.used : Int), by rw [add_mk, cell_eq hs2]; rfl, ?_⟩
 refine (capacity_spec hs2 (by omega) (by omega)).mono ?_
 rintro w F3 ⟨rfl, ee⟩
 obtain rfl := ee.symm
 refine ⟨_, rfl, by rw [add_mk, cell_eq hs2]; rfl, ?_⟩
 rw [w64_eq (x := ((x.size - 1 : Nat) : Int) - (x.used : Int)) (by omega) (by omega)]
 refine ⟨fun hfull => ?_, fun hfits => ?_⟩
 ·rw [if_pos (by omega)]
  refine (capacity_spec hs2 (by omega) (by omega)).mono ?_
  rintro w F3 ⟨rfl, ee⟩
  obtain rfl := ee.symm
  refine ⟨_, rfl, ?_⟩
  refine (snapSize_spec h2.sto hsm).mono ?_
  rintro w F3 ⟨rfl, l3⟩
  refine ⟨_, rfl, ?_⟩
  rw [w64_eq (x := ((x.size - 1 : Nat) : Int) - (snapN x.L : Int)) (by omega) (by omega)]
  have h3 := h2.le l3
  have hr3 := hr2.le (mns_mono (fp := fpo fd st cm) l3)
  have hd3 := hd2.le (mns_mono (fp := fpo fd st cm) l3)
  have l4 := le_trans' l2 l3
  refine ⟨fun hfull2 => ?_, fun hfits2 => ?_⟩
  ·rw [if_pos (by omega)]
   exact ⟨rfl, fd, h3, Step.of_le l4⟩
  rw [if_neg (show ¬ (x.size - 1 - snapN x.L < secs (plen (rcs T))) by omega)]
  refine (compact_spec h3 hf hi hn (by omega)).mono ?_
  rintro w F4 ⟨rfl, fd4, h4', st4⟩
  refine ⟨_, rfl, ?_⟩
  refine (done_act h4').mono ?_
  rintro w F5 ⟨rfl, h5, st5⟩
  have st6 := (Step.of_le l4).trans (st4.trans st5)
  refine ⟨_, rfl, fun he => ?_, fun he => ?_⟩
  ·rw [if_pos he] at h5 ⊢
   exact ⟨rfl, fd4, h5, st6⟩
  ·rw [if_neg he] at h5 ⊢
   have he0 : (compactW s n x).err = 0 := Classical.not_not.1 he
   have hst45 := (st4.trans st5).le
   rcases compact_run hf hi hn (by omega) with ⟨c1, c2, c3, c4, c5⟩ | ⟨c1, _⟩
   ·rw [c4] at h5 ⊢
    have hu : (comp x).used = snapN x.L := rfl
    have hz : (comp x).size = x.size := rfl
    exact fin_spec h5 c2 c5 hn (hr3.le hst45) (hd3.le hst45) hok (by rw [hu, hz]; omega) fun F' fd' g1 g2 => ⟨rfl, fd', g1, st6.trans g2⟩
   ·rw [c1] at he0
    cases he0
 ·rw [if_neg (by omega)]
  exact fin_spec h2 hf hi hn hr2 hd2 hok (by omega) fun F' fd' g1 g2 => ⟨rfl, fd', g1, (Step.of_le l2).trans g2⟩
end
theorem DS.crash_kept (s : DS) (k : List Int) : (s.crash k).kept.length ≤ s.kept.length := by
 unfold DS.crash
 split
 ·exact Nat.le_refl _
 ·exact Nat.zero_le _
theorem DS.ready_kept (s : DS) : s.ready.1.kept.length ≤ s.kept.length := by
 unfold DS.ready
 split
 ·exact Nat.le_refl _
 ·split
  ·exact s.crash_kept _
  ·exact Nat.le_refl _
theorem DS.write_kept (s : DS) (n : Nat) (a : Int) (l : List Int) : (s.write n a l).1.kept.length ≤ s.kept.length := by
 have := s.ready_kept
 unfold DS.write
 split
 ·exact Nat.le_refl _
 ·split <;> exact this
theorem DS.flush_kept (s : DS) : s.flush.1.kept.length ≤ s.kept.length := by
 have := s.ready_kept
 unfold DS.flush
 split <;> exact this
theorem putW_kept {n : Nat} : ∀ (l : List (List Int)) (s : DS) (a : Int), (putW s n a l).1.kept.length ≤ s.kept.length
 | [], s, a => s.flush_kept
 | x :: r, s, a => by
  have h1 := s.write_kept n a x
  unfold putW
  split
  ·exact h1
  ·exact Nat.le_trans (putW_kept r _ _) h1
theorem completeW_kept (s : DS) (n : Nat) (a : Int) (l : List (List Int)) : (completeW s n a l).1.kept.length ≤ s.kept.length := by
 have h1 := putW_kept (n := n) (setM 0 l) s a
 unfold completeW
 split
 ·exact h1
 ·exact Nat.le_trans (putW_kept _ _ _) h1
theorem compactW_kept (s : DS) (n : Nat) (x : SS) : (compactW s n x).s.kept.length ≤ s.kept.length := by
 have h1 := putW_kept (n := n) (snapB x) s (((1 - x.half) * x.size + 1 : Nat) : Int)
 have h2 := completeW_kept (putW s n (((1 - x.half) * x.size + 1 : Nat) : Int) (snapB x)).1 n (((1 - x.half) * x.size : Nat) : Int) [hdl 0 (x.num + 1) magic]
 unfold compactW
 split
 ·exact h1
 ·split <;> exact Nat.le_trans h2 h1
theorem compW_kept (s : DS) (n : Nat) (x : SS) : (compW s n x).s.kept.length ≤ s.kept.length := by
 have h1 := compactW_kept s n x
 unfold compW
 split
 ·exact Nat.le_refl _
 ·split <;> exact h1
theorem finW_kept (s : DS) (n : Nat) (x : SS) (t : List Rc) : (finW s n x t).s.kept.length ≤ s.kept.length := by
 have h2 := completeW_kept s n ((x.half * x.size + 1 + x.used : Nat) : Int) (blks 0 x.num (payl t))
 unfold finW
 split <;> exact h2
theorem commitW_kept (s : DS) (n : Nat) (x : SS) (t : List Rc) : (commitW s n x t).s.kept.length ≤ s.kept.length := by
 unfold commitW
 split
 ·exact Nat.le_refl _
 ·split
  ·exact Nat.le_refl _
  ·split
   ·exact Nat.le_refl _
   ·split
    ·split
     ·exact Nat.le_refl _
     ·split
      ·exact compactW_kept s n x
      ·exact Nat.le_trans (finW_kept _ _ _ _) (compactW_kept s n x)
    ·exact finW_kept s n x t
section
variable {F G K C V : PH} {fd fd' : Nat → Prop} {n : Nat} {s s' : DS} {st cm d : Nat} {x y : SS}
def roomI (size used : Nat) : Int := max 0 (63 * (((size - 1 : Nat) : Int) - (used : Int) - 1))
theorem room_spec (h : StO F V st cm d x) (h1 : 1 ≤ x.size) (h2 : x.size ≤ 1000) (h3 : x.used ≤ 1000) : Spec prog 18 #[.pointer (some ⟨st, 0, none⟩)] F fun v F' => v = .int .i64 (roomI x.size x.used) ∧ F' = F := by
 refine c18 ?_
 unfold b18
 refine ⟨_, rfl, (x.used : Int), by rw [add_mk, cell_eq h.hs]; rfl, ?_⟩
 refine (capacity_spec h.hs h1 (by omega)).mono ?_
 rintro v F1 ⟨rfl, ee⟩
 obtain rfl := ee.symm
 refine ⟨_, rfl, by rw [add_mk, cell_eq h.hs]; rfl, ?_, rfl⟩
 rw [w64_eq (x := ((x.size - 1 : Nat) : Int) - (x.used : Int)) (by omega) (by omega), w64_eq (x := ((x.size - 1 : Nat) : Int) - (x.used : Int) - 1) (by omega) (by omega), w64_eq (by omega) (by omega)]
 rfl
theorem get_spec (h : StO F V st cm d x) (hV : V.le F) (hs : Small x.L) (k : ByteArray) : Spec prog 16 #[.pointer (some ⟨st, 0, none⟩), .string k] F fun v F' => F.le F' ∧ ∃ sl, v = .tuple #[Sl.v sl, .bool (lkR k x.L).isSome] ∧ RdS (mns F' (old F)) sl 1 (u8s ((lkR k x.L).getD [])) := by
 obtain ⟨o, m, hcm, hm, hv⟩ := h.hm
 refine c16 ?_
 unfold b16
 refine ⟨_, rfl, some cm, by rw [add_mk, cell_eq h.hs]; rfl, ?_⟩
 have hlook := rdo_lookup mtS hcm hm.mapO k true
 rw [if_pos rfl] at hlook
 cases hl : lkR k x.L with
 | none =>
  rw [(hv k).1 hl] at hlook
  refine ⟨Sl.nil, false, hlook, ?_⟩
  refine (clone5_spec (RdS.nil F 1) (by simp) (by simp [Sl.nil])).mono ?_
  rintro v F1 ⟨sl, rfl, hlen, hcl⟩
  exact ⟨sl, rfl, hcl.1, sl, rfl, hcl.rd (fp := old F) (fun b hb => hb)⟩
 | some l =>
  obtain ⟨sv, hsv, hrd⟩ := (hv k).2 l hl
  rw [hsv] at hlook
  have hpl := hs.len
  have hll : l.length ≤ 100000 := by
   have := lkR_mem hl
   have h2 : ∀ (L : List Rc) (r : Rc), r ∈ L → r.2.length ≤ plen L := fun L r hr => by
    induction L with
    | nil => cases hr
    | cons z L ih =>
     rw [plen_cons]
     rcases List.mem_cons.1 hr with rfl | hr
     ·omega
     ·have := ih hr; omega
   have h3 := h2 _ _ this
   simp only at h3
   omega
  have hul := hrd.ulen
  refine ⟨sv, true, hlook, ?_⟩
  refine (clone5_spec (hrd.le hV) st_u8s (by omega)).mono ?_
  rintro v F1 ⟨sl, rfl, hlen, hcl⟩
  exact ⟨sl, rfl, hcl.1, sl, rfl, hcl.rd (fp := old F) (fun b hb => hb)⟩
theorem zcB (n : Nat) : Builtin.zeroCells (Value.agg (Array.replicate 64 (Value.int .u8 0))).cells n = (flatB (List.replicate n (List.replicate 64 0))).toArray := by
 rw [zc_flat _ rfl]
 congr 1
 induction n with
 | zero => rfl
 | succ n ih =>
  rw [List.replicate_succ, List.flatten_cons, ih]
  show _ = u8s (List.replicate 64 0) ++ flatB (List.replicate n (List.replicate 64 0))
  exact congrArg (· ++ _) rfl
theorem Format_spec (hd : DRep F K d fd n s) (hup : Up s) (hfz : s.fuse = 0) (hn : n ≤ 500) (hws : s.ws.length ≤ 100) :
  Spec prog 30 #[.pointer (some ⟨d, 0, none⟩)] F fun v F' => (n < 4 ∧ v = .tuple #[.pointer none, .int .i64 1] ∧ F' = F) ∨
   (4 ≤ n ∧ ∃ st cm s' fd' K', v = .tuple #[.pointer (some ⟨st, 0, none⟩), .int .i64 0] ∧ ActD F' K' fd' n s' st cm d (empt n) ∧ Fine s' n ∧ s'.fuse = 0 ∧ SInv s'.rd n (empt n) ∧ s'.kept.length ≤ s.kept.length ∧ Step fd F (fpo fd' st cm) F') := by
 have hok := hd.ok
 refine c30 ?_
 unfold b30
 refine (sectors_spec hd).mono ?_
 rintro v F1 ⟨rfl, ee⟩
 obtain rfl := ee.symm
 refine ⟨_, rfl, fun h4 => .inl ⟨by omega, rfl, rfl⟩, fun h4 => ?_⟩
 refine (sectors_spec hd).mono ?_
 rintro v F1 ⟨rfl, ee⟩
 obtain rfl := ee.symm
 refine ⟨_, rfl, ?_⟩
 refine runs_makeSlice underlying95 sz104 zr104 rfl (by omega) (by omega) (by omega) (by omega) ?_
 intro g hg
 rw [zcB, Int.toNat_natCast]
 have hbl : ∀ b ∈ List.replicate n (List.replicate 64 (0 : Int)), b.length = 64 := fun b hb => by rw [List.eq_of_mem_replicate hb]; simp
 refine ⟨_, rfl, ?_⟩
 have hgd : ¬ fd g := fun h => hd.dom g h hg
 have q1 := set_eq F g (.cells (flatB (List.replicate n (List.replicate 64 0))).toArray 104)
 have hd1 : DRep (F.set g (.cells (flatB (List.replicate n (List.replicate 64 0))).toArray 104)) K d fd n s := hd.le (le_set_fresh _ hg)
 have st1 : Step fd F fd (F.set g (.cells (flatB (List.replicate n (List.replicate 64 0))).toArray 104)) := Step.of_le (le_set_fresh _ hg)
 generalize F.set g (.cells (flatB (List.replicate n (List.replicate 64 0))).toArray 104) = F1 at *
 have hr1 : RdS (mns F1 fd) ⟨some ⟨g, 0, none⟩, n, n⟩ 64 (flatB (List.replicate n (List.replicate 64 0))) :=
  RdS.new ((mns_of hgd).trans q1) (by rw [List.take_of_length_le (by rw [flatB_len hbl]; simp)]) (by rw [flatB_len hbl]; simp) (Nat.le_refl _)
 have hkp1 := putW_kept (n := n) (List.replicate n (List.replicate 64 0)) s ((0 : Nat) : Int)
 have hpok := putW_ok (n := n) (List.replicate n (List.replicate 64 0)) (s := s) (a := ((0 : Nat) : Int)) hok (by simp; omega)
 refine (put_spec (at_ := ((0 : Nat) : Int)) hd1 hr1 hbl (by simp; omega) (by omega) (by omega)).mono ?_
 rintro v F2 ⟨rfl, fd2, hd2, st2⟩
 rcases putW_cases (n := n) (a := 0) (List.replicate n (List.replicate 64 0)) hup (by simp) hbl with ⟨e1, h1⟩ | ⟨_, h1⟩
 case inr => exact absurd hfz h1.fz
 have hrd1 := h1.rd hok (by simp) hbl
 have hf1 : Fine (putW s n ((0 : Nat) : Int) (List.replicate n (List.replicate 64 0))).1 n := ⟨h1.ok.1, h1.ok.2, hpok⟩
 have hz1 := h1.nof hfz
 refine ⟨_, rfl, fun hne => absurd e1 hne, fun _ => ?_⟩
 generalize (putW s n ((0 : Nat) : Int) (List.replicate n (List.replicate 64 0))).1 = s1 at *
 have st02 := st1.trans st2
 refine (head_spec (m := 1) (n := 1) (v := 461430681189) (F := F2)).mono ?_
 rintro v F3 ⟨rfl, l3⟩
 refine ⟨_, rfl, by simp [hdl_len], ?_⟩
 intro b19 h19
 refine atI ?_
 have hd3 := hd2.le l3
 have hgd3 : ¬ fd2 b19 := fun h => hd3.dom b19 h h19
 have hd4 := hd3.le (le_set_fresh (.cells (u8s (hdl 1 1 461430681189)).toArray 104) h19)
 have st4 := (st02.trans (Step.of_le l3)).trans (Step.of_le (le_set_fresh (.cells (u8s (hdl 1 1 461430681189)).toArray 104) h19))
 have q4 := set_eq F3 b19 (.cells (u8s (hdl 1 1 461430681189)).toArray 104)
 generalize F3.set b19 (.cells (u8s (hdl 1 1 461430681189)).toArray 104) = F4 at *
 have hr4 : RdS (mns F4 fd2) ⟨some ⟨b19, 0, none⟩, 1, 1⟩ 64 (flatB [hdl 1 1 461430681189]) :=
  RdS.new ((mns_of hgd3).trans q4) rfl rfl (Nat.le_refl _)
 have hws1 : s1.ws.length = 0 := by rw [hf1.ws]; rfl
 refine (put_spec (at_ := ((0 : Nat) : Int)) hd4 hr4 (fun b hb => by rw [List.mem_singleton.1 hb]; rfl) (by rw [List.length_singleton]; omega) (by omega) (by omega)).mono ?_
 rintro v F5 ⟨rfl, fd5, hd5, st5⟩
 rcases put_run (n := n) (a := 0) (l := [hdl 1 1 461430681189]) hf1 (by simp; omega) (by simp) (fun b hb => by rw [List.mem_singleton.1 hb]; rfl) with ⟨e2, hf2, hz2, hrd2⟩ | ⟨_, h2, _⟩
 case inr => exact absurd hz1 h2
 have hz2 := hz2 hz1
 have hkp2 := putW_kept (n := n) [hdl 1 1 461430681189] s1 ((0 : Nat) : Int)
 refine ⟨_, rfl, fun hne => absurd e2 hne, fun _ => ?_⟩
 generalize (putW s1 n ((0 : Nat) : Int) [hdl 1 1 461430681189]).1 = s2 at *
 have st05 := st4.trans st5
 refine (sectors_spec hd5).mono ?_
 rintro v F6 ⟨rfl, ee⟩
 obtain rfl := ee.symm
 refine ⟨_, rfl, ?_⟩
 intro cm hcm
 refine atI ?_
 intro st hst
 refine atI ?_
 have hne : st ≠ cm := fun e => by rw [e, set_eq] at hst; cases hst
 have hst0 : F5 st = none := by rw [set_ne _ _ hne] at hst; exact hst
 have hsize : IntKind.i64.wrap (Int.tdiv (n : Int) 2) = ((n / 2 : Nat) : Int) := by
  rw [Int.tdiv_eq_ediv_of_nonneg (by omega), w64_eq (by omega) (by omega)]
  omega
 rw [hsize]
 have hinv : SInv s2.rd n (empt n) := by
  refine formatted (by omega) ?_ fun q q1 q2 => ?_
  ·rw [hrd2, updD_one, if_pos rfl]
  ·rw [hrd2, updD_one, if_neg (by omega), hrd1]
   unfold updD
   rw [if_pos ⟨by omega, by simp; omega⟩, List.getD_eq_getElem?_getD, List.getElem?_replicate, if_pos (by omega)]
   rfl
 refine .inr ⟨by omega, st, cm, s2, fd5, K, rfl, ⟨?_, set_eq _ _ _, ⟨_, _, ?_, MapE.empty, fun k => ⟨fun _ => rfl, fun v hv => (by cases hv)⟩⟩, List.Pairwise.nil⟩, hf2, hz2, hinv, Nat.le_trans hkp2 hkp1, ?_⟩
 ·have hds : ¬ fd5 st := fun h => hd5.dom st h hst0
  have hdc : ¬ fd5 cm := fun h => hd5.dom cm h hcm
  refine hd5.le fun b o hb => ?_
  unfold mns
  have hb1 : b ≠ st := fun e => by rw [e, hst0] at hb; cases hb
  have hb2 : b ≠ cm := fun e => by rw [e, hcm] at hb; cases hb
  rw [if_neg (fun h => h.elim hb1 hb2), set_ne _ _ hb1, set_ne _ _ hb2]
  exact hb
 ·rw [set_ne _ _ hne.symm]
  exact set_eq _ _ _
 ·have l6 := le_trans' (le_set_fresh (.map #[] 0) hcm) (le_set_fresh (.cells #[.pointer (some ⟨d, 0, none⟩), .int .i64 ((n / 2 : Nat) : Int), .int .i64 0, .int .u64 1, .int .i64 0, .map (some cm), .bool false] 84) hst)
  have st6 := st05.trans (Step.of_le l6)
  refine ⟨st6.keep, fun b hb => ?_⟩
  rcases hb with hb | rfl | rfl
  ·exact st6.new b hb
  ·by_cases hf : fd b
   ·exact .inl hf
   ·cases hb : F b with
    | none => exact .inr rfl
    | some o =>
     have := st05.keep b o hb hf
     rw [hst0] at this
     cases this
  ·by_cases hf : fd b
   ·exact .inl hf
   ·cases hb : F b with
    | none => exact .inr rfl
    | some o =>
     have := st05.keep b o hb hf
     rw [hcm] at this
     cases this
end
theorem tl_loop (s : ByteArray) : ∀ (n i : Nat) (r : List UInt8), s.size - i = n → ByteArray.toList.loop s i r = r.reverse ++ s.data.toList.drop i := by
 intro n
 induction n with
 | zero =>
  intro i r h
  unfold ByteArray.toList.loop
  rw [if_neg (by omega), List.drop_eq_nil_of_le (by simp at h ⊢; omega), List.append_nil]
 | succ n ih =>
  intro i r h
  have hi : i < s.size := by omega
  have hi' : i < s.data.toList.length := by simpa using hi
  unfold ByteArray.toList.loop
  rw [if_pos hi, ih (i + 1) _ (by omega), List.drop_eq_getElem_cons hi', List.reverse_cons, List.append_assoc]
  congr 1
  rw [List.singleton_append]
  congr 1
  simp [ByteArray.get!, getElem!_pos, hi]
theorem tl_kb (s : ByteArray) : s.toList = kb s := by
 unfold ByteArray.toList
 rw [tl_loop s _ 0 [] rfl]
 rfl
theorem beq_kb (a b : ByteArray) : (a.toList == b.toList) = decide (a = b) := by
 rw [tl_kb, tl_kb, Bool.eq_iff_iff, beq_iff_eq, decide_eq_true_eq]
 exact ⟨kb_inj, fun h => by rw [h]⟩
theorem bl_lt : ∀ (x y : List UInt8), Op.bytesLess x y = decide (x < y)
 | [], [] => by simp [Op.bytesLess]
 | a :: x, [] => by simp [Op.bytesLess]
 | [], b :: y => by simp [Op.bytesLess]
 | a :: x, b :: y => by
  unfold Op.bytesLess
  rw [bl_lt x y, Bool.eq_iff_iff]
  simp only [Bool.or_eq_true, Bool.and_eq_true, decide_eq_true_eq, beq_iff_eq, List.cons_lt_cons_iff]
theorem less_kb (a b : ByteArray) : Op.bytesLess a.toList b.toList = decide (ltK a b) := by rw [tl_kb, tl_kb, bl_lt]
def Ct (F : PH) (sl : Sl) (L : List Rc) : Prop := ∃ T, rcs T = L ∧ RdT F sl T
theorem rcs_len (T : List Rt) : (rcs T).length = T.length := by simp [rcs]
theorem Ct.le {F G : PH} {sl : Sl} {L : List Rc} (h : Ct F sl L) (l : F.le G) : Ct G sl L := by
 obtain ⟨T, h1, h2⟩ := h
 exact ⟨T, h1, h2.le l⟩
theorem Ct.len {F : PH} {sl : Sl} {L : List Rc} (h : Ct F sl L) : sl.len = L.length := by
 obtain ⟨T, h1, h2⟩ := h
 rw [h2.len, ← h1, rcs_len]
theorem RdT.at {F : PH} {s : Sl} {T : List Rt} (h : RdT F s T) {i : Nat} {x : Rt} (hx : T[i]? = some x) : ∃ a : Addr, s.base = some a ∧ F.cell (a.add (Int.toNat (i : Int) * 2)) = some (.string x.1) ∧ F.cell ((a.add (Int.toNat (i : Int) * 2)).add 1) = some x.2.1.v ∧ F.row (a.add (Int.toNat (i : Int) * 2)) #[.string x.1, x.2.1.v] := by
 obtain ⟨a, ha, hr⟩ := h.row hx
 refine ⟨a, ha, ?_, ?_, hr⟩
 ·have := hr 0 (by simp)
  simpa [Addr.add] using this
 ·have := hr 1 (by simp)
  simpa using this
theorem Ct.at {F : PH} {s : Sl} {L : List Rc} (h : Ct F s L) {i : Nat} (hi : i < L.length) : ∃ (a : Addr) (sv : Sl), s.base = some a ∧ F.cell (a.add (Int.toNat (i : Int) * 2)) = some (.string L[i].1) ∧ F.cell ((a.add (Int.toNat (i : Int) * 2)).add 1) = some sv.v ∧
  F.row (a.add (Int.toNat (i : Int) * 2)) #[.string L[i].1, sv.v] ∧ RdS F sv 1 (u8s L[i].2) ∧ sv.len = L[i].2.length := by
 obtain ⟨T, rfl, hT⟩ := h
 have hi' : i < T.length := by rw [← rcs_len]; exact hi
 have hx := List.getElem?_eq_getElem hi'
 obtain ⟨a, h1, h2, h3, h4⟩ := hT.at hx
 have hv := hT.vals _ (List.getElem_mem hi')
 have e : (rcs T)[i] = (T[i].1, T[i].2.2) := by simp [rcs]
 refine ⟨a, T[i].2.1, h1, ?_, h3, ?_, ?_, ?_⟩
 ·rw [e]; exact h2
 ·rw [e]; exact h4
 ·rw [e]; exact hv
 ·rw [e]; exact hv.ulen
section
variable {F : PH} {sl : Sl} {L : List Rc}
theorem Size_spec (h : Ct F sl L) (hb : plen L ≤ 1000000000000) : Spec prog 24 #[sl.v] F fun v F' => v = .int .i64 (secs (plen L) : Int) ∧ F' = F := by
 have hl := h.len
 have hpl := plen_le L
 refine c24 ?_
 unfold b24
 refine ⟨fun m n i F' => ∃ k : Nat, i = k ∧ k ≤ L.length ∧ m = L.length - k ∧ n = (plen (L.take k) : Int) ∧ F' = F, L.length, ⟨0, rfl, by omega, rfl, rfl, rfl⟩, ?_⟩
 rintro _ _ _ F1 ⟨k, rfl, hk, rfl, rfl, ee⟩
 obtain rfl := ee.symm
 unfold b24L1
 have hp : ∀ j, plen (L.take j) ≤ plen L := fun j => by unfold plen; exact payl_take_le L j
 refine ⟨fun hlt => ?_, fun hge => ?_⟩
 ·have hk' : k < L.length := by omega
  obtain ⟨a, sv, h1, h2, h3, _, _, h6⟩ := h.at hk'
  have ht : plen (L.take (k + 1)) = plen (L.take k) + (L[k].1.size + L[k].2.length + 5) := by
   rw [take_next' hk', plen_append, plen_cons, plen_nil]
  have := hp (k + 1)
  refine ⟨a, h1, by omega, by omega, _, h2, a, h1, by omega, by omega, _, h3, L.length - (k + 1), by omega, k + 1, w64s (by omega), by omega, rfl, ?_, rfl⟩
  rw [h6, w64_eq (x := ((plen (L.take k) : Nat) : Int) + (L[k].1.size : Int)) (by omega) (by omega), w64_eq (x := ((plen (L.take k) : Nat) : Int) + (L[k].1.size : Int) + _) (by omega) (by omega), w64_eq (by omega) (by omega), ht]
  omega
 ·obtain rfl : k = L.length := by omega
  unfold b24j1
  rw [List.take_length]
  refine ⟨?_, rfl⟩
  rw [w64_eq (x := (plen L : Int) + 62) (by omega) (by omega), Int.tdiv_eq_ediv_of_nonneg (by omega), w64_eq (x := ((plen L : Int) + 62) / 63) (by omega) (by omega), w64_eq (by omega) (by omega)]
  unfold secs
  congr 1
abbrev refC (n u : Nat) (sl : Sl) : Array Value := #[.int .i64 (n : Int), .int .i64 (u : Int), sl.v]
theorem st_refC {n u : Nat} : ∀ v ∈ (refC n u sl).toList, storable v := by
 intro v hv
 simp [refC] at hv
 rcases hv with rfl | rfl | rfl
 ·exact st_int
 ·exact st_int
 ·exact st_sl
theorem snapshotR_spec {n u : Nat} (h : Ct F sl L) (hb : plen L ≤ 1000000000000) : Spec prog 62 #[.agg (refC n u sl)] F fun v F' => v = .int .i64 (snapN L : Int) ∧ F.le F' := by
 have hl := h.len
 refine c62 ?_
 unfold b62
 intro b hb0
 refine atI ?_
 have l1 := le_set_fresh (.cells (refC n u sl) 28) hb0
 have q1 := set_eq F b (.cells (refC n u sl) 28)
 generalize F.set b (.cells (refC n u sl) 28) = F1 at *
 refine ⟨sl, by rw [cell_eq q1]; rfl, fun h0 => ⟨?_, l1⟩, fun h0 => ⟨sl, by rw [cell_eq q1]; rfl, ?_⟩⟩
 ·have : L = [] := List.eq_nil_of_length_eq_zero (by omega)
  unfold snapN
  rw [if_pos this]
  rfl
 ·refine (Size_spec (h.le l1) hb).mono ?_
  rintro v F2 ⟨rfl, ee⟩
  obtain rfl := ee.symm
  refine ⟨_, rfl, ?_, l1⟩
  unfold snapN
  rw [if_neg (fun e => h0 (by rw [hl, e]; rfl))]
theorem capacityR_spec {n u : Nat} (hn : n ≤ 1000000) : Spec prog 65 #[.agg (refC n u sl)] F fun v F' => v = .int .i64 (((n / 2 : Nat) : Int) - 1) ∧ F.le F' := by
 refine c65 ?_
 unfold b65
 intro b hb0
 refine atI ?_
 refine ⟨(n : Int), by rw [cell_eq (set_eq _ _ _)]; rfl, ?_, le_set_fresh _ hb0⟩
 rw [Int.tdiv_eq_ediv_of_nonneg (by omega), w64_eq (x := (n : Int) / 2) (by omega) (by omega), w64_eq (by omega) (by omega)]
 congr 1
theorem with_spec {a : Array Value} {r : Rc} {sv : Sl} (h : Ct F sl L) (ha : a = #[.string r.1, sv.v]) (hr : RdS F sv 1 (u8s r.2)) (hL : L.length ≤ 1000000) : Spec prog 74 #[sl.v, .agg a] F fun v F' => ∃ sl', v = Sl.v sl' ∧ Ct F' sl' (withR L r) ∧ F.le F' := by
 subst ha
 have hl := h.len
 have hsv := hr.ulen
 obtain ⟨T, hT, hRT⟩ := h
 have hTl : T.length = L.length := by rw [← hT, rcs_len]
 refine c74 ?_
 unfold b74
 intro b3 h3
 refine atI ?_
 have l1 := le_set_fresh (.cells #[.string r.1, sv.v] 41) h3
 have q3 := set_eq F b3 (.cells #[.string r.1, sv.v] 41)
 generalize F.set b3 (.cells #[.string r.1, sv.v] 41) = F1 at *
 intro b8 h8
 refine atI ?_
 have hO0 : Ov 41 2 F1 (F1.set b8 (.cells #[] 41)) ⟨some ⟨b8, 0, none⟩, 0, 0⟩ (rtc []) := ⟨le_set_fresh _ h8, .inr ⟨b8, #[], rfl, set_eq _ _ _, rfl, Nat.le_refl _, rfl, rfl⟩, fun a ha => by cases ha; exact h8⟩
 have q3' := hO0.le _ _ q3
 refine ⟨sv, by rw [cell_eq q3']; rfl, ?_⟩
 have hd0 : decide ((sv.len : Int) = (0 : Int)) = decide (r.2.length = 0) := by rw [hsv]; congr 1; exact propext (by omega)
 rw [hd0]
 -- what is still to come, from place k on
 refine ⟨fun m out done i F' => ∃ (k : Nat) (G : PH) (A : List Rt), i = k ∧ k ≤ L.length ∧ m = L.length - k ∧ F1.le G ∧ Ov 41 2 G F' out (rtc A) ∧ (∀ y ∈ A, RdS F1 y.2.1 1 (u8s y.2.2)) ∧ rcs A ++ wgo r done (L.drop k) = withR L r ∧ A.length ≤ 2 * k, L.length,
  ⟨0, F1, [], rfl, by omega, rfl, le_refl' _, hO0, by simp, rfl, by simp⟩, ?_⟩
 rintro _ out done _ F2 ⟨k, G, A, rfl, hk, rfl, lG, hO, hA, hgo, hAl⟩
 have lF2 := le_trans' lG hO.le
 -- one record appended
 have app : ∀ {F2 G : PH} {out : Sl} {A : List Rt} (lG : F1.le G) (hO : Ov 41 2 G F2 out (rtc A)) (hA : ∀ y ∈ A, RdS F1 y.2.1 1 (u8s y.2.2)) (hAl : A.length ≤ 3000000) (c : Array Value) (y : Rt), c = #[.string y.1, y.2.1.v] → RdS F1 y.2.1 1 (u8s y.2.2) →
   ∀ {N : Sl → PH → Prop}, (∀ s' F' G', F1.le G' → Ov 41 2 G' F' s' (rtc (A ++ [y])) → (∀ z ∈ A ++ [y], RdS F1 z.2.1 1 (u8s z.2.2)) → N s' F') →
   ∀ b48, F2 b48 = none → atF (F2.set b48 (.cells c 41)) fun F => runs prog (Builtin.append_ #[26, 26] 26 #[(Sl.v out), (Sl.v (Sl.mk (some (Addr.mk b48 0 none)) 1 1))]) F fun v F => ∃ v_49 : Sl, v = (Sl.v v_49) ∧ N v_49 F := by
  intro F2 G out A lG hO hA hAl c y hc hy N hN b48 h48
  subst hc
  refine atI ?_
  have hO1 := hO.newg h48 (.cells #[.string y.1, y.2.1.v] 41)
  have lG1 := hO.gle h48 (.cells #[.string y.1, y.2.1.v] 41)
  have q := set_eq F2 b48 (.cells #[.string y.1, y.2.1.v] 41)
  have hol := hO1.len
  rw [rtc_length] at hol
  refine hO1.app (x := ⟨some ⟨b48, 0, none⟩, 1, 1⟩) (news := [.string y.1, y.2.1.v]) underlying26 sz41 zr41 rfl (by decide) (RdS.new q rfl rfl (Nat.le_refl _)) st_pair (by simp only; omega) (by simp only; omega) ?_
  intro s1 F3 hO2
  refine hN s1 F3 _ (le_trans' lG lG1) (by rw [rtc_snoc]; exact hO2) fun z hz => ?_
  rcases List.mem_append.1 hz with hz | hz
  ·exact hA z hz
  ·rw [List.mem_singleton.1 hz]
   exact hy
 have hr1 := hr.le l1
 unfold b74L1
 refine ⟨fun hlt => ?_, fun hge => ?_⟩
 ·have hk' : k < L.length := by omega
  have hkT : k < T.length := by omega
  have hx := List.getElem?_eq_getElem hkT
  have eLk : L[k] = (T[k].1, T[k].2.2) := by simp [← hT, rcs]
  have hTv := (hRT.vals _ (List.getElem_mem hkT)).le l1
  have hdrop : L.drop k = L[k] :: L.drop (k + 1) := List.drop_eq_getElem_cons hk'
  obtain ⟨a, ha, c1, c2, c3⟩ := (hRT.le (le_trans' l1 lF2)).at hx
  -- the rest of a round
  have last : ∀ (F4 G4 : PH) (out : Sl) (A4 : List Rt) (d : Bool), F1.le G4 → Ov 41 2 G4 F4 out (rtc A4) → (∀ y ∈ A4, RdS F1 y.2.1 1 (u8s y.2.2)) → A4.length ≤ 2 * (k + 1) →
    rcs A4 ++ wgo r d (L.drop (k + 1)) = withR L r → b74j2 (fun y1_0 y1_1 y1_2 F => ∃ m', m' < L.length - k ∧ ∃ (k : Nat) (G : PH) (A : List Rt), y1_2 = k ∧ k ≤ L.length ∧ m' = L.length - k ∧ F1.le G ∧ Ov 41 2 G F y1_0 (rtc A) ∧ (∀ y ∈ A, RdS F1 y.2.1 1 (u8s y.2.2)) ∧ rcs A ++ wgo r y1_1 (L.drop k) = withR L r ∧ A.length ≤ 2 * k) sl b3 (k : Int) out d (fun v F' => ∃ sl', v = Sl.v sl' ∧ Ct F' sl' (withR L r) ∧ F.le F') F4 := by
   intro F4 G4 out A4 d g1 g2 g3 g4 g5
   unfold b74j2
   exact ⟨L.length - (k + 1), by omega, k + 1, G4, A4, w64s (by omega), by omega, rfl, g1, g2, g3, g5, g4⟩
  have mid : ∀ (F4 G4 : PH) (out : Sl) (A4 : List Rt) (d : Bool), F1.le G4 → Ov 41 2 G4 F4 out (rtc A4) → (∀ y ∈ A4, RdS F1 y.2.1 1 (u8s y.2.2)) → A4.length ≤ 2 * k + 1 →
    rcs A4 ++ (if L[k].1 = r.1 then (if d then wgo r true (L.drop (k + 1)) else r :: wgo r true (L.drop (k + 1))) else L[k] :: wgo r d (L.drop (k + 1))) = withR L r →
    b74j3 (fun y1_0 y1_1 y1_2 F => ∃ m', m' < L.length - k ∧ ∃ (k : Nat) (G : PH) (A : List Rt), y1_2 = k ∧ k ≤ L.length ∧ m' = L.length - k ∧ F1.le G ∧ Ov 41 2 G F y1_0 (rtc A) ∧ (∀ y ∈ A, RdS F1 y.2.1 1 (u8s y.2.2)) ∧ rcs A ++ wgo r y1_1 (L.drop k) = withR L r ∧ A.length ≤ 2 * k) sl b3 (k : Int) out d (fun v F' => ∃ sl', v = Sl.v sl' ∧ Ct F' sl' (withR L r) ∧ F.le F') F4 := by
   intro F4 G4 out A4 d g1 g2 g3 g4 g5
   have l4 := le_trans' g1 g2.le
   have q3'' := l4 _ _ q3
   obtain ⟨a4, ha4, d1, d2, d3⟩ := (hRT.le (le_trans' l1 l4)).at hx
   unfold b74j3
   refine ⟨a4, ha4, by omega, by omega, T[k].1, d1, r.1, by rw [cell_eq q3'']; rfl, ?_⟩
   rw [beq_kb]
   refine ⟨fun hne => ?_, fun heq => ?_⟩
   ·have hne' : ¬ L[k].1 = r.1 := by rw [eLk]; simpa using hne
    rw [if_neg hne'] at g5
    refine ⟨a4, ha4, by omega, by omega, _, rfl, d3, rfl, ?_⟩
    refine app g1 g2 g3 (by omega) _ T[k] rfl hTv ?_
    intro s5 F5 G5 k1 k2 k3
    refine last F5 G5 s5 _ d k1 k2 k3 (by simp; omega) ?_
    rw [rcs_snoc, List.append_assoc, ← eLk]
    exact g5
   ·have heq' : L[k].1 = r.1 := by rw [eLk]; simpa using heq
    rw [if_pos heq'] at g5
    refine ⟨fun hd => ?_, fun hd => ?_⟩
    ·obtain rfl : d = false := by simpa using hd
     refine ⟨_, rfl, row_whole q3'', rfl, ?_⟩
     refine app g1 g2 g3 (by omega) _ (r.1, sv, r.2) rfl hr1 ?_
     intro s5 F5 G5 k1 k2 k3
     refine last F5 G5 s5 _ true k1 k2 k3 (by simp; omega) ?_
     rw [rcs_snoc, List.append_assoc]
     exact g5
    ·obtain rfl : d = true := by simpa using hd
     exact last F4 G4 out A4 true g1 g2 g3 (by omega) g5
  rw [hdrop] at hgo
  have j4 : ∀ b : Bool, (b = true ↔ (done = false ∧ ltK r.1 L[k].1)) → b74j4 (fun y1_0 y1_1 y1_2 F => ∃ m', m' < L.length - k ∧ ∃ (k : Nat) (G : PH) (A : List Rt), y1_2 = k ∧ k ≤ L.length ∧ m' = L.length - k ∧ F1.le G ∧ Ov 41 2 G F y1_0 (rtc A) ∧ (∀ y ∈ A, RdS F1 y.2.1 1 (u8s y.2.2)) ∧ rcs A ++ wgo r y1_1 (L.drop k) = withR L r ∧ A.length ≤ 2 * k) sl b3 out done (k : Int) b (fun v F' => ∃ sl', v = Sl.v sl' ∧ Ct F' sl' (withR L r) ∧ F.le F') F2 := by
   intro b hb
   unfold b74j4
   refine ⟨fun hb1 => ?_, fun hb0 => ?_⟩
   ·have hc := hb.1 hb1
    refine ⟨_, rfl, row_whole (lF2 _ _ q3), rfl, ?_⟩
    refine app lG hO hA (by omega) _ (r.1, sv, r.2) rfl hr1 ?_
    intro s5 F5 G5 k1 k2 k3
    refine mid F5 G5 s5 _ true k1 k2 k3 (by simp; omega) ?_
    rw [rcs_snoc, List.append_assoc, ← hgo]
    conv => rhs; unfold wgo
    rw [if_pos hc]
    rfl
   ·have hc : ¬ (done = false ∧ ltK r.1 L[k].1) := fun h => by rw [hb.2 h] at hb0; cases hb0
    refine mid F2 G out A done lG hO hA (by omega) ?_
    rw [← hgo]
    conv => rhs; unfold wgo
    rw [if_neg hc]
  refine ⟨fun hd => ⟨r.1, by rw [cell_eq (lF2 _ _ q3)]; rfl, a, ha, by omega, by omega, T[k].1, c1, ?_⟩, fun hd => ?_⟩
  ·rw [less_kb]
   refine j4 _ ?_
   rw [decide_eq_true_eq, eLk]
   exact ⟨fun h => ⟨by simpa using hd, h⟩, fun h => h.2⟩
  ·refine j4 _ ⟨fun h => (by cases h), fun h => ?_⟩
   rw [h.1] at hd
   cases hd
 ·obtain rfl : k = L.length := by omega
  rw [List.drop_length] at hgo
  unfold b74j1
  refine ⟨fun hd => ⟨_, rfl, row_whole (lF2 _ _ q3), rfl, ?_⟩, fun hd => ?_⟩
  ·obtain rfl : done = false := by simpa using hd
   refine app lG hO hA (by omega) _ (r.1, sv, r.2) rfl hr1 ?_
   intro s5 F5 G5 k1 k2 k3
   have l5 := le_trans' k1 k2.le
   refine ⟨s5, rfl, ⟨_, ?_, k2.own.rd, fun y hy => (k3 y hy).le l5⟩, le_trans' l1 l5⟩
   rw [rcs_snoc, ← hgo]
   rfl
  ·obtain rfl : done = true := by simpa using hd
   refine ⟨out, rfl, ⟨A, ?_, hO.own.rd, fun y hy => (hA y hy).le lF2⟩, le_trans' l1 lF2⟩
   rw [← hgo]
   simp [wgo]
end
theorem withR_len (L : List Rc) (r : Rc) : (withR L r).length ≤ L.length + 1 := by
 have : ∀ (L : List Rc) (d : Bool), (wgo r d L).length ≤ L.length + (if d then 0 else 1) := by
  intro L
  induction L with
  | nil => intro d; cases d <;> simp [wgo]
  | cons x l ih =>
   intro d
   unfold wgo
   have h1 := ih true
   have h2 := ih d
   have h3 := ih false
   split
   ·rename_i h
    rw [h.1]
    split <;> simp at h1 ⊢ <;> omega
   ·split
    ·cases d <;> simp at h1 ⊢ <;> omega
    ·cases d <;> simp at h2 ⊢ <;> omega
 have h := this L (decide (r.2.length = 0))
 unfold withR
 split at h <;> omega
section
variable {F : PH} {sl tl : Sl} {L t : List Rc} {n u : Nat}
theorem After_spec (h : Ct F sl L) (ht : Ct F tl t) (hL : L.length + t.length ≤ 1000000) : Spec prog 66 #[sl.v, tl.v] F fun v F' => ∃ sl', v = Sl.v sl' ∧ Ct F' sl' (afterR L t) ∧ F.le F' := by
 have htl := ht.len
 refine c66 ?_
 unfold b66
 refine ⟨fun m l i F' => ∃ k : Nat, i = k ∧ k ≤ t.length ∧ m = t.length - k ∧ F.le F' ∧ Ct F' l (afterR L (t.take k)) ∧ (afterR L (t.take k)).length ≤ L.length + k, t.length, ⟨0, rfl, by omega, rfl, le_refl' _, h, Nat.le_refl _⟩, ?_⟩
 rintro _ l _ F1 ⟨k, rfl, hk, rfl, l1, hl, hll⟩
 unfold b66L1
 refine ⟨fun hlt => ?_, fun hge => ?_⟩
 ·have hk' : k < t.length := by omega
  obtain ⟨a, sv, h1, _, _, h4, h5, h6⟩ := (ht.le l1).at hk'
  refine ⟨a, h1, by omega, by omega, _, rfl, h4, ?_⟩
  refine (with_spec hl rfl h5 (by omega)).mono ?_
  rintro v F2 ⟨s2, rfl, h7, l2⟩
  have e : afterR L (t.take (k + 1)) = withR (afterR L (t.take k)) t[k] := by
   rw [take_next' hk', afterR_append]
   rfl
  have := withR_len (afterR L (t.take k)) t[k]
  refine ⟨s2, rfl, t.length - (k + 1), by omega, k + 1, w64s (by omega), by omega, rfl, le_trans' l1 l2, by rw [e]; exact h7, by rw [e]; omega⟩
 ·obtain rfl : k = t.length := by omega
  unfold b66j1
  rw [List.take_length] at hl
  exact ⟨l, rfl, hl, l1⟩
theorem Valid_spec (ht : Ct F tl t) (htn : t.length ≤ 1000000) : Spec prog 23 #[tl.v] F fun v F' => ∃ b : Bool, v = .bool b ∧ (b = true ↔ OkT t) ∧ F' = F := by
 have htl := ht.len
 refine c23 ?_
 unfold b23
 refine ⟨fun m i F' => ∃ k : Nat, i = k ∧ k ≤ t.length ∧ m = t.length - k ∧ F' = F ∧ ∀ r ∈ t.take k, 1 ≤ r.1.size ∧ r.1.size ≤ 255 ∧ r.2.length ≤ 1048576, t.length, ⟨0, rfl, by omega, rfl, rfl, by simp⟩, ?_⟩
 rintro _ _ F1 ⟨k, rfl, hk, rfl, ee, hp⟩
 obtain rfl := ee.symm
 unfold b23L1
 refine ⟨fun hlt => ?_, fun hge => ?_⟩
 ·have hk' : k < t.length := by omega
  have hmem : t[k] ∈ t := List.getElem_mem _
  obtain ⟨a, sv, h1, h2, h3, _, _, h6⟩ := ht.at hk'
  have bad : ¬ (1 ≤ t[k].1.size ∧ t[k].1.size ≤ 255 ∧ t[k].2.length ≤ 1048576) → ∃ b : Bool, (Value.bool false) = .bool b ∧ (b = true ↔ OkT t) ∧ F = F := fun hn => ⟨false, rfl, ⟨fun h => (by cases h), fun h => absurd (h _ hmem) hn⟩, rfl⟩
  refine ⟨a, h1, by omega, by omega, _, h2, fun hb => bad (by omega), fun hb => ?_⟩
  refine ⟨a, h1, by omega, by omega, _, h2, fun hb => bad (by omega), fun hb => ?_⟩
  refine ⟨a, h1, by omega, by omega, sv, h3, fun hb => bad (by omega), fun hb => ?_⟩
  refine ⟨t.length - (k + 1), by omega, k + 1, w64s (by omega), by omega, rfl, rfl, fun r hr => ?_⟩
  rw [take_next' hk'] at hr
  rcases List.mem_append.1 hr with hr | hr
  ·exact hp r hr
  ·rw [List.mem_singleton.1 hr]
   exact ⟨by omega, by omega, by omega⟩
 ·obtain rfl : k = t.length := by omega
  unfold b23j1
  rw [List.take_length] at hp
  exact ⟨true, rfl, ⟨fun _ => hp, fun _ => rfl⟩, rfl⟩
noncomputable def refCommit (n u : Nat) (L t : List Rc) : Nat × List Rc × Int :=
 open Classical in
 if ¬ OkT t then (u, L, 1) else if t = [] then (u, L, 0) else
 if n / 2 - 1 - u < secs (plen t) then
  if n / 2 - 1 - snapN L < secs (plen t) then (u, L, 351) else (snapN L + secs (plen t), afterR L t, 0)
 else (u + secs (plen t), afterR L t, 0)
theorem CommitR_spec (h : Ct F sl L) (ht : Ct F tl t) (hn : n ≤ 1000000) (hn4 : 4 ≤ n) (hu : u ≤ 1000000) (hL : plen L ≤ 100000) (htn : t.length ≤ 1000) :
  Spec prog 42 #[.agg (refC n u sl), tl.v] F fun v F' => ∃ sl', v = .tuple #[.agg (refC n (refCommit n u L t).1 sl'), .int .i64 (refCommit n u L t).2.2] ∧ Ct F' sl' (refCommit n u L t).2.1 ∧ F.le F' := by
 have htl := ht.len
 have hLl := plen_le L
 refine c42 ?_
 unfold b42
 intro b2 h2
 refine atI ?_
 have l1 := le_set_fresh (.cells (refC n u sl) 28) h2
 have q2 := set_eq F b2 (.cells (refC n u sl) 28)
 generalize F.set b2 (.cells (refC n u sl) 28) = F1 at *
 intro b4 h4
 refine atI ?_
 have hne : b2 ≠ b4 := ne_of_fresh h4 q2
 have h4F : F b4 = none := le_none l1 h4
 have h2F : F b2 = none := h2
 have l2 := le_trans' l1 (le_set_fresh (.cells #[.int .i64 0, .int .i64 0, .slice none 0 0] 28) h4)
 have q4 := set_eq F1 b4 (.cells #[.int .i64 0, .int .i64 0, .slice none 0 0] 28)
 have q2' : (F1.set b4 (.cells #[.int .i64 0, .int .i64 0, .slice none 0 0] 28)) b2 = some (.cells (refC n u sl) 28 (0, 0)) := by rw [set_ne _ _ hne]; exact q2
 generalize F1.set b4 (.cells #[.int .i64 0, .int .i64 0, .slice none 0 0] 28) = F2 at *
 have hC : ∀ {F3 : PH}, F.le F3 → Ct F3 sl L := fun l => h.le l
 -- what is returned, unchanged
 have same : ∀ (F3 : PH), F2.le F3 → ∀ e : Int, (refCommit n u L t) = (u, L, e) → ∃ v_10 : Array Value, v_10.size = 3 ∧ F3.row (Addr.mk b2 0 none) v_10 ∧
   v_10.size = 3 ∧ (∀ v ∈ v_10.toList, storable v) ∧ ∃ c e, F3 (Addr.mk b4 0 none).block = some (.cells c e (0, 0)) ∧ (Addr.mk b4 0 none).spot = none ∧ (Addr.mk b4 0 none).off + 3 ≤ c.size ∧
   atF (F3.set (Addr.mk b4 0 none).block (.cells (wr c (Addr.mk b4 0 none).off v_10.toList) e)) fun F' => ∃ vres_4 : Array Value, vres_4.size = 3 ∧ F'.row (Addr.mk b4 0 none) vres_4 ∧
    ∃ sl', (.tuple #[.agg vres_4, .int .i64 (refCommit n u L t).2.2] : Value) = .tuple #[.agg (refC n (refCommit n u L t).1 sl'), .int .i64 (refCommit n u L t).2.2] ∧ Ct F' sl' (refCommit n u L t).2.1 ∧ F.le F' := by
  intro F3 l3 e he
  refine ⟨refC n u sl, rfl, row_whole (l3 _ _ q2'), ?_⟩
  refine stW (l3 _ _ q4) rfl rfl st_refC ?_
  have l4 : F.le (F3.set b4 (.cells (refC n u sl) 28)) := le_set_new (le_trans' l2 l3) h4F
  exact ⟨_, rfl, row_whole (set_eq _ _ _), sl, by rw [he], by rw [he]; exact h.le l4, l4⟩
 refine (Valid_spec (ht.le l2) (by omega)).mono ?_
 rintro v F3 ⟨b, rfl, hb, ee⟩
 obtain rfl := ee.symm
 refine ⟨b, rfl, fun hb0 => ?_, fun hb1 => ?_⟩
 ·have hok : ¬ OkT t := fun hk => by rw [hb.2 hk] at hb0; cases hb0
  have he : refCommit n u L t = (u, L, 1) := by unfold refCommit; rw [if_pos hok]
  have := same F2 (le_refl' _) 1 he
  rw [he] at this ⊢
  exact this
 have hok : OkT t := hb.1 (by simpa using hb1)
 refine ⟨fun h0 => ?_, fun h0 => ?_⟩
 ·have htn0 : t = [] := List.eq_nil_of_length_eq_zero (by omega)
  have he : refCommit n u L t = (u, L, 0) := by unfold refCommit; rw [if_neg (fun hh => hh hok), if_pos htn0]
  have := same F2 (le_refl' _) 0 he
  rw [he] at this ⊢
  exact this
 have htne : t ≠ [] := fun e => h0 (by rw [htl, e]; rfl)
 have hpt : plen t ≤ t.length * 1048836 := by
  clear h0 hb1 hb same htne ht htl htn
  induction t with
  | nil => simp [plen_nil]
  | cons z T ih =>
   rw [plen_cons, List.length_cons]
   have h2 := hok z (List.mem_cons_self ..)
   have h3 := ih (fun r hr => hok r (List.mem_cons_of_mem _ hr))
   omega
 have hsn : snapN L ≤ secs (plen L) := by unfold snapN; split <;> omega
 have hse : secs (plen t) = 1 + (plen t + 62) / 63 := rfl
 have hseL : secs (plen L) = 1 + (plen L + 62) / 63 := rfl
 have heq : refCommit n u L t = if n / 2 - 1 - u < secs (plen t) then
  if n / 2 - 1 - snapN L < secs (plen t) then (u, L, 351) else (snapN L + secs (plen t), afterR L t, 0)
  else (u + secs (plen t), afterR L t, 0) := by
  conv => lhs; unfold refCommit
  rw [if_neg (fun hh => hh hok), if_neg htne]
 refine (Size_spec (ht.le l2) (by omega)).mono ?_
 rintro v F3 ⟨rfl, ee⟩
 obtain rfl := ee.symm
 refine ⟨_, rfl, refC n u sl, rfl, row_whole q2', (u : Int), by rw [cell_eq q2']; rfl, ?_⟩
 refine (capacityR_spec hn).mono ?_
 rintro v F3 ⟨rfl, l3⟩
 have q23 := l3 _ _ q2'
 have q43 := l3 _ _ q4
 have l03 := le_trans' l2 l3
 -- the end of a transaction
 have fin : ∀ (F5 : PH) (w : Nat), F.le F5 → F5 b2 = some (.cells (refC n w sl) 28 (0, 0)) → F5 b4 = some (.cells #[.int .i64 0, .int .i64 0, .slice none 0 0] 28 (0, 0)) → w ≤ 10000000 → refCommit n u L t = (w + secs (plen t), afterR L t, 0) →
   b42j1 tl b2 b4 (secs (plen t) : Int) (fun v F' => ∃ sl', v = .tuple #[.agg (refC n (refCommit n u L t).1 sl'), .int .i64 (refCommit n u L t).2.2] ∧ Ct F' sl' (refCommit n u L t).2.1 ∧ F.le F') F5 := by
  intro F5 w l5 p2 p4 hw he
  unfold b42j1
  refine ⟨(w : Int), by rw [cell_eq p2]; rfl, ?_⟩
  refine st1' (b := b2) (o := 1) rfl p2 (by simp) ?_
  have ew : IntKind.i64.wrap ((w : Int) + (secs (plen t) : Int)) = ((w + secs (plen t) : Nat) : Int) := by rw [w64_eq (by omega) (by omega)]; omega
  rw [ew, show ((refC n w sl).setIfInBounds 1 (.int .i64 ((w + secs (plen t) : Nat) : Int))) = refC n (w + secs (plen t)) sl from rfl]
  have l6 : F.le (F5.set b2 (.cells (refC n (w + secs (plen t)) sl) 28)) := le_set_new l5 h2F
  have p2' := set_eq F5 b2 (.cells (refC n (w + secs (plen t)) sl) 28)
  have p4' : (F5.set b2 (.cells (refC n (w + secs (plen t)) sl) 28)) b4 = some (.cells #[.int .i64 0, .int .i64 0, .slice none 0 0] 28 (0, 0)) := by rw [set_ne _ _ hne.symm]; exact p4
  generalize F5.set b2 (.cells (refC n (w + secs (plen t)) sl) 28) = F6 at *
  refine ⟨sl, by rw [cell_eq p2']; rfl, ?_⟩
  have hfs : ∀ b, fs2 b2 b4 b → F6 b ≠ none := by
   rintro b (rfl | rfl)
   ·rw [p2']; simp
   ·rw [p4']; simp
  have hfF : ∀ b, fs2 b2 b4 b → F b = none := by
   rintro b (rfl | rfl)
   ·exact h2F
   ·exact h4F
  have lm := le_mns_new l6 hfF
  refine (Spec.side hfs (After_spec (h.le lm) (ht.le lm) (by omega))).mono ?_
  rintro v F7 ⟨⟨s7, rfl, h7, l7⟩, hk7⟩
  have p2'' := (hk7 b2 (.inl rfl)).trans p2'
  have p4'' := (hk7 b4 (.inr rfl)).trans p4'
  refine ⟨s7, rfl, ?_⟩
  refine st1' (b := b2) (o := 2) rfl p2'' (by simp) ?_
  rw [show ((refC n (w + secs (plen t)) sl).setIfInBounds 2 s7.v) = refC n (w + secs (plen t)) s7 from rfl]
  refine ⟨refC n (w + secs (plen t)) s7, rfl, row_whole (set_eq _ _ _), ?_⟩
  refine stW (c := #[.int .i64 0, .int .i64 0, .slice none 0 0]) (e := 28) ?_ rfl rfl st_refC ?_
  ·rw [set_ne _ _ hne.symm]
   exact p4''
  have l8 : (mns F7 (fs2 b2 b4)).le ((F7.set b2 (.cells (refC n (w + secs (plen t)) s7) 28)).set b4 (.cells (refC n (w + secs (plen t)) s7) 28)) :=
   le_set_new (le_set_new (mns_le _ _) (by unfold mns; rw [if_pos (.inl rfl)])) (by unfold mns; rw [if_pos (.inr rfl)])
  exact ⟨_, rfl, row_whole (set_eq _ _ _), s7, by rw [he], by rw [he]; exact h7.le l8, le_trans' lm (le_trans' l7 l8)⟩
 have ecap : ((n / 2 : Nat) : Int) - 1 = ((n / 2 - 1 : Nat) : Int) := by omega
 rw [ecap]
 refine ⟨_, rfl, by rw [cell_eq q23]; rfl, ?_⟩
 rw [w64_eq (x := ((n / 2 - 1 : Nat) : Int) - (u : Int)) (by omega) (by omega)]
 refine ⟨fun hfull => ?_, fun hfits => fin F3 u l03 q23 q43 (by omega) (by rw [heq, if_neg (by omega)])⟩
 refine ⟨_, rfl, row_whole q23, _, rfl, row_whole q23, ?_⟩
 refine (capacityR_spec hn).mono ?_
 rintro v F4 ⟨rfl, l4⟩
 rw [ecap]
 have l04 := le_trans' l03 l4
 refine ⟨_, rfl, row_whole (l4 _ _ q23), ?_⟩
 refine (snapshotR_spec (h.le l04) (by omega)).mono ?_
 rintro v F5 ⟨rfl, l5⟩
 have l05 := le_trans' l04 l5
 have q25 := l5 _ _ (l4 _ _ q23)
 have q45 := l5 _ _ (l4 _ _ q43)
 refine ⟨_, rfl, ?_⟩
 rw [w64_eq (x := ((n / 2 - 1 : Nat) : Int) - (snapN L : Int)) (by omega) (by omega)]
 refine ⟨fun hfull2 => ?_, fun hfits2 => ?_⟩
 ·have he : refCommit n u L t = (u, L, 351) := by rw [heq, if_pos (by omega), if_pos (by omega)]
  have := same F5 (le_trans' l3 (le_trans' l4 l5)) 351 he
  rw [he] at this ⊢
  exact this
 refine ⟨_, rfl, row_whole q25, ?_⟩
 refine (snapshotR_spec (h.le l05) (by omega)).mono ?_
 rintro v F6 ⟨rfl, l6⟩
 refine ⟨_, rfl, ?_⟩
 refine st1' (b := b2) (o := 1) rfl (l6 _ _ q25) (by simp) ?_
 rw [show ((refC n u sl).setIfInBounds 1 (.int .i64 (snapN L : Int))) = refC n (snapN L) sl from rfl]
 refine fin _ (snapN L) (le_set_new (le_trans' l05 l6) h2F) (set_eq _ _ _) ?_ (by omega) (by rw [heq, if_pos (by omega), if_neg (by omega)])
 rw [set_ne _ _ hne.symm]
 exact l6 _ _ q45
theorem CompactR_spec (h : Ct F sl L) (hL : plen L ≤ 1000000) : Spec prog 35 #[.agg (refC n u sl)] F fun v F' => v = .agg (refC n (snapN L) sl) ∧ F.le F' := by
 refine c35 ?_
 unfold b35
 intro b1 h1
 refine atI ?_
 have l1 := le_set_fresh (.cells (refC n u sl) 28) h1
 have q1 := set_eq F b1 (.cells (refC n u sl) 28)
 generalize F.set b1 (.cells (refC n u sl) 28) = F1 at *
 intro b2 h2
 refine atI ?_
 have hne : b1 ≠ b2 := ne_of_fresh h2 q1
 have h2F : F b2 = none := le_none l1 h2
 have l2 := le_trans' l1 (le_set_fresh (.cells #[.int .i64 0, .int .i64 0, .slice none 0 0] 28) h2)
 have q2 := set_eq F1 b2 (.cells #[.int .i64 0, .int .i64 0, .slice none 0 0] 28)
 have q1' : (F1.set b2 (.cells #[.int .i64 0, .int .i64 0, .slice none 0 0] 28)) b1 = some (.cells (refC n u sl) 28 (0, 0)) := by rw [set_ne _ _ hne]; exact q1
 generalize F1.set b2 (.cells #[.int .i64 0, .int .i64 0, .slice none 0 0] 28) = F2 at *
 refine ⟨_, rfl, row_whole q1', ?_⟩
 refine (snapshotR_spec (h.le l2) (by omega)).mono ?_
 rintro v F3 ⟨rfl, l3⟩
 refine ⟨_, rfl, ?_⟩
 refine st1' (b := b1) (o := 1) rfl (l3 _ _ q1') (by simp) ?_
 rw [show ((refC n u sl).setIfInBounds 1 (.int .i64 (snapN L : Int))) = refC n (snapN L) sl from rfl]
 refine ⟨_, rfl, row_whole (set_eq _ _ _), ?_⟩
 refine stW (c := #[.int .i64 0, .int .i64 0, .slice none 0 0]) (e := 28) ?_ rfl rfl st_refC ?_
 ·rw [set_ne _ _ hne.symm]
  exact l3 _ _ q2
 exact ⟨_, rfl, row_whole (set_eq _ _ _), rfl, le_set_new (le_set_new (le_trans' l2 l3) h1) h2F⟩
theorem RoomR_spec (hn : n ≤ 1000000) (hn4 : 4 ≤ n) (hu : u ≤ 1000000) : Spec prog 41 #[.agg (refC n u sl)] F fun v F' => v = .int .i64 (roomI (n / 2) u) ∧ F.le F' := by
 refine c41 ?_
 unfold b41
 intro b1 h1
 refine atI ?_
 have l1 := le_set_fresh (.cells (refC n u sl) 28) h1
 have q1 := set_eq F b1 (.cells (refC n u sl) 28)
 generalize F.set b1 (.cells (refC n u sl) 28) = F1 at *
 refine ⟨_, rfl, row_whole q1, (u : Int), by rw [cell_eq q1]; rfl, ?_⟩
 refine (capacityR_spec hn).mono ?_
 rintro v F2 ⟨rfl, l2⟩
 refine ⟨_, rfl, by rw [cell_eq (l2 _ _ q1)]; rfl, ?_, le_trans' l1 l2⟩
 have ecap : ((n / 2 : Nat) : Int) - 1 = ((n / 2 - 1 : Nat) : Int) := by omega
 rw [ecap, w64_eq (x := ((n / 2 - 1 : Nat) : Int) - (u : Int)) (by omega) (by omega), w64_eq (x := ((n / 2 - 1 : Nat) : Int) - (u : Int) - 1) (by omega) (by omega), w64_eq (by omega) (by omega)]
 rfl
end
theorem Ov.upd {e size : Nat} {G F : PH} {s : Sl} {vs : List Value} (h : Ov e size G F s vs) {b : Nat} (hb : G b ≠ none) (o : Obj) : Ov e size (G.set b o) (F.set b o) s vs := by
 have hne : ∀ a, s.base = some a → a.block ≠ b := fun a ha e => hb (e ▸ h.oz a ha)
 refine ⟨fun y p hy => ?_, h.own.keep fun a ha => set_ne _ _ (hne a ha), fun a ha => by rw [set_ne _ _ (hne a ha)]; exact h.oz a ha⟩
 by_cases e : y = b
 ·rw [e, set_eq] at hy ⊢
  exact hy
 ·rw [set_ne _ _ e] at hy ⊢
  exact h.le _ _ hy
abbrev bk (s : Sl) : Nat → Prop := fun b => ∃ a, s.base = some a ∧ a.block = b
theorem Ov.low {e size : Nat} {G F : PH} {s : Sl} {vs : List Value} (h : Ov e size G F s vs) : G.le (mns F (bk s)) := fun b o hb => by
 unfold mns
 rw [if_neg]
 ·exact h.le _ _ hb
 ·rintro ⟨a, ha, rfl⟩
  rw [h.oz a ha] at hb
  cases hb
theorem Ov.side {P : Program} {f : FuncId} {args : Array Value} {R : Value → PH → Prop} {e size : Nat} {G F : PH} {s : Sl} {vs : List Value} (h : Ov e size G F s vs) (hs : Spec P f args (mns F (bk s)) R) :
  Spec P f args F fun v F' => ∃ G', R v G' ∧ Ov e size G' F' s vs := by
 refine (Spec.side (fs := bk s) ?_ hs).mono ?_
 ·rintro b ⟨a, ha, rfl⟩
  obtain ⟨o, ho⟩ := h.own.some ha
  rw [ho]
  simp
 ·rintro v F' ⟨hr, hk⟩
  exact ⟨_, hr, mns_le _ _, h.own.keep fun a ha => hk _ ⟨a, ha, rfl⟩, fun a ha => by unfold mns; rw [if_pos ⟨a, ha, rfl⟩]⟩
abbrev Itm := Int × Int × Int
def itc (l : List Itm) : List Value := l.flatMap fun i => [.int .u8 i.1, .int .u8 i.2.1, .int .u8 i.2.2]
def ItOk (i : Itm) : Prop := (0 ≤ i.1 ∧ i.1 ≤ 255) ∧ (0 ≤ i.2.1 ∧ i.2.1 ≤ 255) ∧ (0 ≤ i.2.2 ∧ i.2.2 ≤ 255)
theorem itc_len (l : List Itm) : (itc l).length = l.length * 3 := by
 induction l with
 | nil => rfl
 | cons b T ih => simp only [itc, List.flatMap_cons, List.length_append, List.length_cons] at ih ⊢; rw [ih]; simp; omega
theorem itc_get : ∀ (T : List Itm) (i : Nat) (x : Itm), T[i]? = some x → ((itc T).drop (i * 3)).take 3 = [.int .u8 x.1, .int .u8 x.2.1, .int .u8 x.2.2]
 | b :: T, 0, x, h => by cases h; simp [itc]
 | b :: T, i + 1, x, h => by
  have e : (i + 1) * 3 = 3 + i * 3 := by omega
  have : itc (b :: T) = [.int .u8 b.1, .int .u8 b.2.1, .int .u8 b.2.2] ++ itc T := by simp [itc]
  rw [this, e, ← List.drop_drop, List.drop_left' (by simp)]
  exact itc_get T i x (by simpa using h)
structure OpS where
 kind : Int
 sl : Sl
 its : List Itm
abbrev OpS.cells (o : OpS) : Array Value := #[.int .u8 o.kind, o.sl.v]
structure OpRd (F : PH) (o : OpS) : Prop where
 kind : 0 ≤ o.kind ∧ o.kind ≤ 255
 rd : RdS F o.sl 3 (itc o.its)
 ok : ∀ i ∈ o.its, ItOk i
theorem OpRd.le {F G : PH} {o : OpS} (h : OpRd F o) (l : F.le G) : OpRd G o := ⟨h.kind, h.rd.le l, h.ok⟩
theorem OpRd.len {F : PH} {o : OpS} (h : OpRd F o) : o.sl.len = o.its.length := by have := h.rd.len; rw [itc_len] at this; omega
def kks (n : Nat) : ByteArray := ⟨(List.replicate n (107 : UInt8)).toArray⟩
theorem kks_size (n : Nat) : (kks n).size = n := by simp [kks, ByteArray.size]
theorem kks_next (n : Nat) : kks n ++ (ByteArray.mk #[107]) = kks (n + 1) := by
 apply kb_inj
 show (kks n ++ ByteArray.mk #[107]).data.toList = (kks (n + 1)).data.toList
 rw [ByteArray.data_append]
 simp [kks, List.replicate_succ']
def keyT (k : Int) : ByteArray := ([ByteArray.mk #[97], ByteArray.mk #[98], ByteArray.mk #[99], ByteArray.mk #[97, 97], ByteArray.mk #[107, 101, 121], ByteArray.mk #[0]][(k % 6).toNat]?).getD (ByteArray.mk #[])
def keyOf (k : Int) : ByteArray := if 250 < k then kks (5 + k).toNat else if k = 250 then ByteArray.mk #[] else keyT k
def recOf (i : Itm) : Rc := (keyOf i.1, List.replicate (i.2.2 % 90).toNat i.2.1)
theorem recOf_byt {i : Itm} (h : ItOk i) : Byt (recOf i).2 := fun x hx => by
 rw [List.eq_of_mem_replicate hx]
 exact h.2.1
section
variable {F : PH}
theorem Record_spec {a : Array Value} {i : Itm} (ha : a = #[.int .u8 i.1, .int .u8 i.2.1, .int .u8 i.2.2]) (hi : ItOk i) : Spec prog 15 #[.agg a] F fun w F' => ∃ sv : Sl, w = .agg #[.string (recOf i).1, sv.v] ∧ RdS F' sv 1 (u8s (recOf i).2) ∧ F.le F' := by
 obtain ⟨⟨k0, k1⟩, _, s0, s1⟩ := hi
 subst ha
 refine c15 ?_
 unfold b15
 intro b1 h1
 refine atI ?_
 have l1 := le_set_fresh (.cells #[.int .u8 i.1, .int .u8 i.2.1, .int .u8 i.2.2] 44) h1
 have q1 := set_eq F b1 (.cells #[.int .u8 i.1, .int .u8 i.2.1, .int .u8 i.2.2] 44)
 generalize F.set b1 (.cells #[.int .u8 i.1, .int .u8 i.2.1, .int .u8 i.2.2] 44) = F1 at *
 intro b2 h2
 refine atI ?_
 have hF2 : F b2 = none := le_none l1 h2
 have l2 := le_set_fresh (.cells #[.string ⟨#[]⟩, .slice none 0 0] 41) h2
 have q2 := set_eq F1 b2 (.cells #[.string ⟨#[]⟩, .slice none 0 0] 41)
 have q1' := l2 _ _ q1
 have l02 := le_trans' l1 l2
 generalize F1.set b2 (.cells #[.string ⟨#[]⟩, .slice none 0 0] 41) = F2 at *
 intro b6 h6
 refine atI ?_
 have l3 := le_set_fresh (.cells #[(.string (ByteArray.mk #[97])), (.string (ByteArray.mk #[98])), (.string (ByteArray.mk #[99])), (.string (ByteArray.mk #[97, 97])), (.string (ByteArray.mk #[107, 101, 121])), (.string (ByteArray.mk #[0]))] 9) h6
 have q6 := set_eq F2 b6 (.cells #[(.string (ByteArray.mk #[97])), (.string (ByteArray.mk #[98])), (.string (ByteArray.mk #[99])), (.string (ByteArray.mk #[97, 97])), (.string (ByteArray.mk #[107, 101, 121])), (.string (ByteArray.mk #[0]))] 9)
 have q1'' := l3 _ _ q1'
 have q2' := l3 _ _ q2
 have l03 := le_trans' l02 l3
 generalize F2.set b6 (.cells #[(.string (ByteArray.mk #[97])), (.string (ByteArray.mk #[98])), (.string (ByteArray.mk #[99])), (.string (ByteArray.mk #[97, 97])), (.string (ByteArray.mk #[107, 101, 121])), (.string (ByteArray.mk #[0]))] 9) = F3 at *
 have em : Int.tmod i.1 6 = i.1 % 6 := Int.tmod_eq_emod_of_nonneg k0
 have hk6 : 0 ≤ i.1 % 6 ∧ i.1 % 6 < 6 := by omega
 have ht : F3.cell (Addr.add ⟨b6, 0, none⟩ (Int.toNat (i.1 % 6) * 1)) = some (.string (keyT i.1)) := by
  rw [add_mk, cell_eq q6]
  unfold keyT
  have : (i.1 % 6).toNat < 6 := by omega
  generalize (i.1 % 6).toNat = j at *
  match j, this with
  | 0, _ => rfl
  | 1, _ => rfl
  | 2, _ => rfl
  | 3, _ => rfl
  | 4, _ => rfl
  | 5, _ => rfl
 -- the value, byte by byte
 have j2 : ∀ (F4 : PH) (key : ByteArray), F3.le F4 → key = keyOf i.1 → b15j2 b1 b2 key (fun w F' => ∃ sv : Sl, w = .agg #[.string (recOf i).1, sv.v] ∧ RdS F' sv 1 (u8s (recOf i).2) ∧ F.le F') F4 := by
  intro F4 key l4 hkey
  subst hkey
  have p1 := l4 _ _ q1''
  have p2 := l4 _ _ q2'
  unfold b15j2
  intro b4 h4
  refine atI ?_
  refine stW (set_eq _ _ _) rfl rfl (st_two st_str (show storable (Sl.v Sl.nil) from st_sl)) ?_
  rw [set_twice]
  have h4F : F b4 = none := le_none (le_trans' l03 l4) h4
  have n14 : b1 ≠ b4 := ne_of_fresh h4 p1
  have n24 : b2 ≠ b4 := ne_of_fresh h4 p2
  have es : IntKind.i64.wrap (Int.tmod i.2.2 90) = i.2.2 % 90 := by rw [Int.tmod_eq_emod_of_nonneg s0, w64_eq (by omega) (by omega)]
  refine ⟨fun m j F' => ∃ (k : Nat) (G : PH) (out : Sl), j = k ∧ k ≤ (i.2.2 % 90).toNat ∧ m = (i.2.2 % 90).toNat - k ∧ F.le G ∧ G b1 = some (.cells #[.int .u8 i.1, .int .u8 i.2.1, .int .u8 i.2.2] 44 (0, 0)) ∧ G b2 = some (.cells #[.string ⟨#[]⟩, .slice none 0 0] 41 (0, 0)) ∧
    G b4 = some (.cells #[.string (keyOf i.1), out.v] 41 (0, 0)) ∧ Ov 5 1 G F' out (u8s (List.replicate k i.2.1)), (i.2.2 % 90).toNat,
   ⟨0, _, Sl.nil, rfl, by omega, rfl, le_set_new (le_trans' l03 l4) h4F, by rw [set_ne _ _ n14]; exact p1, by rw [set_ne _ _ n24]; exact p2, set_eq _ _ _, Ov.nil _ _ _⟩, ?_⟩
  rintro _ _ F5 ⟨k, G, out, rfl, hk, rfl, lG, g1, g2, g4, hO⟩
  unfold b15L1
  refine ⟨i.2.2, by rw [cell_eq (hO.le _ _ g1)]; rfl, ?_⟩
  rw [es]
  refine ⟨fun hlt => ?_, fun hge => ?_⟩
  ·refine ⟨out, by rw [cell_eq (hO.le _ _ g4)]; rfl, i.2.1, by rw [cell_eq (hO.le _ _ g1)]; rfl, ?_⟩
   intro b41 h41
   refine atI ?_
   have hO1 := hO.newg h41 (.cells #[.int .u8 i.2.1] 5)
   have lG1 := hO.gle h41 (.cells #[.int .u8 i.2.1] 5)
   have q41 := set_eq F5 b41 (.cells #[.int .u8 i.2.1] 5)
   generalize G.set b41 (.cells #[.int .u8 i.2.1] 5) = G1 at *
   generalize F5.set b41 (.cells #[.int .u8 i.2.1] 5) = F6 at *
   have hol := hO1.own.rd.ulen
   rw [List.length_replicate] at hol
   refine hO1.app (x := ⟨some ⟨b41, 0, none⟩, 1, 1⟩) (news := u8s [i.2.1]) underlying39 sz5 zr5 rfl (by decide) (RdS.new q41 rfl rfl (Nat.le_refl _)) st_u8s (by simp only; omega) (by simp only; omega) ?_
   intro s7 F7 hO2
   have hg4 := lG1 _ _ g4
   refine st1' (b := b4) (o := 1) rfl (hO2.le _ _ hg4) (by simp) ?_
   rw [show (#[.string (keyOf i.1), out.v] : Array Value).setIfInBounds 1 s7.v = #[.string (keyOf i.1), s7.v] from rfl]
   have hO3 := hO2.upd (b := b4) (by rw [hg4]; simp) (.cells #[.string (keyOf i.1), s7.v] 41)
   refine ⟨(i.2.2 % 90).toNat - (k + 1), by omega, k + 1, G1.set b4 (.cells #[.string (keyOf i.1), s7.v] 41), s7, w64s (by omega), by omega, rfl, le_set_new (le_trans' lG lG1) h4F, ?_, ?_, set_eq _ _ _, ?_⟩
   ·rw [set_ne _ _ n14]; exact lG1 _ _ g1
   ·rw [set_ne _ _ n24]; exact lG1 _ _ g2
   ·rw [List.replicate_succ']
    simpa [u8s] using hO3
  ·have hk' : k = (i.2.2 % 90).toNat := by omega
   unfold b15j3
   refine ⟨_, rfl, row_whole (hO.le _ _ g4), ?_⟩
   refine stW (hO.le _ _ g2) rfl rfl (st_two st_str st_sl) ?_
   have hO3 := hO.upd (b := b2) (by rw [g2]; simp) (.cells #[.string (keyOf i.1), out.v] 41)
   refine ⟨_, rfl, row_whole (set_eq _ _ _), out, rfl, ?_, le_trans' (le_set_new lG hF2) hO3.le⟩
   rw [hk'] at hO3
   exact hO3.own.rd
 have j1 : ∀ key : ByteArray, (250 < i.1 → key.size = 0 → True) → (¬ 250 < i.1 → key = keyOf i.1) → b15j1 b1 b2 key (fun w F' => ∃ sv : Sl, w = .agg #[.string (recOf i).1, sv.v] ∧ RdS F' sv 1 (u8s (recOf i).2) ∧ F.le F') F3 := by
  intro key _ hk
  unfold b15j1
  refine ⟨i.1, by rw [cell_eq q1'']; rfl, fun hb => ?_, fun hb => j2 F3 key (le_refl' _) (hk hb)⟩
  refine ⟨fun m key F' => ∃ j : Nat, key = kks j ∧ j ≤ (5 + i.1).toNat ∧ m = (5 + i.1).toNat - j ∧ F3.le F', (5 + i.1).toNat, ⟨0, rfl, by omega, rfl, le_refl' _⟩, ?_⟩
  rintro _ _ F4 ⟨j, rfl, hj, rfl, l4⟩
  unfold b15L2
  have e5 : IntKind.i64.wrap (5 + IntKind.i64.wrap i.1) = 5 + i.1 := by rw [w64_eq (x := i.1) (by omega) (by omega), w64_eq (by omega) (by omega)]
  refine ⟨i.1, by rw [cell_eq (l4 _ _ q1'')]; rfl, ?_⟩
  rw [e5, kks_size]
  refine ⟨fun hlt => ⟨?_, (5 + i.1).toNat - (j + 1), by omega, j + 1, kks_next j, by omega, rfl, l4⟩, fun hge => ?_⟩
  ·show j + 1 ≤ _
   omega
  ·refine j2 F4 _ l4 ?_
   unfold keyOf
   rw [if_pos hb, show j = (5 + i.1).toNat by omega]
 refine ⟨i.1, by rw [cell_eq q1'']; rfl, _, rfl, by rw [em]; exact hk6.1, by rw [em]; exact hk6.2, keyT i.1, by rw [em]; exact ht, i.1, by rw [cell_eq q1'']; rfl, fun he => ?_, fun he => ?_⟩
 ·refine j1 _ (fun _ _ => trivial) fun hb => ?_
  unfold keyOf
  rw [if_neg hb, if_pos he]
 ·refine j1 _ (fun _ _ => trivial) fun hb => ?_
  unfold keyOf
  rw [if_neg hb, if_neg he]
def recsOf (o : OpS) : List Rc := (o.its.take 4).map recOf
theorem recsOf_byt {o : OpS} (h : OpRd F o) : ∀ r ∈ recsOf o, Byt r.2 := by
 intro r hr
 obtain ⟨i, hi, rfl⟩ := List.mem_map.1 hr
 exact recOf_byt (h.ok i (List.mem_of_mem_take hi))
theorem recsOf_len (o : OpS) : (recsOf o).length ≤ 4 := by unfold recsOf; rw [List.length_map, List.length_take]; omega
theorem Records_spec {a : Array Value} {o : OpS} (ha : a = o.cells) (ho : OpRd F o) : Spec prog 22 #[.agg a] F fun w F' => ∃ sl, w = Sl.v sl ∧ Ct F' sl (recsOf o) ∧ F.le F' := by
 subst ha
 have hlen := ho.len
 refine c22 ?_
 unfold b22
 intro b1 h1
 refine atI ?_
 have l1 := le_set_fresh (.cells o.cells 38) h1
 have q1 := set_eq F b1 (.cells o.cells 38)
 generalize F.set b1 (.cells o.cells 38) = F1 at *
 intro b5 h5
 refine atI ?_
 refine ⟨fun m out j F' => ∃ (k : Nat) (G : PH) (A : List Rt), j = k ∧ k ≤ o.its.length ∧ k ≤ 4 ∧ m = 4 - k ∧ F1.le G ∧ Ov 41 2 G F' out (rtc A) ∧ (∀ y ∈ A, RdS G y.2.1 1 (u8s y.2.2)) ∧ rcs A = (o.its.take k).map recOf, 4,
  ⟨0, F1, [], rfl, by omega, by omega, rfl, le_refl' _, ⟨le_set_fresh _ h5, .inr ⟨b5, #[], rfl, set_eq _ _ _, rfl, Nat.le_refl _, rfl, rfl⟩, fun a ha => by cases ha; exact h5⟩, by simp, by simp [rcs]⟩, ?_⟩
 rintro _ out _ F2 ⟨k, G, A, rfl, hk, hk4, rfl, lG, hO, hA, hrA⟩
 have lF2 := le_trans' lG hO.le
 have fin : (k = 4 ∨ k = o.its.length) → b22j1 out (fun w F' => ∃ sl, w = Sl.v sl ∧ Ct F' sl (recsOf o) ∧ F.le F') F2 := fun hh => by
  unfold b22j1
  refine ⟨out, rfl, ⟨A, ?_, hO.own.rd, fun y hy => (hA y hy).le hO.le⟩, le_trans' l1 lF2⟩
  rw [hrA]
  unfold recsOf
  rcases hh with rfl | rfl
  ·rfl
  ·rw [List.take_length, List.take_of_length_le (by omega)]
 unfold b22L1
 refine ⟨o.sl, by rw [cell_eq (lF2 _ _ q1)]; rfl, fun hlt => ⟨fun h4 => ?_, fun h4 => fin (.inl (by omega))⟩, fun hge => fin (.inr (by omega))⟩
 have hk' : k < o.its.length := by omega
 have hx : o.its[k]? = some o.its[k] := List.getElem?_eq_getElem hk'
 have hrd := ho.rd.le (le_trans' l1 lF2)
 obtain ⟨b, of, hbase⟩ := hrd.base (by omega)
 have hrow := hrd.row hbase (k * 3) #[.int .u8 o.its[k].1, .int .u8 o.its[k].2.1, .int .u8 o.its[k].2.2] (itc_get _ _ _ hx).symm
 refine ⟨o.sl, by rw [cell_eq (lF2 _ _ q1)]; rfl, _, hbase, by omega, by omega, _, rfl, by rw [Int.toNat_natCast]; exact hrow, ?_⟩
 refine (hO.side (Record_spec rfl (ho.ok _ (List.getElem_mem hk')))).mono ?_
 rintro w F3 ⟨G3, ⟨sv, rfl, hsv, l3⟩, hO3⟩
 have lG3 := le_trans' hO.low l3
 refine ⟨_, rfl, rfl, ?_⟩
 intro b24 h24
 refine atI ?_
 have hO4 := hO3.newg h24 (.cells #[.string (recOf o.its[k]).1, sv.v] 41)
 have lG4 := hO3.gle h24 (.cells #[.string (recOf o.its[k]).1, sv.v] 41)
 have q24 := set_eq F3 b24 (.cells #[.string (recOf o.its[k]).1, sv.v] 41)
 have hAl : A.length = k := by
  have := congrArg List.length hrA
  rw [rcs_len, List.length_map, List.length_take] at this
  omega
 have hol := hO4.len
 rw [rtc_length] at hol
 refine hO4.app (x := ⟨some ⟨b24, 0, none⟩, 1, 1⟩) (news := [.string (recOf o.its[k]).1, sv.v]) underlying26 sz41 zr41 rfl (by decide) (RdS.new q24 rfl rfl (Nat.le_refl _)) st_pair (by simp only; omega) (by simp only; omega) ?_
 intro s5 F5 hO5
 refine ⟨4 - (k + 1), by omega, k + 1, _, A ++ [((recOf o.its[k]).1, sv, (recOf o.its[k]).2)], w64s (by omega), by omega, by omega, rfl, le_trans' lG (le_trans' lG3 lG4), by rw [rtc_snoc]; exact hO5, fun y hy => ?_, ?_⟩
 ·rcases List.mem_append.1 hy with hy | hy
  ·exact ((hA y hy).le lG3).le lG4
  ·rw [List.mem_singleton.1 hy]
   exact hsv.le lG4
 ·rw [rcs_snoc, hrA, take_next' hk', List.map_append]
  rfl
end
def mkB (l : List Int) : ByteArray := mkS (l.map Int.toNat)
theorem u8l_of {l : List Int} (h : Byt l) : u8s l = u8l (l.map Int.toNat) := by
 induction l with
 | nil => rfl
 | cons x l ih =>
  have hx := h x (List.mem_cons_self ..)
  have h2 := ih (fun y hy => h y (List.mem_cons_of_mem _ hy))
  unfold u8l at h2 ⊢
  unfold u8s at h2 ⊢
  rw [List.map_cons, List.map_cons, List.map_cons, h2, show ((x.toNat : Nat) : Int) = x by omega]
theorem mkB_inj {l m : List Int} (hl : Byt l) (hm : Byt m) (h : mkB l = mkB m) : l = m := by
 have h1 := congrArg kb h
 simp only [mkB, mkS, List.map_map] at h1
 have gen : ∀ {l m : List Int}, Byt l → Byt m → l.map (UInt8.ofNat ∘ Int.toNat) = m.map (UInt8.ofNat ∘ Int.toNat) → l = m := by
  intro l
  induction l with
  | nil => intro m _ _ h; cases m with | nil => rfl | cons y m => simp at h
  | cons x l ih =>
   intro m hl hm h
   cases m with
   | nil => simp at h
   | cons y m =>
    rw [List.map_cons, List.map_cons] at h
    injection h with h1 h2
    have hx := hl x (List.mem_cons_self ..)
    have hy := hm y (List.mem_cons_self ..)
    have h3 := congrArg UInt8.toNat h1
    simp only [Function.comp, UInt8.toNat_ofNat'] at h3
    rw [ih (fun z hz => hl z (List.mem_cons_of_mem _ hz)) (fun z hz => hm z (List.mem_cons_of_mem _ hz)) h2]
    congr 1
    omega
 exact gen hl hm h1
theorem mkB_rdo {F : PH} {s : Sl} {l : List Int} (h : RdS F s 1 (u8s l)) (hb : Byt l) : rdo prog (Conv.bytesToString s.v) F (.string (mkB l)) := by
 rw [u8l_of hb] at h
 exact bts_rdo h
def BytR (L : List Rc) : Prop := ∀ r ∈ L, Byt r.2
section
variable {F : PH} {a b : Sl} {A B L : List Rc}
theorem Same_spec (ha : Ct F a A) (hb : Ct F b B) (hA : BytR A) (hB : BytR B) (hn : A.length ≤ 1000000) : Spec prog 21 #[a.v, b.v] F fun v F' => ∃ r : Bool, v = .bool r ∧ (r = true ↔ A = B) ∧ F' = F := by
 have hal := ha.len
 have hbl := hb.len
 refine c21 ?_
 unfold b21
 refine ⟨fun hne => ⟨false, rfl, ⟨fun h => (by cases h), fun h => absurd (by rw [hal, hbl, h]) hne⟩, rfl⟩, fun heq => ?_⟩
 have hlen : A.length = B.length := by omega
 refine ⟨fun m i F' => ∃ k : Nat, i = k ∧ k ≤ A.length ∧ m = A.length - k ∧ F' = F ∧ A.take k = B.take k, A.length, ⟨0, rfl, by omega, rfl, rfl, by simp⟩, ?_⟩
 rintro _ _ F1 ⟨k, rfl, hk, rfl, ee, hp⟩
 obtain rfl := ee.symm
 unfold b21L1
 refine ⟨fun hlt => ?_, fun hge => ?_⟩
 ·have hk' : k < A.length := by omega
  have hkB : k < B.length := by omega
  obtain ⟨x, sv, h1, h2, h3, _, h5, _⟩ := ha.at hk'
  obtain ⟨y, tv, g1, g2, g3, _, g5, _⟩ := hb.at hkB
  have bad : A[k] ≠ B[k] → ∃ r : Bool, (Value.bool false) = .bool r ∧ (r = true ↔ A = B) ∧ F = F := fun hn => ⟨false, rfl, ⟨fun h => (by cases h), fun h => absurd (by subst h; rfl) hn⟩, rfl⟩
  refine ⟨x, h1, by omega, by omega, _, h2, y, g1, by omega, by omega, _, g2, ?_⟩
  rw [beq_kb]
  refine ⟨fun hne => bad (fun e => by simp [e] at hne), fun he => ?_⟩
  have hk1 : A[k].1 = B[k].1 := by simpa using he
  have hbA := hA _ (List.getElem_mem hk')
  have hbB := hB _ (List.getElem_mem hkB)
  refine ⟨x, h1, by omega, by omega, sv, h3, _, mkB_rdo h5 hbA, y, g1, by omega, by omega, tv, g3, _, mkB_rdo g5 hbB, ?_⟩
  rw [beq_kb]
  refine ⟨fun hne => bad (fun e => by simp [e] at hne), fun he2 => ?_⟩
  have hk2 : A[k].2 = B[k].2 := mkB_inj hbA hbB (by simpa using he2)
  refine ⟨A.length - (k + 1), by omega, k + 1, w64s (by omega), by omega, rfl, rfl, ?_⟩
  rw [take_next' hk', take_next' hkB, hp, Prod.ext hk1 hk2]
 ·obtain rfl : k = A.length := by omega
  unfold b21j1
  refine ⟨true, rfl, ⟨fun _ => ?_, fun _ => rfl⟩, rfl⟩
  rw [List.take_length, hlen, List.take_length] at hp
  exact hp
theorem rtc_take (T : List Rt) (k : Nat) : (rtc T).take (k * 2) = rtc (T.take k) := by
 induction T generalizing k with
 | nil => simp [rtc]
 | cons x T ih =>
  cases k with
  | zero => simp [rtc]
  | succ k =>
   have e : (k + 1) * 2 = 2 + k * 2 := by omega
   have h1 : rtc (x :: T) = [.string x.1, x.2.1.v] ++ rtc T := by simp [rtc]
   have h2 : rtc ((x :: T).take (k + 1)) = [.string x.1, x.2.1.v] ++ rtc (T.take k) := by simp [rtc]
   rw [h1, h2, e, List.take_append, List.take_of_length_le (by simp), show 2 + k * 2 - [Value.string x.1, x.2.1.v].length = k * 2 by simp, ih k]
theorem Ct.cut {k : Nat} (h : Ct F a A) (hk : k ≤ A.length) : Ct F (Sl.cut a 2 0 k a.cap) (A.take k) := by
 obtain ⟨T, rfl, hT⟩ := h
 rw [rcs_len] at hk
 have hl := hT.len
 have hc := hT.rd.cap
 refine ⟨T.take k, by simp [rcs, List.map_take], ?_, fun y hy => hT.vals y (List.mem_of_mem_take hy)⟩
 have := hT.rd.cut (l := 0) (r := k) (m := a.cap) (by omega) (by omega) (by omega)
 rw [Nat.zero_mul, List.drop_zero, Nat.sub_zero, rtc_take] at this
 exact this
def keep1 (x : Int) : Int := if 64 < x % 96 then 64 * ((x % 96) % 2) else x % 96
theorem kept_spec {zs : List Int} (h : RdS F a 1 (u8s zs)) (hz : ∀ z ∈ zs, 0 ≤ z ∧ z ≤ 255) (hl : zs.length * 8 ≤ 140737488355328) : Spec prog 33 #[a.v] F fun v F' => ∃ sl, v = Sl.v sl ∧ RdS F' sl 1 (i64s (zs.map keep1)) ∧ F.le F' := by
 have hlen := h.ulen
 refine c33 ?_
 unfold b33
 intro b6 h6
 refine atI ?_
 refine ⟨fun m out i F' => ∃ (k : Nat) (G : PH), i = k ∧ k ≤ zs.length ∧ m = zs.length - k ∧ F.le G ∧ Ov 3 1 G F' out (i64s ((zs.take k).map keep1)), zs.length,
  ⟨0, F, rfl, by omega, rfl, le_refl' _, ⟨le_set_fresh _ h6, .inr ⟨b6, #[], rfl, set_eq _ _ _, rfl, Nat.le_refl _, rfl, rfl⟩, fun a ha => by cases ha; exact h6⟩⟩, ?_⟩
 rintro _ out _ F2 ⟨k, G, rfl, hk, rfl, lG, hO⟩
 unfold b33L1
 have lF := le_trans' lG hO.le
 refine ⟨fun hlt => ?_, fun hge => ?_⟩
 ·have hk' : k < zs.length := by omega
  obtain ⟨x, hx, hc⟩ := (h.le lF).byte hk'
  have hr := hz _ (List.getElem_mem hk')
  have em : IntKind.i64.wrap (Int.tmod zs[k] 96) = zs[k] % 96 := by rw [Int.tmod_eq_emod_of_nonneg hr.1, w64_eq (by omega) (by omega)]
  have j2 : ∀ q : Int, q = keep1 zs[k] → b33j2 (fun y1_0 y1_1 F_1 => ∃ m', m' < zs.length - k ∧ ∃ (k : Nat) (G : PH), y1_1 = k ∧ k ≤ zs.length ∧ m' = zs.length - k ∧ F.le G ∧ Ov 3 1 G F_1 y1_0 (i64s ((zs.take k).map keep1))) a out (k : Int) q (fun v F' => ∃ sl, v = Sl.v sl ∧ RdS F' sl 1 (i64s (zs.map keep1)) ∧ F.le F') F2 := by
   intro q hq
   unfold b33j2
   intro b26 h26
   refine atI ?_
   have hO1 := hO.newg h26 (.cells #[.int .i64 q] 3)
   have lG1 := hO.gle h26 (.cells #[.int .i64 q] 3)
   have q26 := set_eq F2 b26 (.cells #[.int .i64 q] 3)
   have hol := hO1.len
   rw [List.length_map, List.length_map, List.length_take] at hol
   refine hO1.app (x := ⟨some ⟨b26, 0, none⟩, 1, 1⟩) (news := i64s [q]) underlying68 sz3 zr3 rfl (by decide) (RdS.new q26 rfl rfl (Nat.le_refl _)) st_i64s (by simp only; omega) (by simp only; omega) ?_
   intro s5 F5 hO5
   refine ⟨zs.length - (k + 1), by omega, k + 1, _, w64s (by omega), by omega, rfl, le_trans' lG lG1, ?_⟩
   rw [take_next' hk', List.map_append, i64s, List.map_append, ← i64s, hq] at *
   exact hO5
  refine ⟨x, hx, by omega, by omega, zs[k], hc, ?_⟩
  rw [em]
  refine ⟨fun h64 => j2 _ ?_, fun h64 => j2 _ ?_⟩
  ·unfold keep1
   rw [if_pos h64, Int.tmod_eq_emod_of_nonneg (by omega), w64_eq (by omega) (by omega)]
  ·unfold keep1
   rw [if_neg h64]
 ·obtain rfl : k = zs.length := by omega
  unfold b33j1
  rw [List.take_length] at hO
  exact ⟨out, rfl, hO.own.rd, lF⟩
theorem record_spec {key : ByteArray} {n : Nat} (hn : n ≤ 1000) : Spec prog 40 #[.string key, .int .i64 (n : Int)] F fun v F' => ∃ sl, v = Sl.v sl ∧ Ct F' sl [(key, List.replicate n 0)] ∧ F.le F' := by
 refine c40 ?_
 unfold b40
 refine runs_makeSlice underlying39 sz5 zr5 rfl (by omega) (by omega) (by omega) (by omega) ?_
 intro g hg
 rw [zc1 _ rfl, Int.toNat_natCast]
 refine ⟨_, rfl, rfl, ?_⟩
 intro b hb
 refine atI ?_
 have l1 := le_set_fresh (.cells (List.replicate n (Value.int .u8 0)).toArray 5) hg
 have q1 := set_eq F g (.cells (List.replicate n (Value.int .u8 0)).toArray 5)
 generalize F.set g (.cells (List.replicate n (Value.int .u8 0)).toArray 5) = F1 at *
 have l2 := le_set_fresh (.cells #[.string key, Sl.v ⟨some ⟨g, 0, none⟩, n, n⟩] 41) hb
 refine ⟨_, rfl, ⟨[(key, ⟨some ⟨g, 0, none⟩, n, n⟩, List.replicate n 0)], rfl, RdS.new (set_eq _ _ _) rfl rfl (Nat.le_refl _), fun y hy => ?_⟩, le_trans' l1 l2⟩
 rw [List.mem_singleton.1 hy]
 exact RdS.new (l2 _ _ q1) (by simp [u8s]) (by simp) (Nat.le_refl _)
end
section
variable {F V : PH} {st cm d : Nat} {x : SS}
theorem mns_anti {F : PH} {fp fq : Nat → Prop} (h : ∀ b, fp b → fq b) : (mns F fq).le (mns F fp) := fun b o hb => by
 unfold mns at hb ⊢
 split at hb
 ·cases hb
 ·rename_i hn
  rw [if_neg (fun e => hn (h b e))]
  exact hb
theorem old_mono {F G : PH} (h : F.le G) : ∀ b, old F b → old G b := fun b hb => by
 cases hf : F b with
 | none => exact absurd hf hb
 | some o => unfold old; rw [h _ _ hf]; simp
theorem contents_spec (h : StO F V st cm d x) (hV : V.le F) (hs : Small x.L) : Spec prog 17 #[.pointer (some ⟨st, 0, none⟩)] F fun v F' => ∃ sl, v = Sl.v sl ∧ Ct (mns F' (old F)) sl x.L ∧ F.le F' := by
 have hpl := hs.len
 have hLl := plen_le x.L
 refine c17 ?_
 unfold b17
 intro b8 h8
 refine atI ?_
 have l1 := le_set_fresh (.cells #[] 41) h8
 have q8 := set_eq F b8 (.cells #[] 41)
 have hO0 : Ov 41 2 F (F.set b8 (.cells #[] 41)) ⟨some ⟨b8, 0, none⟩, 0, 0⟩ (rtc []) := ⟨l1, .inr ⟨b8, #[], rfl, q8, rfl, Nat.le_refl _, rfl, rfl⟩, fun a ha => by cases ha; exact h8⟩
 generalize F.set b8 (.cells #[] 41) = F1 at *
 refine (hO0.side (keys_spec (h.le hO0.low hV) hs)).mono ?_
 rintro v F2 ⟨G2, ⟨ks, rfl, hK⟩, hO2⟩
 have lG2 := le_trans' hO0.low hK.le
 have hkr := hK.own.rd
 have hkl := hkr.len
 rw [List.length_map, Nat.mul_one] at hkl
 refine ⟨_, rfl, ?_⟩
 refine ⟨fun q out i F' => ∃ (k : Nat) (G : PH) (A : List Rt), i = k ∧ k ≤ x.L.length ∧ q = x.L.length - k ∧ G2.le G ∧ Ov 41 2 G F' out (rtc A) ∧ rcs A = x.L.take k ∧ ∀ y ∈ A, RdS (mns G (old F)) y.2.1 1 (u8s y.2.2), x.L.length,
  ⟨0, G2, [], rfl, by omega, rfl, le_refl' _, hO2, rfl, by simp⟩, ?_⟩
 rintro _ out _ F3 ⟨k, G, A, rfl, hk, rfl, lG, hO, hA, hAv⟩
 unfold b17L1
 have hAl : A.length = k := by have := congrArg List.length hA; simp [rcs] at this; omega
 refine ⟨fun hlt => ?_, fun hge => ?_⟩
 ·have hk' : k < x.L.length := by omega
  have hkr3 := hkr.le (le_trans' lG hO.le)
  obtain ⟨b, o', hbase⟩ := hkr3.base (by omega)
  have hcell := hkr3.cell hbase (i := k) (by rw [List.length_map]; exact hk')
  rw [List.getElem_map] at hcell
  have hmem : x.L[k] ∈ x.L := List.getElem_mem _
  have hlk : lkR x.L[k].1 x.L = some x.L[k].2 := lkR_at h.srt hmem
  refine ⟨_, hbase, by omega, by omega, x.L[k].1, by rw [Int.toNat_natCast, Nat.mul_one]; exact hcell, ?_⟩
  have lFm := le_trans' lG2 (le_trans' lG hO.low)
  refine (hO.side (get_spec (h.le lFm hV) lFm hs x.L[k].1)).mono ?_
  rintro v F4 ⟨G4, ⟨l4, sv, rfl, hsv⟩, hO4⟩
  rw [hlk] at hsv
  rw [hlk]
  have hsv := hsv.le (mns_anti (F := G4) (old_mono lFm))
  have lG4 := le_trans' hO.low l4
  refine ⟨sv, true, rfl, fun h0 => absurd h0 (by decide), fun _ => ?_⟩
  unfold b17j2
  have hkr4 := hkr.le (le_trans' lG (le_trans' lG4 hO4.le))
  have hcell4 := hkr4.cell hbase (i := k) (by rw [List.length_map]; exact hk')
  rw [List.getElem_map] at hcell4
  refine ⟨_, hbase, by omega, by omega, x.L[k].1, by rw [Int.toNat_natCast, Nat.mul_one]; exact hcell4, rfl, ?_⟩
  intro b35 h35
  refine atI ?_
  have hO5 := hO4.newg h35 (.cells #[.string x.L[k].1, sv.v] 41)
  have lG5 := hO4.gle h35 (.cells #[.string x.L[k].1, sv.v] 41)
  have q35 := set_eq F4 b35 (.cells #[.string x.L[k].1, sv.v] 41)
  have hol := hO5.len
  rw [rtc_length] at hol
  refine hO5.app (x := ⟨some ⟨b35, 0, none⟩, 1, 1⟩) (news := [.string x.L[k].1, sv.v]) underlying26 sz41 zr41 rfl (by decide) (RdS.new q35 rfl rfl (Nat.le_refl _)) st_pair (by simp only; omega) (by simp only; omega) ?_
  intro s6 F6 hO6
  refine ⟨x.L.length - (k + 1), by omega, k + 1, _, A ++ [(x.L[k].1, sv, x.L[k].2)], w64s (by omega), by omega, rfl, le_trans' lG (le_trans' lG4 lG5), by rw [rtc_snoc]; exact hO6, by rw [rcs_snoc, hA, take_next' hk'], fun y hy => ?_⟩
  rcases List.mem_append.1 hy with hy | hy
  ·exact ((hAv y hy).le (mns_mono lG4)).le (mns_mono lG5)
  ·rw [List.mem_singleton.1 hy]
   exact hsv.le (mns_mono lG5)
 ·obtain rfl : k = x.L.length := by omega
  unfold b17j1
  rw [List.take_length] at hA
  have hown : OwnS (mns F3 (old F)) 41 2 out (rtc A) := hO.own.keep fun a ha => mns_of fun hb => hb (le_none (le_trans' lG2 lG) (hO.oz a ha))
  exact ⟨out, rfl, ⟨A, hA, hown.rd, fun y hy => (hAv y hy).le (mns_mono hO.le)⟩, le_trans' lG2 (le_trans' lG hO.le)⟩
theorem same_spec {n u : Nat} {sl : Sl} {M : List Rc} (h : StO F V st cm d x) (hV : V.le F) (hs : Small x.L) (h1 : 1 ≤ x.size) (h2 : x.size ≤ 1000) (h3 : x.used ≤ 1000) (hn : n ≤ 1000) (hn4 : 4 ≤ n) (hu : u ≤ 1000000) (hM : Ct F sl M) (hL : BytR x.L) (hMb : BytR M) :
  Spec prog 13 #[.pointer (some ⟨st, 0, none⟩), .agg (refC n u sl)] F fun v F' => ∃ r : Bool, v = .bool r ∧ (r = true ↔ (x.L = M ∧ roomI x.size x.used = roomI (n / 2) u)) ∧ F.le F' := by
 have hpl := hs.len
 have hLl := plen_le x.L
 refine c13 ?_
 unfold b13
 intro b3 hb3
 refine atI ?_
 have l1 := le_set_fresh (.cells (refC n u sl) 28) hb3
 have q1 := set_eq F b3 (.cells (refC n u sl) 28)
 generalize F.set b3 (.cells (refC n u sl) 28) = F1 at *
 refine ⟨sl, by rw [cell_eq q1]; rfl, ?_⟩
 refine (contents_spec (h.le l1 (le_refl' V)) (le_trans' hV l1) hs).mono ?_
 rintro v F2 ⟨s2, rfl, hc2, l2⟩
 have l02 := le_trans' l1 l2
 refine ⟨s2, rfl, by rw [cell_eq (l2 _ _ q1)]; rfl, ?_⟩
 have hc2 := hc2.le (mns_le _ _)
 refine (Same_spec hc2 (hM.le l02) hL hMb (by omega)).mono ?_
 rintro v F3 ⟨r, rfl, hr, ee⟩
 obtain rfl := ee.symm
 refine ⟨r, rfl, fun ht => ?_, fun hf => ⟨false, rfl, ⟨fun h => (by cases h), fun h => ?_⟩, l02⟩⟩
 ·refine ⟨_, rfl, row_whole (l2 _ _ q1), ?_⟩
  refine (room_spec (h.le l02 (le_refl' V)) h1 h2 h3).mono ?_
  rintro v F4 ⟨rfl, ee⟩
  obtain rfl := ee.symm
  refine ⟨_, rfl, row_whole (l2 _ _ q1), ?_⟩
  refine (RoomR_spec (by omega) hn4 hu).mono ?_
  rintro v F5 ⟨rfl, l5⟩
  refine ⟨_, rfl, _, rfl, ?_, le_trans' l02 l5⟩
  rw [decide_eq_true_eq]
  exact ⟨fun e => ⟨hr.1 ht, e⟩, fun e => e.2⟩
 ·rw [hr.2 h.1] at hf
  cases hf
end
end Go.Proofs.Ytelkfnmdnbbniaa
