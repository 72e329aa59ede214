/-
  The disk: the law DiskMemory.
-/
import Derived.Test.YthnolhcknhhipaaDl
namespace Go.Proofs.Ythnolhcknhhipaa
open Go Go.Proofs.Try

section
variable {F0 F G : PH} {n N : Nat} {I : Nat → Nat} {X FP : Nat → Nat → Prop} {S : Nat → DS}
theorem Isl.rowStep (M : Isl F0 F n N I X FP S) {x : Sl} {size : Nat} {vs : List Value} (h : RdS (mns G (old F)) x size vs) : RdS (mns G (allF N FP)) x size vs := h.le (new_le M.fdom)
end
theorem storeA {F : PH} {A : Addr} {b o : Nat} {v : Value} {c : Array Value} {e : TypeId} {K : PH → Prop} (hA : A = ⟨b, o, none⟩) (h : F b = some (.cells c e (0, 0))) (hl : o < c.size) (k : ∀ obj, K (F.set b obj)) :
    ∃ c e, F A.block = some (.cells c e (0, 0)) ∧ A.spot = none ∧ A.off < c.size ∧ atF (F.set A.block (.cells (c.setIfInBounds A.off v) e)) K :=
  st1' hA h hl (k _)
theorem DS.fused_flush {t : DS} (h : Live t) {f : Int} {K : List Int} (hf : 2 ≤ f) : ({ t with fuse := f, kept := K } : DS).flush = ({ t.flush.1 with fuse := f - 1, kept := K }, 0) := by
  rw [h.flush]
  obtain ⟨dur, ws, down, fuse, kept⟩ := t
  obtain ⟨h1, h2⟩ := h
  cases h1; cases h2
  have hr : ({ dur := dur, ws := ws, down := false, fuse := f, kept := K } : DS).ready = ({ dur := dur, ws := ws, down := false, fuse := f - 1, kept := K }, 0) := by
    unfold DS.ready
    have h1 : ¬ f = 1 := by omega
    simp only [Bool.false_eq_true, if_false, h1, show max (f - 1) 0 = f - 1 by omega]
  unfold DS.flush
  rw [hr]
  simp
theorem DS.fused_read {t : DS} {n : Nat} {a f : Int} {K : List Int} : ({ t with fuse := f, kept := K } : DS).read n a = t.read n a := rfl

theorem memory_spec {F : PH} {l : Sl} {fill at_ : Int} {ops : List OpD} (h : OpsRd F l ops) (ha0 : 0 ≤ at_) (ha1 : at_ ≤ 255) : Spec prog 9 #[l.v, .int .u8 fill, .int .u8 at_] F fun v F' => v = .bool true ∧ F.le F' := by
  refine c9 ?_
  unfold b9
  refine (sanity_spec F).mono ?_
  rintro v F1 ⟨rfl, hle1⟩
  refine ⟨_, rfl, fun h => (by cases h), fun _ => ?_⟩
  refine (prepared_spec (h.le hle1)).mono ?_
  rintro v F2 ⟨d, fp, rfl, hle2, hrep, hnew, hws⟩
  have hlive := prep_live ops
  have hkept := prep_kept ops
  generalize prep ops = s at *
  have M : Isl F F2 4 1 (fun _ => d) (fun _ => fp) (fun _ => fp) (fun _ => s) := Isl.one (le_trans' hle1 hle2) hrep hkept (fun b hb => le_none hle1 (hnew b hb))
  clear hle1 hle2 hrep hnew
  refine ⟨_, rfl, ?_⟩
  refine (filled_spec fill F2).mono ?_
  rintro v F3 ⟨g, hg, rfl, rfl⟩
  have hle := le_set_fresh (.cells (u8s (List.replicate 64 fill)).toArray 5) hg
  have hF0g : F g = none := le_none M.le hg
  have hgM : ∀ b, b = g → ¬ allF 1 (fun _ => fp) b := fun b e ⟨i, hi, hb⟩ => (M.all hi).dom b hb (by rw [e]; exact hg)
  have hgc : (F2.set g (.cells (u8s (List.replicate 64 fill)).toArray 5)) g = some (.cells (u8s (List.replicate 64 fill)).toArray 5 (0, 0)) := set_eq _ _ _
  have hrow : RdS (mns (F2.set g (.cells (u8s (List.replicate 64 fill)).toArray 5)) (allF 1 (fun _ => fp))) ⟨some ⟨g, 0, none⟩, 64, 64⟩ 1 (u8s (List.replicate 64 fill)) :=
    rd_new (tl := []) (e := 5) (by rw [set_eq]; simp) (hgM g rfl) (by simp) (Nat.le_refl _)
  replace M := (M.ext hle).1
  refine ⟨_, rfl, ?_⟩
  generalize F2.set g (.cells (u8s (List.replicate 64 fill)).toArray 5) = F3 at *
  intro b34 hb34
  refine atI ?_
  have hF0b : F b34 = none := le_none M.le hb34
  have hne : b34 ≠ g := fun e => by rw [e, hgc] at hb34; cases hb34
  have hle2 := le_set_fresh (.cells #[Value.int .i64 7] 3) hb34
  replace hgc := hle2 _ _ hgc
  replace hrow := hrow.le (M.ext hle2).2.le
  have hbM : ¬ allF 1 (fun _ => fp) b34 := fun ⟨i, hi, hb⟩ => (M.all hi).dom b34 hb hb34
  replace M := (M.ext hle2).1
  have hbc : (F3.set b34 (.cells #[Value.int .i64 7] 3)) b34 = some (.cells #[Value.int .i64 7] 3 (0, 0)) := set_eq _ _ _
  have hkr : RdS (mns (F3.set b34 (.cells #[Value.int .i64 7] 3)) (allF 1 (fun _ => fp))) ⟨some ⟨b34, 0, none⟩, 1, 1⟩ 1 (i64s [7]) :=
    rd_new (l := i64s [7]) (tl := []) (e := 3) (by rw [set_eq]; rfl) hbM rfl (Nat.le_refl _)
  generalize F3.set b34 (.cells #[Value.int .i64 7] 3) = F4 at *
  rw [tmodU ha0 (by omega)]
  obtain ⟨a, ha⟩ : ∃ a, a = at_.toNat % 4 := ⟨_, rfl⟩
  have ha4 : a < 4 := by omega
  rw [← ha]
  have hl64 : (List.replicate 64 fill).length = 64 := by simp
  refine (M.write (i := 0) (by omega) hrow (show s.ws.length < 1000 by omega) (by simp)).mono ?_
  rintro v F5 ⟨rfl, fq, X', hM, hst⟩
  have hok := (M.all (i := 0) (by omega)).ok
  have nq : ∀ b, F4 b ≠ none → ¬ allF 1 (fun _ => fp) b → ¬ allF 1 (fput (fun _ => fp) 0 fq) b := fun b hb hn hq => by
    rcases hst.new b hq with h1 | h1
    · exact hn h1
    · exact hb h1
  have hgM2 := nq g (by rw [hgc]; simp) (hgM g rfl)
  have hbM2 := nq b34 (by rw [hbc]; simp) hbM
  replace hgc := hst.keep _ _ hgc (hgM g rfl)
  replace hbc := hst.keep _ _ hbc hbM
  replace hkr := hkr.le hst.le
  clear M hst nq hgM hbM hrow hle hle2
  have hw := hlive.write (n := 4) (a := (a : Int)) (l := List.replicate 64 fill) (by omega) (by omega) hl64
  have htr : ∀ x : Nat, x < 4 → ((s.write 4 (a : Int) (List.replicate 64 fill)).1.read 4 x).1 = if (a : Int) = x then List.replicate 64 fill else (s.read 4 x).1 := fun x hx => hlive.write_read hx (by omega) (by omega) hl64
  have htl : Live (s.write 4 (a : Int) (List.replicate 64 fill)).1 := hlive.write_live
  have htk : (s.write 4 (a : Int) (List.replicate 64 fill)).1.kept = [] := by rw [hlive.write_kept]; exact hkept
  have hz : (s.write 4 (a : Int) (List.replicate 64 fill)).2 = 0 := by rw [hw]
  generalize (s.write 4 (a : Int) (List.replicate 64 fill)).1 = t at *
  rw [hz]
  clear hw
  refine ⟨_, rfl, ?_⟩
  replace hM := hM.shrink (i := 0) (by omega) htk
  refine (hM.fuse (i := 0) (by omega) (by decide) hkr (by simp)).mono ?_
  rintro v F6 ⟨rfl, fq2, X2, hM2, hst, hX2⟩
  have hX2g : ¬ X2 g := fun hx => by
    rcases hX2 g hx with h1 | h1
    · exact hgM2 ⟨0, by omega, h1⟩
    · rw [hgc] at h1; cases h1
  have hX2b : ¬ X2 b34 := fun hx => by
    rcases hX2 b34 hx with h1 | h1
    · exact hbM2 ⟨0, by omega, h1⟩
    · rw [hbc] at h1; cases h1
  replace hgc := hst.keep _ _ hgc hgM2
  replace hbc := hst.keep _ _ hbc hbM2
  have hokt : t.ok 4 := (hM.all (i := 0) (by omega)).ok
  clear hM hst hgM2 hbM2 hX2 hkr
  obtain ⟨y, hy⟩ : ∃ y : DS, y = { t with fuse := 2, kept := [7] } := ⟨_, rfl⟩
  replace hM2 : Isl F F6 4 1 (fun _ => d) (fun _ => X2) (fun _ => fq2) (fun _ => y) := by
    refine ⟨hM2.le, fun i hi => ?_, fun i hi => hM2.dom 0 (by omega), fun i hi => hM2.new 0 (by omega), fun i j b hi hj hij => absurd (by omega) hij⟩
    have := hM2.rep 0 (by omega)
    rw [hy]
    exact this
  have hyk : y.kept.length * 8 ≤ 140737488355328 := by rw [hy]; simp
  have hyr : ∀ x : Int, y.read 4 x = t.read 4 x := fun x => by rw [hy]; rfl
  have hyf : y.flush = ({ t.flush.1 with fuse := 1, kept := [7] }, 0) := by rw [hy]; exact DS.fused_flush htl (by decide)
  refine ⟨rfl, ?_⟩
  refine ⟨_, rfl, by simp, by simp, fill, by simp [cell_eq hgc], ⟨g, 0, none⟩, rfl, by simp, by simp, ?_⟩
  refine storeA (b := g) (o := 0) (by simp) hgc (by simp) ?_
  intro obj
  replace hbc : (F6.set g obj) b34 = _ := (set_ne _ _ hne).trans hbc
  replace hM2 := hM2.poke (o := obj) hF0g (fun _ _ => hX2g)
  refine ⟨_, rfl, by simp, by simp, ?_⟩
  refine storeA (b := b34) (o := 0) (by simp) hbc (by simp) ?_
  intro obj2
  have M := hM2.poke (o := obj2) hF0b (fun _ _ => hX2b)
  generalize (F6.set g obj).set b34 obj2 = F7 at *
  clear hM2 hbc hgc hX2g hX2b hF0g hF0b hne
  have hRow : (t.read 4 (a : Int)).1 = List.replicate 64 fill := by rw [htr a ha4, if_pos rfl]
  have hCode : (t.read 4 (a : Int)).2 = 0 := by rw [htl.read ha4]
  have hPair : t.read 4 (a : Int) = (List.replicate 64 fill, 0) := by rw [← hRow, ← hCode]
  -- a read, and a store into what it gave
  refine (read_spec (M.all (i := 0) (by omega))).mono ?_
  rintro v F8 ⟨hle, hc⟩
  rw [hyr, hPair] at hc
  rcases hc with ⟨e, hv, hr, _⟩ | ⟨g2, l2, hg2, rfl, hgl, hr, hl⟩
  · cases hr
  cases hr
  have hX : ¬ X2 g2 := fun hx => M.dom 0 (by omega) g2 hx hg2
  have h0 : F g2 = none := le_none M.le hg2
  replace M := (M.ext hle).1
  refine ⟨_, _, rfl, fun h => absurd rfl h, fun _ => ⟨fun h => absurd rfl h, fun _ => ?_⟩⟩
  have hr2 : RdS F8 ⟨some ⟨g2, 0, none⟩, 64, 64⟩ 1 (u8s (List.replicate 64 fill)) := RdS.new hgl (by simp) (by simp) (Nat.le_refl _)
  refine (filled_new F8).mono ?_
  rintro v F9 ⟨sl, rfl, _, _, hf, hle9⟩
  replace M := (M.ext hle9).1
  replace hgl := hle9 _ _ hgl
  refine ⟨sl, rfl, ?_⟩
  refine (same_spec (hr2.le hle9) (hf.le (mns_le _ _)) (by simp)).mono ?_
  rintro v F10 ⟨rfl, rfl⟩
  rw [decide_eq_true rfl]
  refine ⟨_, rfl, fun h => (by cases h), fun _ => ?_⟩
  refine ⟨_, rfl, by simp, by simp, fill, by rw [add_mk, cell_eq hgl]; simp, ⟨g2, 0, none⟩, rfl, by simp, by simp, ?_⟩
  refine storeA (b := g2) (o := 5) (by rw [add_mk]; rfl) hgl (by simp) ?_
  intro obj3
  replace M := M.poke (o := obj3) h0 (fun _ _ => hX)
  generalize F10.set g2 obj3 = F11 at *
  clear hf hr2 hgl hX h0 hle hle9
  refine (read_new (M.all (i := 0) (by omega))).mono ?_
  rintro v F12 ⟨s76, rfl, h76, hle⟩
  rw [hyr, hRow] at h76
  rw [hyr, hCode]
  replace h76 := M.rowStep h76
  replace M := (M.ext hle).1
  refine ⟨s76, _, rfl, ?_⟩
  refine (M.copy (i := 0) (by omega) hyk).mono ?_
  rintro v F13 ⟨c, fc, Xc, rfl, _, M2, hst⟩
  replace h76 := h76.le hst.le
  clear M hst hle
  refine ⟨_, rfl, fun h => (by cases h), fun _ => ?_⟩
  refine (filled_new F13).mono ?_
  rintro v F14 ⟨sl, rfl, _, _, hf, hle⟩
  replace h76 := h76.le (M2.ext hle).2.le
  replace M2 := (M2.ext hle).1
  refine ⟨sl, rfl, ?_⟩
  refine (same_spec (h76.le (mns_le _ _)) (hf.le (mns_le _ _)) (by simp)).mono ?_
  rintro v F15 ⟨rfl, rfl⟩
  rw [decide_eq_true rfl]
  refine ⟨_, rfl, fun h => (by cases h), fun _ => ?_⟩
  clear h76 hf hle
  refine (M2.flush (i := 1) (by omega)).mono ?_
  rintro v F16 ⟨rfl, fc2, Xc2, M3, _⟩
  clear M2
  refine ⟨y.flush.2, rfl, ?_⟩
  refine (M3.flush (i := 0) (by omega)).mono ?_
  rintro v F17 ⟨rfl, fd2, Xd2, M4, _⟩
  clear M3
  refine ⟨y.flush.2, rfl, ?_⟩
  have hR4 : DRep F17 d fd2 4 y.flush.1 := M4.all (i := 0) (by omega)
  have hyr2 : y.flush.1.read 4 (a : Int) = (List.replicate 64 fill, 0) := by
    rw [hyf]
    show t.flush.1.read 4 (a : Int) = _
    have h1 := htl.flush_read hokt ha4
    have h2 := htl.flush_live.read (n := 4) ha4
    rw [hRow] at h1
    rw [h2] at h1 ⊢
    rw [← h1]
  refine (read_spec hR4).mono ?_
  rintro v F18 ⟨hle, hc⟩
  rw [hyr2] at hc
  rcases hc with ⟨e, hv, hr, _⟩ | ⟨g3, l3, hg3, rfl, hgl, hr, hl⟩
  · cases hr
  cases hr
  have hX : ¬ Xd2 g3 := fun hx => M4.dom 0 (by omega) g3 hx hg3
  have hX1 : ∀ i, i < 2 → ¬ (fput (fput (fput (fun _ => X2) 1 Xc) 1 Xc2) 0 Xd2) i g3 := fun i hi hx => M4.dom i hi g3 hx hg3
  have h0 : F g3 = none := le_none M4.le hg3
  have M5 := (M4.ext hle).1
  refine ⟨_, _, rfl, fun h => absurd rfl h, fun _ => ?_⟩
  refine ⟨_, rfl, by simp, by simp, fill, by rw [add_mk, cell_eq hgl]; simp, ⟨g3, 0, none⟩, rfl, by simp, by simp, ?_⟩
  refine storeA (b := g3) (o := 9) (by rw [add_mk]; rfl) hgl (by simp) ?_
  intro obj4
  replace M5 := M5.poke (o := obj4) h0 hX1
  have hR5 : DRep (F18.set g3 obj4) d fd2 4 y.flush.1 := M5.all (i := 0) (by omega)
  generalize F18.set g3 obj4 = F19 at *
  refine (read_new hR5).mono ?_
  rintro v F20 ⟨s111, rfl, h111, hle20⟩
  rw [hyr2] at h111
  rw [hyr2, hyf]
  refine ⟨s111, _, rfl, fun _ => ⟨fun _ => ?_, fun h => absurd rfl h⟩, fun h => absurd rfl h⟩
  refine (filled_new F20).mono ?_
  rintro v F21 ⟨sl, rfl, _, _, hf, hle21⟩
  refine ⟨sl, rfl, ?_⟩
  refine (same_spec ((h111.le (mns_le _ _)).le hle21) (hf.le (mns_le _ _)) (by simp)).mono ?_
  rintro v F22 ⟨rfl, rfl⟩
  exact ⟨_, rfl, by rw [decide_eq_true rfl], le_trans' M5.le (le_trans' hle20 hle21)⟩
end Go.Proofs.Ythnolhcknhhipaa
