/-
  Common and Shortest.
-/
import Derived.Test.YtnjcgpihfmklfaaDoorSe
import Derived.Test.YtnjcgpihfmklfaaDoorQx
namespace Go.Proofs.YtnjcgpihfmklfaaDoor
open Go Go.Proofs.Tryd
set_option maxRecDepth 10000

theorem PW_iff {l1 l2 : List Nd} {t1 t2 : Lt} : ∀ (w : List Nat) (x : Pr), (two l1 l2 t1 t2).PW x w ↔ Pth (accN l1) t1.fol t1.last x.1 w ∧ Pth (accN l2) t2.fol t2.last x.2 w
  | [], x => ⟨fun h => h.elim, fun h => h.1.elim⟩
  | b :: w, x => by
    constructor
    · rintro ⟨⟨a1, a2⟩, ⟨rfl, e1, e2⟩ | ⟨y, ⟨f1, f2⟩, hy⟩⟩
      · exact ⟨⟨a1, .inl ⟨rfl, e1⟩⟩, ⟨a2, .inl ⟨rfl, e2⟩⟩⟩
      · obtain ⟨h1, h2⟩ := (PW_iff w y).1 hy
        exact ⟨⟨a1, .inr ⟨_, f1, h1⟩⟩, ⟨a2, .inr ⟨_, f2, h2⟩⟩⟩
    · rintro ⟨⟨a1, h1⟩, ⟨a2, h2⟩⟩
      refine ⟨⟨a1, a2⟩, ?_⟩
      rcases h1 with ⟨rfl, e1⟩ | ⟨j1, f1, g1⟩
      · rcases h2 with ⟨_, e2⟩ | ⟨j2, f2, g2⟩
        · exact .inl ⟨rfl, e1, e2⟩
        · exact g2.elim
      · rcases h2 with ⟨rfl, e2⟩ | ⟨j2, f2, g2⟩
        · exact g1.elim
        · exact .inr ⟨(j1, j2), ⟨f1, f2⟩, (PW_iff w (j1, j2)).2 ⟨g1, g2⟩⟩
theorem two_C {l1 l2 : List Nd} {t1 t2 : Lt} (h1 : t1.fits (accN l1)) (h2 : t2.fits (accN l2)) (w : List Nat) : (two l1 l2 t1 t2).C w ↔ w ≠ [] ∧ Lg t1.pat w ∧ Lg t2.pat w := by
  constructor
  · rintro ⟨x, ⟨i1, i2⟩, hp⟩
    obtain ⟨p1, p2⟩ := (PW_iff w x).1 hp
    exact ⟨p1.ne, (t1.places h1 w p1.ne).2 ⟨_, i1, p1⟩, (t2.places h2 w p1.ne).2 ⟨_, i2, p2⟩⟩
  · rintro ⟨hn, g1, g2⟩
    obtain ⟨i, i1, p1⟩ := (t1.places h1 w hn).1 g1
    obtain ⟨j, i2, p2⟩ := (t2.places h2 w hn).1 g2
    exact ⟨(i, j), ⟨i1, i2⟩, (PW_iff w (i, j)).2 ⟨p1, p2⟩⟩

/-- The string that is being made, beside a heap that is only read. -/
structure Ow (G F : PH) (s : Sl) (vs : List Value) : Prop where
  le : G.le F
  own : OwnS F 5 1 s vs
  oz : ∀ a, s.base = some a → G a.block = none
theorem sz5' : tsz prog 5 = some (1, 1) := by kernel_rfl
theorem zr5' : tzero prog 5 = some (.int .u8 0) := by kernel_rfl
section
variable {G F : PH} {s : Sl} {vs : List Value}
theorem Ow.fresh (h : Ow G F s vs) {x : Nat} (hx : F x = none) (o : Obj) : Ow G (F.set x o) s vs :=
  ⟨le_trans' h.le (le_set_fresh o hx), h.own.keep fun a ha => by
    obtain ⟨o', ho⟩ := h.own.some ha
    exact set_ne _ _ (ne_of_fresh hx ho), h.oz⟩
theorem Ow.over (h : Ow G F s vs) {x : Nat} (hg : G x = none) (hs : ∀ a, s.base = some a → a.block ≠ x) (o : Obj) : Ow G (F.set x o) s vs :=
  ⟨fun y ob hy => (set_ne _ _ (fun e => by rw [e, hg] at hy; cases hy)).trans (h.le y ob hy), h.own.keep fun a ha => set_ne _ _ (hs a ha), h.oz⟩
theorem Ow.ne (h : Ow G F s vs) {x : Nat} (hx : F x = none) : ∀ a, s.base = some a → a.block ≠ x := fun a ha => by
  obtain ⟨o', ho⟩ := h.own.some ha
  exact ne_of_fresh hx ho
theorem Ow.var (h : Ow G F s vs) (p : Pr) {K : Nat → PH → Prop} (k : ∀ x F', Ow G F' s vs → F' x = some (.cells (parr p) 92) → K x F') : ∀ x, F x = none → atF (F.set x (.cells (#[.int .i64 0, .int .i64 0]) 92)) fun F =>
    (parr p).size = 2 ∧ (∀ v ∈ (parr p).toList, storable v) ∧ ∃ c e, F (Addr.mk x 0 none).block = some (.cells c e (0, 0)) ∧ (Addr.mk x 0 none).spot = none ∧ (Addr.mk x 0 none).off + 2 ≤ c.size ∧
    atF (F.set (Addr.mk x 0 none).block (.cells (wr c (Addr.mk x 0 none).off (parr p).toList) e)) (K x) := by
  intro x hx
  refine atI ?_
  have h1 := h.fresh hx (.cells #[.int .i64 0, .int .i64 0] 92)
  have q1 := set_eq F x (.cells #[.int .i64 0, .int .i64 0] 92)
  have hg := le_none h.le hx
  have hn := h.ne hx
  generalize F.set x (.cells #[.int .i64 0, .int .i64 0] 92) = F1 at *
  exact stW q1 rfl rfl (st_parr p) (k x _ (h1.over hg hn _) (set_eq _ _ _))
theorem Ow.call {f : FuncId} {args : Array Value} {P : Value → PH → Prop} (h : Ow G F s vs) (sp : Spec prog f args G P) : Spec prog f args F fun r F' => ∃ G', P r G' ∧ Ow G' F' s vs :=
  (sp.upon h.le).mono fun r F' ⟨G', hp, hl, hk⟩ => ⟨G', hp, hl, h.own.keep fun a ha => by
    obtain ⟨o, ho⟩ := h.own.some ha
    rw [(hk _ _ (h.oz a ha) ho).1, ho], fun a ha => by
    obtain ⟨o, ho⟩ := h.own.some ha
    exact (hk _ _ (h.oz a ha) ho).2⟩
theorem Ow.push (h : Ow G F s vs) (c : Nat) (hl : s.len ≤ 1000000) {K : Sl → PH → Prop} (k : ∀ s' F', Ow G F' s' (vs ++ [.int .u8 (c : Int)]) → K s' F') :
    ∀ x, F x = none → atF (F.set x (.cells #[(.int .u8 (c : Int))] 5)) fun F =>
      runs prog (Builtin.append_ #[22, 22] 22 #[(Sl.v s), (Sl.v (Sl.mk (some (Addr.mk x 0 none)) 1 1))]) F fun v F => ∃ s' : Sl, v = (Sl.v s') ∧ K s' F := by
  intro x hx
  refine atI ?_
  have h1 := h.fresh hx (.cells #[(.int .u8 (c : Int))] 5)
  have q1 := set_eq F x (.cells #[(.int .u8 (c : Int))] 5)
  generalize F.set x (.cells #[(.int .u8 (c : Int))] 5) = F1 at *
  refine own_app (F0 := G) (x := ⟨some ⟨x, 0, none⟩, 1, 1⟩) (news := [.int .u8 (c : Int)]) underlying22 sz5' zr5' rfl (by decide) h1.le h1.own h1.oz (RdS.new q1 rfl rfl (Nat.le_refl _)) (fun v hv => by rw [List.mem_singleton] at hv; subst hv; exact st_int) (by simp only; omega) (by simp only; omega) ?_
  intro s' F2 le2 ho2 hl2 hnew keep hsome
  exact ⟨s', rfl, k s' F2 ⟨le2, ho2, hnew⟩⟩
theorem Ow.absorb (h : Ow G F s vs) {x : Nat} {o : Obj} (hg : G x = none) (hx : F x = some o) (hs : ∀ a, s.base = some a → a.block ≠ x) : Ow (G.set x o) F s vs ∧ G.le (G.set x o) := by
  refine ⟨⟨fun y ob hy => ?_, h.own, fun a ha => (set_ne _ _ (hs a ha)).trans (h.oz a ha)⟩, le_set_fresh o hg⟩
  by_cases e : y = x
  · subst e
    rw [set_eq] at hy
    cases hy
    exact hx
  · rw [set_ne _ _ e] at hy
    exact h.le y ob hy
theorem u8l_append (a b : List Nat) : u8l (a ++ b) = u8l a ++ u8l b := by simp [u8l]
theorem u8l_length (a : List Nat) : (u8l a).length = a.length := by simp [u8l]
end
/-- What Common works on. -/
structure Cc (G : PH) (l1 l2 : List Nd) (t1 t2 : Lt) (p q : Sl) (m1 m2 bm b10 : Nat) (mm : Pr → Option Nat) : Prop where
  tab : Tab G
  M1 : Mch G m1 l1 t1
  M2 : Mch G m2 l2 t2
  w1 : Mw l1 t1
  w2 : Mw l2 t2
  hp : RdS G p 5 (nflat l1)
  hq : RdS G q 5 (nflat l2)
  map : ∃ o, G bm = some o ∧ MapO encP (mvI mm) o
  var : G b10 = some (.cells #[.map (some bm)] 87)
  dm : DM (two l1 l2 t1 t2) mm
  bd : ∀ z e, mm z = some e → e ≤ 262144
theorem Cc.le {G F : PH} {l1 l2 : List Nd} {t1 t2 : Lt} {p q : Sl} {m1 m2 bm b10 : Nat} {mm : Pr → Option Nat} (h : Cc G l1 l2 t1 t2 p q m1 m2 bm b10 mm) (hl : G.le F) : Cc F l1 l2 t1 t2 p q m1 m2 bm b10 mm := by
  obtain ⟨o, h1, h2⟩ := h.map
  exact ⟨h.tab.le hl, h.M1.le hl, h.M2.le hl, h.w1, h.w2, h.hp.le hl, h.hq.le hl, ⟨o, hl _ _ h1, h2⟩, hl _ _ h.var, h.dm, h.bd⟩
theorem Cc.look {G F : PH} {l1 l2 : List Nd} {t1 t2 : Lt} {p q : Sl} {m1 m2 bm b10 : Nat} {mm : Pr → Option Nat} (h : Cc G l1 l2 t1 t2 p q m1 m2 bm b10 mm) (hl : G.le F) (x : Pr) :
    F.cell (Addr.mk b10 0 none) = some (.map (some bm)) ∧ ((∃ e : Nat, mm x = some e ∧ rdo prog (Instr.lookup 87 (.map (some bm)) (.agg (parr x)) true) F (.tuple #[vi e, .bool true])) ∨ (mm x = none ∧ rdo prog (Instr.lookup 87 (.map (some bm)) (.agg (parr x)) true) F (.tuple #[vi 0, .bool false]))) := by
  obtain ⟨o, h1, h2⟩ := h.map
  refine ⟨le_cell hl (by rw [cell_eq h.var]; rfl), ?_⟩
  have hlk := rdo_lookup mt87 (hl _ _ h1) h2 x true
  cases hm : mm x with
  | none =>
    rw [show mvI mm x = none by simp [mvI, hm]] at hlk
    exact .inr ⟨rfl, hlk⟩
  | some e =>
    rw [show mvI mm x = some (vi e) by simp [mvI, hm]] at hlk
    exact .inl ⟨e, rfl, hlk⟩
def cI1 (T : Two) (G0 : PH) (N : Nat) : Nat → Sl → Sl → Option Addr → PH → Prop := fun m ns os dp F' =>
  ∃ (G : PH) (r : Nat) (now : List Pr) (out : List Nat) (b18 : Nat), m = r ∧ dp = some ⟨b18, 0, none⟩ ∧ G0.le G ∧ G b18 = some (.cells #[vi ((r : Int) - 1)] 3) ∧ RdS G ns 2 (pflat now) ∧ now.Nodup ∧ (∀ x ∈ now, T.cm x) ∧ Ow G F' os (u8l out) ∧ Gr T N now out r ∧ ∀ b ∈ out, b < 256
def cI2 (T : Two) (G : PH) (mm : Pr → Option Nat) (r : Nat) (now : List Pr) (os : Sl) (out : List Nat) : Nat → Int → Int → PH → Prop := fun m least i F' =>
  ∃ w : Nat, i = w ∧ w ≤ now.length ∧ m = now.length - w ∧ Ow G F' os (u8l out) ∧ ((least = 256 ∧ ∀ x ∈ now.take w, mm x ≠ some r) ∨
    ∃ c : Nat, c < 256 ∧ least = c ∧ (∃ x ∈ now.take w, mm x = some r ∧ T.acc x c) ∧ ∀ x ∈ now.take w, mm x = some r → ∀ b, T.acc x b → c ≤ b)
section
variable {l1 l2 : List Nd} {t1 t2 : Lt}
theorem cb60' : callableB prog 60 = true := by kernel_rfl
theorem common_j4 {G0 G F9 : PH} {p q ns os : Sl} {m1 m2 bm b10 b18 N r : Nat} {mm : Pr → Option Nat} (hC : Cc G0 l1 l2 t1 t2 p q m1 m2 bm b10 mm) {now : List Pr} {out : List Nat} {R : Value → PH → Prop} (lG : G0.le G) (hb : G b18 = some (.cells #[vi (((r + 1 : Nat) : Int) - 1)] 3)) (hs : RdS G ns 2 (pflat now)) (hnd : now.Nodup) (hcm : ∀ x ∈ now, (two l1 l2 t1 t2).cm x)
    (hg : Gr (two l1 l2 t1 t2) N now out (r + 1)) (hN : N ≤ 262145) (hob : ∀ b ∈ out, b < 256) (ho : Ow G F9 os (u8l out)) {c : Nat} (hc : c < 256) (hc1 : ∃ x ∈ now, mm x = some r ∧ (two l1 l2 t1 t2).acc x c) (hc2 : ∀ x ∈ now, mm x = some r → ∀ b, (two l1 l2 t1 t2).acc x b → c ≤ b) :
    b31j4 (fun y1_0 y1_1 y1_2 F' => ∃ m', m' < r + 1 ∧ cI1 (two l1 l2 t1 t2) G0 N m' y1_0 y1_1 y1_2 F') p q ⟨m1, 0, none⟩ ⟨m2, 0, none⟩ b10 ns os ⟨b18, 0, none⟩ (c : Int) R F9 := by
  have hCG := hC.le lG
  have hlt : ∀ x ∈ now, x.1 < 512 ∧ x.2 < 512 := fun x hx => AQ.lt hC.w1 hC.w2 (hcm x hx)
  have hol : os.len = out.length := by have := ho.own.rd.len; rw [u8l_length] at this; omega
  have hgl := hg.len
  unfold b31j4
  rw [wu8_eq (by omega) (by omega)]
  refine ho.push c (by omega) fun s' F10 ho => ?_
  have er : ((r + 1 : Nat) : Int) - 1 = (r : Int) := by omega
  rw [er] at hb
  obtain ⟨o, ho1, ho2⟩ := hCG.map
  refine (ho.call (after_spec hCG.tab hCG.M1 hCG.M2 hC.w1 hC.w2 hs (pr_bound hnd hlt) (fun x hx => cm_lt (hcm x hx)) (c := c) (S := fun x => decide (mm x = some r)) (k := 60) (cap := #[pa b10, pa b18]) cb60' fun x hx =>
    dist_at (by rw [cell_eq hCG.var]; rfl) ho1 ho2 (by rw [cell_eq hb]; rfl) x)).mono ?_
  rintro _ F11 ⟨G2, ⟨⟨sl, q', rfl, hr, hA⟩, lG2⟩, ho⟩
  have hb2 := lG2 _ _ hb
  refine ⟨_, rfl, ?_⟩
  unfold b31j3
  refine ⟨(r : Int), le_cell ho.le (by rw [cell_eq hb2]; rfl), ?_⟩
  intro b hbf
  refine atI ?_
  have o1 := ho.fresh hbf (.cells #[.int .i64 0] 3)
  have q1 := set_eq F11 b (.cells #[.int .i64 0] 3)
  have gb := le_none ho.le hbf
  have nb := ho.ne hbf
  generalize F11.set b (.cells #[.int .i64 0] 3) = F12 at *
  refine st1 (o := 0) q1 (by simp) ?_
  show ∃ v_82 : Int, _
  have o2 := o1.over gb nb (.cells #[.int .i64 (r : Int)] 3)
  have q2 := set_eq F12 b (.cells #[.int .i64 (r : Int)] 3)
  have e1 : (#[Value.int .i64 0] : Array Value).setIfInBounds 0 (.int .i64 (r : Int)) = #[.int .i64 (r : Int)] := rfl
  rw [e1]
  generalize F12.set b (.cells #[.int .i64 (r : Int)] 3) = F13 at *
  refine ⟨(r : Int), by rw [cell_eq q2]; rfl, ?_⟩
  refine st1 (o := 0) q2 (by simp) ?_
  have e2 : (#[Value.int .i64 (r : Int)] : Array Value).setIfInBounds 0 (.int .i64 (IntKind.i64.wrap ((r : Int) - 1))) = #[vi ((r : Int) - 1)] := by
    rw [w64_eq (by omega) (by omega)]
    rfl
  rw [e2]
  have o3 := o2.over gb nb (.cells #[vi ((r : Int) - 1)] 3)
  have q3 := set_eq F13 b (.cells #[vi ((r : Int) - 1)] 3)
  generalize F13.set b (.cells #[vi ((r : Int) - 1)] 3) = F14 at *
  obtain ⟨o4, l4⟩ := o3.absorb gb q3 nb
  refine ⟨r, by omega, _, r, q', out ++ [c], b, rfl, rfl, le_trans' lG (le_trans' lG2 l4), set_eq _ _ _, hr.le l4, hA.nd, fun x hx => ?_, ?_, hg.step hC.dm hc1 hc2 fun y => ?_, fun z hz => ?_⟩
  · obtain ⟨_, _, _, _, _, h⟩ := (hA.mem x).1 hx
    exact h
  · rw [u8l_append]
    exact o4
  · rw [hA.mem]
    constructor
    · rintro ⟨x, hx, h1, h2⟩
      exact ⟨x, hx, by simpa using h1, h2⟩
    · rintro ⟨x, hx, h1, h2⟩
      exact ⟨x, hx, by simpa using h1, h2⟩
  · rcases List.mem_append.1 hz with h | h
    · exact hob z h
    · rw [List.mem_singleton] at h
      omega
theorem common_L2 {G0 G F9 : PH} {p q ns os : Sl} {m1 m2 bm b10 b18 N r m : Nat} {mm : Pr → Option Nat} (hC : Cc G0 l1 l2 t1 t2 p q m1 m2 bm b10 mm) {now : List Pr} {out : List Nat} {R : Value → PH → Prop} (lG : G0.le G) (hb : G b18 = some (.cells #[vi (((r + 1 : Nat) : Int) - 1)] 3)) (hs : RdS G ns 2 (pflat now)) (hnd : now.Nodup) (hcm : ∀ x ∈ now, (two l1 l2 t1 t2).cm x)
    (hg : Gr (two l1 l2 t1 t2) N now out (r + 1)) (hN : N ≤ 262145) (hob : ∀ b ∈ out, b < 256) {least i : Int} (hI : cI2 (two l1 l2 t1 t2) G mm r now os out m least i F9) :
    b31L2 (fun y1_0 y1_1 y1_2 F' => ∃ m', m' < r + 1 ∧ cI1 (two l1 l2 t1 t2) G0 N m' y1_0 y1_1 y1_2 F') (fun y2_0 y2_1 F' => ∃ m', m' < m ∧ cI2 (two l1 l2 t1 t2) G mm r now os out m' y2_0 y2_1 F') p q ⟨m1, 0, none⟩ ⟨m2, 0, none⟩ b10 ns os ⟨b18, 0, none⟩ R least i F9 := by
  obtain ⟨w, rfl, hw, rfl, ho, hle⟩ := hI
  have hlen := hs.plen
  have hlt : ∀ x ∈ now, x.1 < 512 ∧ x.2 < 512 := fun x hx => AQ.lt hC.w1 hC.w2 (hcm x hx)
  have hnl := pr_bound hnd hlt
  unfold b31L2
  refine ⟨fun hlt => ?_, fun hge => ?_⟩
  · have hw' : w < now.length := by omega
    have hx : now[w]? = some now[w] := List.getElem?_eq_getElem hw'
    generalize now[w] = x at hx
    have hxm := List.mem_of_getElem? hx
    obtain ⟨hx1, hx2⟩ := cm_lt (hcm x hxm)
    obtain ⟨a, ha, hr⟩ := rdp (hs.le ho.le) hx
    refine ⟨a, ha, by omega, by omega, parr x, rfl, by rw [Int.toNat_natCast]; exact hr, ?_⟩
    refine ho.var x fun b21 F10 ho q21 => ?_
    obtain ⟨cv, hlk⟩ := hC.look (le_trans' lG ho.le) x
    refine ⟨_, cv, parr x, rfl, row_whole q21, ?_⟩
    have tk : ∀ z, z ∈ now.take (w + 1) ↔ z ∈ now.take w ∨ z = x := fun z => by rw [List.take_add_one, hx]; simp
    have skip : mm x ≠ some r → ∃ m', m' < now.length - w ∧ cI2 (two l1 l2 t1 t2) G mm r now os out m' least (IntKind.i64.wrap ((w : Int) + 1)) F10 := fun hne => by
      refine ⟨now.length - (w + 1), by omega, w + 1, w64s (by omega), by omega, rfl, ho, ?_⟩
      rcases hle with ⟨e, h⟩ | ⟨c, h1, h2, ⟨y, hy, h3⟩, h4⟩
      · refine .inl ⟨e, fun z hz => ?_⟩
        rcases (tk z).1 hz with hz | rfl
        · exact h z hz
        · exact hne
      · refine .inr ⟨c, h1, h2, ⟨y, (tk y).2 (.inl hy), h3⟩, fun z hz hm => ?_⟩
        rcases (tk z).1 hz with hz | rfl
        · exact h4 z hz hm
        · exact absurd hm hne
    rcases hlk with ⟨e, hm, hlk⟩ | ⟨hm, hlk⟩
    · refine ⟨(e : Int), true, hlk, fun _ => ?_, fun h => (by cases h)⟩
      refine ⟨(((r + 1 : Nat) : Int) - 1), le_cell ho.le (by rw [cell_eq hb]; rfl), ?_⟩
      unfold b31j6
      refine ⟨fun he => ?_, fun he => ?_⟩
      · have her : e = r := by have := of_decide_eq_true he; omega
        subst her
        have hn1 : l1[x.1]? = some l1[x.1] := List.getElem?_eq_getElem hx1
        have hn2 : l2[x.2]? = some l2[x.2] := List.getElem?_eq_getElem hx2
        generalize l1[x.1] = y1 at hn1
        generalize l2[x.2] = y2 at hn2
        obtain ⟨a1, ha1, _, lo1, _⟩ := rdn3 (hC.hp.le (le_trans' lG ho.le)) hn1
        obtain ⟨a2, ha2, _, lo2, _⟩ := rdn3 (hC.hq.le (le_trans' lG ho.le)) hn2
        have np := hC.hp.nlen
        have nq := hC.hq.nlen
        refine ⟨(x.1 : Int), by rw [cell_eq q21]; rfl, a1, ha1, by omega, by omega, y1.lo, by rw [Int.toNat_natCast]; exact lo1, (x.2 : Int), by rw [cell_eq q21]; rfl, a2, ha2, by omega, by omega, y2.lo, by rw [Int.toNat_natCast]; exact lo2, ?_⟩
        unfold b31j5
        have accI : ∀ b : Nat, (two l1 l2 t1 t2).acc x b ↔ ((y1.lo ≤ (b : Int) ∧ (b : Int) ≤ y1.hi) ∧ y2.lo ≤ (b : Int) ∧ (b : Int) ≤ y2.hi) := fun b => by
          constructor
          · rintro ⟨⟨z1, e1, p1⟩, ⟨z2, e2, p2⟩⟩
            rw [hn1] at e1
            rw [hn2] at e2
            cases e1
            cases e2
            exact ⟨p1, p2⟩
          · rintro ⟨p1, p2⟩
            exact ⟨⟨y1, hn1, p1⟩, ⟨y2, hn2, p2⟩⟩
        obtain ⟨b0, hb0⟩ := hcm x hxm
        have hb0 := (accI b0).1 hb0
        have g1 := good_lo hC.w1.good hn1
        have g2 := good_lo hC.w2.good hn2
        obtain ⟨cx, hcx⟩ := Int.eq_ofNat_of_zero_le (show 0 ≤ max y1.lo y2.lo by omega)
        have hcx' : (two l1 l2 t1 t2).acc x cx := (accI cx).2 (by omega)
        have hmin : ∀ b, (two l1 l2 t1 t2).acc x b → cx ≤ b := fun b h => by have := (accI b).1 h; omega
        rw [hcx]
        refine ⟨now.length - (w + 1), by omega, w + 1, w64s (by omega), by omega, rfl, ho, ?_⟩
        rcases hle with ⟨e, h⟩ | ⟨c, h1, h2, ⟨y, hy, h3⟩, h4⟩
        · refine .inr ⟨cx, by omega, by omega, ⟨x, (tk x).2 (.inr rfl), hm, hcx'⟩, fun z hz hmz => ?_⟩
          rcases (tk z).1 hz with hz | rfl
          · exact absurd hmz (h z hz)
          · exact hmin
        · by_cases hcc : c ≤ cx
          · refine .inr ⟨c, h1, by omega, ⟨y, (tk y).2 (.inl hy), h3⟩, fun z hz hmz => ?_⟩
            rcases (tk z).1 hz with hz | rfl
            · exact h4 z hz hmz
            · exact fun b hb => by have := hmin b hb; omega
          · refine .inr ⟨cx, by omega, by omega, ⟨x, (tk x).2 (.inr rfl), hm, hcx'⟩, fun z hz hmz => ?_⟩
            rcases (tk z).1 hz with hz | rfl
            · exact fun b hb => by have := h4 z hz hmz b hb; omega
            · exact hmin
      · unfold b31j5
        refine skip fun h => ?_
        rw [hm] at h
        cases h
        have := of_decide_eq_false he
        omega
    · refine ⟨0, false, hlk, fun h => (by cases h), fun _ => ?_⟩
      unfold b31j6
      refine ⟨fun h => (by cases h), fun _ => ?_⟩
      unfold b31j5
      exact skip fun h => by rw [hm] at h; cases h
  · obtain rfl : w = now.length := by omega
    rw [List.take_length] at hle
    rcases hle with ⟨_, h⟩ | ⟨c, h1, rfl, h3, h4⟩
    · obtain ⟨x, hx, hm⟩ := hg.pick hC.dm
      exact absurd hm (h x hx)
    · exact common_j4 hC lG hb hs hnd hcm hg hN hob ho h1 h3 h4
theorem common_L1 {G0 F5 : PH} {p q ns os : Sl} {m1 m2 bm b10 N m : Nat} {mm : Pr → Option Nat} (hC : Cc G0 l1 l2 t1 t2 p q m1 m2 bm b10 mm) {R : Value → PH → Prop} (hN : N ≤ 262145) {dp : Option Addr} (hI : cI1 (two l1 l2 t1 t2) G0 N m ns os dp F5)
    (hR : ∀ F' w, LeastC (two l1 l2 t1 t2).C w → ((∀ b ∈ w, b < 256) ∧ w.length ≤ 262145) → G0.le F' → R (.tuple #[.string (mkS w), vi 0]) F') :
    b31L1 (fun y1_0 y1_1 y1_2 F' => ∃ m', m' < m ∧ cI1 (two l1 l2 t1 t2) G0 N m' y1_0 y1_1 y1_2 F') p q ⟨m1, 0, none⟩ ⟨m2, 0, none⟩ b10 R ns os dp F5 := by
  obtain ⟨G, r, now, out, b18, rfl, rfl, lG, hb, hs, hnd, hcm, ho, hg, hob⟩ := hI
  unfold b31L1
  refine ⟨_, rfl, (m : Int) - 1, le_cell ho.le (by rw [cell_eq hb]; rfl), fun h0 => ?_, fun h0 => ?_⟩
  · obtain ⟨r, rfl⟩ : ∃ r, m = r + 1 := ⟨m - 1, by omega⟩
    exact ⟨cI2 (two l1 l2 t1 t2) G mm r now os out, now.length, ⟨0, rfl, by omega, by omega, ho, .inl ⟨rfl, fun x hx => by simp at hx⟩⟩, fun m2' least i F9 hI => common_L2 hC lG hb hs hnd hcm hg hN hob hI⟩
  · obtain rfl : m = 0 := by omega
    unfold b31j2
    exact ⟨mkS out, bts_rdo ho.own.rd, hR _ out hg.least ⟨hob, by have := hg.len; omega⟩ (le_trans' lG ho.le)⟩
def cI3 (G : PH) (mm : Pr → Option Nat) (q0 : List Pr) : Nat → Int → Int → PH → Prop := fun m best i F' =>
  ∃ w : Nat, i = w ∧ w ≤ q0.length ∧ m = q0.length - w ∧ G.le F' ∧ ((best = -1 ∧ ∀ x ∈ q0.take w, mm x = none) ∨ ∃ d : Nat, best = d ∧ (∃ x ∈ q0.take w, mm x = some d) ∧ ∀ x ∈ q0.take w, ∀ e, mm x = some e → d ≤ e)
theorem common_j1 {G F5 : PH} {p q s0 : Sl} {m1 m2 bm b10 : Nat} {mm : Pr → Option Nat} (hC : Cc G l1 l2 t1 t2 p q m1 m2 bm b10 mm) {R : Value → PH → Prop} {q0 : List Pr} (hs : RdS G s0 2 (pflat q0)) (hnd : q0.Nodup) (hq0 : ∀ x, x ∈ q0 ↔ (two l1 l2 t1 t2).ini x ∧ (two l1 l2 t1 t2).cm x) {best : Int} (lG : G.le F5)
    (hb : (best = -1 ∧ ∀ x ∈ q0, mm x = none) ∨ ∃ d : Nat, best = d ∧ (∃ x ∈ q0, mm x = some d) ∧ ∀ x ∈ q0, ∀ e, mm x = some e → d ≤ e)
    (hR : ∀ F' w, LeastC (two l1 l2 t1 t2).C w → ((∀ b ∈ w, b < 256) ∧ w.length ≤ 262145) → G.le F' → R (.tuple #[.string (mkS w), vi 0]) F')
    (hR0 : ∀ F', (∀ w, ¬ (two l1 l2 t1 t2).C w) → G.le F' → R (.tuple #[.string (ByteArray.mk #[]), vi 3]) F') :
    b31j1 p q ⟨m1, 0, none⟩ ⟨m2, 0, none⟩ b10 s0 best R F5 := by
  unfold b31j1
  refine ⟨fun h0 => ?_, fun h0 => ?_⟩
  · rcases hb with ⟨_, h⟩ | ⟨d, rfl, _⟩
    · exact hR0 _ (no_word hC.dm hq0 h) lG
    · omega
  · rcases hb with ⟨rfl, _⟩ | ⟨d, rfl, h1, h2⟩
    · exact absurd (show (-1 : Int) < 0 by decide) h0
    · have hg := Gr.start hC.dm hq0 h1 h2
      have hd : d ≤ 262144 := h1.elim fun x h => hC.bd x d h.2
      intro b78 hb78
      refine atI ?_
      have le1 := le_set_fresh (.cells #[] 5) hb78
      have q1 := set_eq F5 b78 (.cells #[] 5)
      have ho : Ow G (F5.set b78 (.cells #[] 5)) ⟨some ⟨b78, 0, none⟩, 0, 0⟩ (u8l []) :=
        ⟨le_trans' lG le1, .inr ⟨b78, #[], rfl, q1, rfl, Nat.le_refl _, rfl, rfl⟩, fun a ha => by cases ha; exact le_none lG hb78⟩
      generalize F5.set b78 (.cells #[] 5) = F6 at *
      intro b hbf
      refine atI ?_
      have o1 := ho.fresh hbf (.cells #[.int .i64 0] 3)
      have q1 := set_eq F6 b (.cells #[.int .i64 0] 3)
      have gb := le_none ho.le hbf
      have nb := ho.ne hbf
      generalize F6.set b (.cells #[.int .i64 0] 3) = F12 at *
      refine st1 (o := 0) q1 (by simp) ?_
      have e1 : (#[Value.int .i64 0] : Array Value).setIfInBounds 0 (.int .i64 (d : Int)) = #[vi (((d + 1 : Nat) : Int) - 1)] := by
        rw [show ((d + 1 : Nat) : Int) - 1 = d by omega]
        rfl
      rw [e1]
      have o2 := o1.over gb nb (.cells #[vi (((d + 1 : Nat) : Int) - 1)] 3)
      have q2 := set_eq F12 b (.cells #[vi (((d + 1 : Nat) : Int) - 1)] 3)
      generalize F12.set b (.cells #[vi (((d + 1 : Nat) : Int) - 1)] 3) = F13 at *
      obtain ⟨o4, l4⟩ := o2.absorb gb q2 nb
      refine ⟨cI1 (two l1 l2 t1 t2) G (d + 1), d + 1, ⟨_, d + 1, q0, [], b, rfl, rfl, l4, set_eq _ _ _, hs.le l4, hnd, fun x hx => ((hq0 x).1 hx).2, o4, hg, fun b hb => (by cases hb)⟩, fun m ns os dp F14 hI => ?_⟩
      exact common_L1 hC (by omega) hI hR
theorem common_L3 {G F5 : PH} {p q s0 : Sl} {m1 m2 bm b10 m : Nat} {mm : Pr → Option Nat} (hC : Cc G l1 l2 t1 t2 p q m1 m2 bm b10 mm) {R : Value → PH → Prop} {q0 : List Pr} (hs : RdS G s0 2 (pflat q0)) (hnl : q0.length ≤ 262144) (hnd : q0.Nodup) (hq0 : ∀ x, x ∈ q0 ↔ (two l1 l2 t1 t2).ini x ∧ (two l1 l2 t1 t2).cm x) {best i : Int}
    (hI : cI3 G mm q0 m best i F5) (hR : ∀ F' w, LeastC (two l1 l2 t1 t2).C w → ((∀ b ∈ w, b < 256) ∧ w.length ≤ 262145) → G.le F' → R (.tuple #[.string (mkS w), vi 0]) F')
    (hR0 : ∀ F', (∀ w, ¬ (two l1 l2 t1 t2).C w) → G.le F' → R (.tuple #[.string (ByteArray.mk #[]), vi 3]) F') :
    b31L3 (fun y3_0 y3_1 F' => ∃ m', m' < m ∧ cI3 G mm q0 m' y3_0 y3_1 F') p q ⟨m1, 0, none⟩ ⟨m2, 0, none⟩ b10 s0 R best i F5 := by
  obtain ⟨w, rfl, hw, rfl, lG, hb⟩ := hI
  have hlen := hs.plen
  unfold b31L3
  refine ⟨fun hlt => ?_, fun hge => ?_⟩
  · have hw' : w < q0.length := by omega
    have hx : q0[w]? = some q0[w] := List.getElem?_eq_getElem hw'
    generalize q0[w] = x at hx
    obtain ⟨a, ha, hr⟩ := rdp (hs.le lG) hx
    refine ⟨a, ha, by omega, by omega, parr x, rfl, by rw [Int.toNat_natCast]; exact hr, ?_⟩
    refine (⟨lG, .inl ⟨rfl, rfl⟩, fun a ha => (by cases ha)⟩ : Ow G F5 Sl.nil []).var x fun b14 F10 ho q14 => ?_
    obtain ⟨cv, hlk⟩ := hC.look ho.le x
    refine ⟨_, cv, parr x, rfl, row_whole q14, ?_⟩
    have tk : ∀ z, z ∈ q0.take (w + 1) ↔ z ∈ q0.take w ∨ z = x := fun z => by rw [List.take_add_one, hx]; simp
    have done : ∀ {best' : Int}, ((best' = -1 ∧ ∀ x ∈ q0.take (w + 1), mm x = none) ∨ ∃ d : Nat, best' = d ∧ (∃ x ∈ q0.take (w + 1), mm x = some d) ∧ ∀ x ∈ q0.take (w + 1), ∀ e, mm x = some e → d ≤ e) →
        ∃ m', m' < q0.length - w ∧ cI3 G mm q0 m' best' (IntKind.i64.wrap ((w : Int) + 1)) F10 := fun h => ⟨q0.length - (w + 1), by omega, w + 1, w64s (by omega), by omega, rfl, ho.le, h⟩
    rcases hlk with ⟨e, hm, hlk⟩ | ⟨hm, hlk⟩
    · refine ⟨(e : Int), true, hlk, fun _ => ⟨fun h1 => ?_, fun h1 => ⟨fun h2 => ?_, fun h2 => ?_⟩⟩, fun h => (by cases h)⟩
      · unfold b31j7
        refine done (.inr ⟨e, rfl, ⟨x, (tk x).2 (.inr rfl), hm⟩, fun z hz f hf => ?_⟩)
        rcases hb with ⟨_, h⟩ | ⟨d, rfl, _⟩
        · rcases (tk z).1 hz with hz | rfl
          · rw [h z hz] at hf
            cases hf
          · rw [hm] at hf
            cases hf
            exact Nat.le_refl _
        · omega
      · unfold b31j7
        refine done (.inr ⟨e, rfl, ⟨x, (tk x).2 (.inr rfl), hm⟩, fun z hz f hf => ?_⟩)
        rcases hb with ⟨rfl, _⟩ | ⟨d, rfl, _, h⟩
        · exact absurd (show (-1 : Int) < 0 by decide) h1
        · rcases (tk z).1 hz with hz | rfl
          · have := h z hz f hf
            omega
          · rw [hm] at hf
            cases hf
            exact Nat.le_refl _
      · unfold b31j7
        rcases hb with ⟨rfl, _⟩ | ⟨d, rfl, ⟨y, hy, h3⟩, h⟩
        · exact absurd (show (-1 : Int) < 0 by decide) h1
        · refine done (.inr ⟨d, rfl, ⟨y, (tk y).2 (.inl hy), h3⟩, fun z hz f hf => ?_⟩)
          rcases (tk z).1 hz with hz | rfl
          · exact h z hz f hf
          · rw [hm] at hf
            cases hf
            omega
    · refine ⟨0, false, hlk, fun h => (by cases h), fun _ => ?_⟩
      unfold b31j7
      rcases hb with ⟨rfl, h⟩ | ⟨d, rfl, ⟨y, hy, h3⟩, h⟩
      · refine done (.inl ⟨rfl, fun z hz => ?_⟩)
        rcases (tk z).1 hz with hz | rfl
        · exact h z hz
        · exact hm
      · refine done (.inr ⟨d, rfl, ⟨y, (tk y).2 (.inl hy), h3⟩, fun z hz f hf => ?_⟩)
        rcases (tk z).1 hz with hz | rfl
        · exact h z hz f hf
        · rw [hm] at hf
          cases hf
  · obtain rfl : w = q0.length := by omega
    rw [List.take_length] at hb
    exact common_j1 hC hs hnd hq0 lG hb hR hR0
end
/-- What Common returns. -/
def ComW (l1 l2 : List Nd) (w : List Nat) : Prop := w ≠ [] ∧ LgL l1 w ∧ LgL l2 w
def ComR (l1 l2 : List Nd) (r : Value) : Prop :=
  (chkP l1 ≠ 0 ∧ r = .tuple #[.string (ByteArray.mk #[]), vi (chkP l1)]) ∨ (chkP l1 = 0 ∧ chkP l2 ≠ 0 ∧ r = .tuple #[.string (ByteArray.mk #[]), vi (chkP l2)]) ∨
    (chkP l1 = 0 ∧ chkP l2 = 0 ∧ (((∀ w, ¬ ComW l1 l2 w) ∧ r = .tuple #[.string (ByteArray.mk #[]), vi 3]) ∨ ∃ w, LeastC (ComW l1 l2) w ∧ ((∀ b ∈ w, b < 256) ∧ w.length ≤ 262145) ∧ r = .tuple #[.string (mkS w), vi 0]))
theorem common_spec {F : PH} (hT : Tab F) {l1 l2 : List Nd} {p q : Sl} (hp : RdS F p 5 (nflat l1)) (hq : RdS F q 5 (nflat l2)) : Spec prog 31 #[p.v, q.v] F fun r F' => ComR l1 l2 r ∧ F.le F' := by
  refine c31 ?_
  unfold b31
  refine (check_spec hp).mono ?_
  rintro _ F1 ⟨rfl, le1⟩
  refine ⟨_, rfl, fun h => ⟨.inl ⟨h, rfl⟩, le1⟩, fun h => ?_⟩
  have h1 : chkP l1 = 0 := by omega
  refine (check_spec (hq.le le1)).mono ?_
  rintro _ F2 ⟨rfl, le2⟩
  have le02 := le_trans' le1 le2
  refine ⟨_, rfl, fun h => ⟨.inr (.inl ⟨h1, h, rfl⟩), le02⟩, fun h => ?_⟩
  have h2 : chkP l2 = 0 := by omega
  obtain ⟨g1, n1⟩ := chkP_zero h1
  obtain ⟨g2, n2⟩ := chkP_zero h2
  obtain ⟨ns1, t1⟩ := treeL_spec g1
  obtain ⟨ns2, t2⟩ := treeL_spec g2
  have w1 : Mw l1 (treeL l1) := ⟨g1, n1, fun j hj => (tree_mem t1).1 j ((tree_mem t1).2 j hj)⟩
  have w2 : Mw l2 (treeL l2) := ⟨g2, n2, fun j hj => (tree_mem t2).1 j ((tree_mem t2).2 j hj)⟩
  have hCw : ∀ w, (two l1 l2 (treeL l1) (treeL l2)).C w ↔ ComW l1 l2 w := two_C (tree_fits g1 t1) (tree_fits g2 t2)
  have hLC : ∀ {w}, LeastC (two l1 l2 (treeL l1) (treeL l2)).C w → LeastC (ComW l1 l2) w := fun h => ⟨(hCw _).1 h.is, fun v hv => h.short v ((hCw v).2 hv), fun v hv => h.lex v ((hCw v).2 hv)⟩
  refine (compile_spec (hT.le le02) g1 n1 (hp.le le02)).mono ?_
  rintro _ F3 ⟨⟨m1, rfl, M1⟩, le3⟩
  replace le3 := le_trans' le02 le3
  refine ⟨_, rfl, ?_⟩
  refine (compile_spec (hT.le le3) g2 n2 (hq.le le3)).mono ?_
  rintro _ F4 ⟨⟨m2, rfl, M2⟩, le4⟩
  replace M1 := M1.le le4
  replace le4 := le_trans' le3 le4
  refine ⟨_, rfl, ?_⟩
  refine (dist_spec (hT.le le4) M1 M2 w1 w2).mono ?_
  rintro _ F5 ⟨⟨bm, mm, o, rfl, hmo, hmm, hdm, hbd⟩, le5⟩
  replace M1 := M1.le le5
  replace M2 := M2.le le5
  replace le5 := le_trans' le4 le5
  refine ⟨_, rfl, ?_⟩
  intro b10 hb
  refine atI ?_
  have le6 := le_set_fresh (.cells #[.map none] 87) hb
  have q6 := set_eq F5 b10 (.cells #[.map none] 87)
  generalize F5.set b10 (.cells #[.map none] 87) = F6 at *
  refine st1 (o := 0) q6 (by simp) ?_
  have e1 : (#[Value.map none] : Array Value).setIfInBounds 0 (.map (some bm)) = #[.map (some bm)] := rfl
  rw [e1]
  have le7 := le_set_new (o := .cells #[.map (some bm)] 87) le6 hb
  have q7 := set_eq F6 b10 (.cells #[.map (some bm)] 87)
  clear q6 le6
  generalize F6.set b10 (.cells #[.map (some bm)] 87) = F7 at *
  have le07 := le_trans' le5 le7
  have hC : Cc F7 l1 l2 (treeL l1) (treeL l2) p q m1 m2 bm b10 mm := ⟨hT.le le07, M1.le le7, M2.le le7, w1, w2, hp.le le07, hq.le le07, ⟨o, le7 _ _ hmo, hmm⟩, q7, hdm, hbd⟩
  obtain ⟨s1, bf1, qm1, _, _⟩ := hC.M1.ex
  obtain ⟨s2, bf2, qm2, _, _⟩ := hC.M2.ex
  refine ⟨_, rfl, plA (fB (treeL l1)), plA_size _, (mc_row qm1).1, _, rfl, plA (fB (treeL l2)), plA_size _, (mc_row qm2).1, ?_⟩
  refine (meeting_spec hC.tab hC.M1 hC.M2 (P := fB (treeL l1)) (Q := fB (treeL l2)) (fun i hi => w1.lt _ ((treeL l1).first_lab (fB_iff.1 hi))) (fun i hi => w2.lt _ ((treeL l2).first_lab (fB_iff.1 hi)))).mono ?_
  rintro _ F8 ⟨⟨s0, rfl, ho, _⟩, le8⟩
  refine ⟨_, rfl, ?_⟩
  have hq0 : ∀ x, x ∈ meetL l1 l2 (fB (treeL l1)) (fB (treeL l2)) 512 ↔ (two l1 l2 (treeL l1) (treeL l2)).ini x ∧ (two l1 l2 (treeL l1) (treeL l2)).cm x := fun x => by
    rw [meet_two w1 w2, fB_iff, fB_iff]
    exact Iff.rfl
  have hnd := meetL_nodup l1 l2 (fB (treeL l1)) (fB (treeL l2)) 512
  have hnl : (meetL l1 l2 (fB (treeL l1)) (fB (treeL l2)) 512).length ≤ 262144 := meetL_len l1 l2 _ _ 512
  generalize meetL l1 l2 (fB (treeL l1)) (fB (treeL l2)) 512 = q0 at *
  have le08 := le_trans' le07 le8
  refine ⟨cI3 F8 mm q0, q0.length, ⟨0, rfl, by omega, by omega, le_refl' _, .inl ⟨rfl, fun x hx => by simp at hx⟩⟩, fun m best i F9 hI => ?_⟩
  exact common_L3 (hC.le le8) ho.rd hnl hnd hq0 hI (fun F' w hw hb lF => ⟨.inr (.inr ⟨h1, h2, .inr ⟨w, hLC hw, hb, rfl⟩⟩), le_trans' le08 lF⟩)
    (fun F' hw lF => ⟨.inr (.inr ⟨h1, h2, .inl ⟨fun w h => hw w ((hCw w).2 h), rfl⟩⟩), le_trans' le08 lF⟩)
theorem ComR.pair {l1 l2 : List Nd} {r : Value} (h : ComR l1 l2 r) : ∃ (s : ByteArray) (e : Int), r = .tuple #[.string s, vi e] := by
  rcases h with ⟨_, rfl⟩ | ⟨_, _, rfl⟩ | ⟨_, _, ⟨_, rfl⟩ | ⟨w, _, _, rfl⟩⟩ <;> exact ⟨_, _, rfl⟩
theorem shortest_spec {F : PH} (hT : Tab F) {l : List Nd} {p : Sl} (hp : RdS F p 5 (nflat l)) : Spec prog 29 #[p.v] F fun r F' => ComR l l r ∧ F.le F' := by
  refine c29 ?_
  unfold b29
  refine (common_spec hT hp hp).mono ?_
  rintro r F' ⟨h, l⟩
  obtain ⟨s, e, rfl⟩ := h.pair
  exact ⟨s, e, rfl, h, l⟩
end Go.Proofs.YtnjcgpihfmklfaaDoor
