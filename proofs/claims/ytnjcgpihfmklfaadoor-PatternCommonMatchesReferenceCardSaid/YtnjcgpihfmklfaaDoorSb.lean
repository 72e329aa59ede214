/-
  The links of a machine the other way round.
-/
import Derived.Test.YtnjcgpihfmklfaaDoorQy
namespace Go.Proofs.YtnjcgpihfmklfaaDoor
set_option maxRecDepth 10000
structure Two where
 acc : Pr → Nat → Prop
 lnk : Pr → Pr → Prop
 ini : Pr → Prop
 fin : Pr → Prop
namespace Two
def cm (T : Two) (x : Pr) : Prop := ∃ b, T.acc x b
def PW (T : Two) : Pr → List Nat → Prop
 | _, [] => False
 | x, b :: w => T.acc x b ∧ ((w = [] ∧ T.fin x) ∨ ∃ y, T.lnk x y ∧ T.PW y w)
def R (T : Two) : Nat → Pr → Prop
 | 0, x => T.cm x ∧ T.fin x
 | n + 1, x => T.cm x ∧ ∃ y, T.lnk x y ∧ T.R n y
def C (T : Two) (w : List Nat) : Prop := ∃ x, T.ini x ∧ T.PW x w
variable {T : Two}
theorem PW_cm {x : Pr} {w : List Nat} (h : T.PW x w) : T.cm x := by
 cases w with
 | nil => exact h.elim
 | cons b w => exact ⟨b, h.1⟩
theorem R_cm {n : Nat} {x : Pr} (h : T.R n x) : T.cm x := by
 cases n with
 | zero => exact h.1
 | succ n => exact h.1
theorem R_iff : ∀ (n : Nat) (x : Pr), T.R n x ↔ ∃ w, w.length = n + 1 ∧ T.PW x w
 | 0, x => by
  constructor
  ·rintro ⟨⟨b, hb⟩, hf⟩
   exact ⟨[b], rfl, hb, .inl ⟨rfl, hf⟩⟩
  ·rintro ⟨w, hl, hw⟩
   match w, hl, hw with
   | [b], _, ⟨hb, .inl ⟨_, hf⟩⟩ => exact ⟨⟨b, hb⟩, hf⟩
   | [b], _, ⟨hb, .inr ⟨y, _, hy⟩⟩ => exact hy.elim
 | n + 1, x => by
  constructor
  ·rintro ⟨⟨b, hb⟩, y, hl, hy⟩
   obtain ⟨w, h1, h2⟩ := (R_iff n y).1 hy
   exact ⟨b :: w, by simp [h1], hb, .inr ⟨y, hl, h2⟩⟩
  ·rintro ⟨w, hl, hw⟩
   match w, hl, hw with
   | b :: w, hl, ⟨hb, .inl ⟨hn, _⟩⟩ => subst hn; simp at hl
   | b :: w, hl, ⟨hb, .inr ⟨y, h1, h2⟩⟩ => exact ⟨⟨b, hb⟩, y, h1, (R_iff n y).2 ⟨w, by simpa using hl, h2⟩⟩
end Two
structure BF (T : Two) (q : List Pr) (at_ : Nat) (m : Pr → Option Nat) : Prop where
 nd : q.Nodup
 mem : ∀ x, x ∈ q ↔ ∃ d, m x = some d
 snd : ∀ x d, m x = some d → T.R d x
 fin : ∀ x, T.R 0 x → m x = some 0
 don : ∀ (i : Nat) (x : Pr) (d : Nat) (y : Pr), i < at_ → q[i]? = some x → m x = some d → T.lnk y x → T.cm y → ∃ d', m y = some d' ∧ d' ≤ d + 1
 srt : ∀ (i j : Nat) (x y : Pr) (d e : Nat), i ≤ j → q[i]? = some x → q[j]? = some y → m x = some d → m y = some e → d ≤ e
 nxt : ∀ (x : Pr) (d : Nat) (y : Pr) (e : Nat), q[at_]? = some x → m x = some d → m y = some e → e ≤ d + 1
structure DM (T : Two) (m : Pr → Option Nat) : Prop where
 snd : ∀ x d, m x = some d → T.R d x
 all : ∀ n x, T.R n x → ∃ d, m x = some d ∧ d ≤ n
section
variable {T : Two} {q : List Pr} {at_ : Nat} {m : Pr → Option Nat} {x y : Pr} {d : Nat}
def upM (m : Pr → Option Nat) (y : Pr) (e : Nat) : Pr → Option Nat := fun z => if z = y then some e else m z
theorem upM_old (hy : m y = none) {e : Nat} {z : Pr} {k : Nat} (h : m z = some k) : upM m y e z = some k := by
 unfold upM
 rw [if_neg (by rintro rfl; rw [hy] at h; cases h)]
 exact h
theorem upM_cases {e : Nat} {z : Pr} {k : Nat} (h : upM m y e z = some k) : (z = y ∧ k = e) ∨ m z = some k := by
 unfold upM at h
 split at h
 ·rename_i hz
  cases h
  exact .inl ⟨hz, rfl⟩
 ·exact .inr h
theorem get_app {l : List Pr} {i : Nat} {z : Pr} (h : (l ++ [y])[i]? = some z) : l[i]? = some z ∨ (i = l.length ∧ z = y) := by
 rw [List.getElem?_append] at h
 split at h
 ·exact .inl h
 ·rename_i hi
  have : i = l.length := by
   rcases Nat.lt_or_ge (i - l.length) 1 with h1 | h1
   ·omega
   ·rw [List.getElem?_eq_none (by simpa using h1)] at h; cases h
  subst this
  simp at h
  exact .inr ⟨rfl, h.symm⟩
theorem get_app' {l : List Pr} {i : Nat} {z : Pr} (h : l[i]? = some z) : (l ++ [y])[i]? = some z := by
 rw [List.getElem?_append_left (List.getElem?_eq_some_iff.1 h).1]
 exact h
theorem BF.push (h : BF T q at_ m) (hx : q[at_]? = some x) (hd : m x = some d) (hl : T.lnk y x) (hc : T.cm y) (hy : m y = none) : BF T (q ++ [y]) at_ (upM m y (d + 1)) := by
 have hnq : y ∉ q := fun hq => by
  obtain ⟨e, he⟩ := (h.mem y).1 hq
  rw [hy] at he
  cases he
 have uy : upM m y (d + 1) y = some (d + 1) := by simp [upM]
 have hat := (List.getElem?_eq_some_iff.1 hx).1
 have old : ∀ {i : Nat} {z : Pr}, q[i]? = some z → ∃ k, m z = some k := fun h1 => (h.mem _).1 (List.mem_of_getElem? h1)
 have same : ∀ {z : Pr} {k k' : Nat}, m z = some k → upM m y (d + 1) z = some k' → k' = k := fun h1 h2 => by
  rw [upM_old hy h1] at h2
  cases h2
  rfl
 refine ⟨?_, fun z => ?_, fun z k hk => ?_, fun z hz => upM_old hy (h.fin z hz), ?_, ?_, ?_⟩
 ·rw [List.nodup_append]
  refine ⟨h.nd, by simp, fun a ha b hb => ?_⟩
  simp only [List.mem_singleton] at hb
  subst hb
  exact fun e => hnq (e ▸ ha)
 ·rw [List.mem_append, List.mem_singleton]
  constructor
  ·rintro (h1 | rfl)
   ·obtain ⟨e, he⟩ := (h.mem z).1 h1
    exact ⟨e, upM_old hy he⟩
   ·exact ⟨_, uy⟩
  ·rintro ⟨e, he⟩
   rcases upM_cases he with ⟨h1, _⟩ | h1
   ·exact .inr h1
   ·exact .inl ((h.mem z).2 ⟨e, h1⟩)
 ·rcases upM_cases hk with ⟨rfl, rfl⟩ | h1
  ·exact ⟨hc, x, hl, h.snd x d hd⟩
  ·exact h.snd z k h1
 ·intro i z k u hi hz hk hlu hcu
  rcases get_app hz with hz | ⟨e, _⟩
  ·obtain ⟨k', hk'⟩ := old hz
   obtain rfl := same hk' hk
   obtain ⟨d', h1, h2⟩ := h.don i z k u hi hz hk' hlu hcu
   exact ⟨d', upM_old hy h1, h2⟩
  ·omega
 ·intro i j u v k e hij hu hv hk he
  rcases get_app hv with hv | ⟨rfl, rfl⟩
  ·obtain ⟨e', he'⟩ := old hv
   obtain rfl := same he' he
   rcases get_app hu with hu | ⟨rfl, _⟩
   ·obtain ⟨k', hk'⟩ := old hu
    obtain rfl := same hk' hk
    exact h.srt i j u v k e hij hu hv hk' he'
   ·have := (List.getElem?_eq_some_iff.1 hv).1
    omega
  ·rw [uy] at he
   cases he
   rcases upM_cases hk with ⟨_, rfl⟩ | h1
   ·exact Nat.le_refl _
   ·exact h.nxt x d u k hx hd h1
 ·intro u k v e hu hk he
  rcases get_app hu with hu | ⟨e1, _⟩
  ·rw [hx] at hu
   cases hu
   obtain rfl := same hd hk
   rcases upM_cases he with ⟨_, rfl⟩ | h1
   ·exact Nat.le_refl _
   ·exact h.nxt x k v e hx hd h1
  ·omega
theorem BF.step (h : BF T q at_ m) (hx : q[at_]? = some x) (hd : m x = some d) (hall : ∀ y, T.lnk y x → T.cm y → ∃ d', m y = some d' ∧ d' ≤ d + 1) : BF T q (at_ + 1) m := by
 refine ⟨h.nd, h.mem, h.snd, h.fin, fun i z k u hi hz hk hlu hcu => ?_, h.srt, fun u k v e hu hk he => ?_⟩
 ·by_cases e : i = at_
  ·subst e
   rw [hx] at hz
   cases hz
   rw [hd] at hk
   cases hk
   exact hall u hlu hcu
  ·exact h.don i z k u (by omega) hz hk hlu hcu
 ·have h1 := h.srt at_ (at_ + 1) x u d k (by omega) hx hu hd hk
  have h2 := h.nxt x d v e hx hd he
  omega
theorem BF.done (h : BF T q q.length m) : DM T m := by
 refine ⟨h.snd, fun n => ?_⟩
 induction n with
 | zero => exact fun x hx => ⟨0, h.fin x hx, Nat.le_refl _⟩
 | succ n ih =>
  rintro x ⟨hc, y, hl, hy⟩
  obtain ⟨d, h1, h2⟩ := ih y hy
  obtain ⟨i, hi, hq⟩ := List.getElem_of_mem ((h.mem y).2 ⟨d, h1⟩)
  obtain ⟨d', h3, h4⟩ := h.don i y d x hi (by rw [List.getElem?_eq_getElem hi, hq]) h1 hl hc
  exact ⟨d', h3, by omega⟩
def zeroM (q : List Pr) : Pr → Option Nat := fun x => if x ∈ q then some 0 else none
theorem BF.start (hn : q.Nodup) (hq : ∀ x, x ∈ q ↔ T.R 0 x) : BF T q 0 (zeroM q) := by
 have hz : ∀ {x d}, zeroM q x = some d → x ∈ q ∧ d = 0 := fun {x d} h => by
  unfold zeroM at h
  split at h
  ·rename_i hx
   cases h
   exact ⟨hx, rfl⟩
  ·cases h
 refine ⟨hn, fun x => ⟨fun h => ⟨0, by simp [zeroM, h]⟩, fun ⟨d, h⟩ => (hz h).1⟩, fun x d h => ?_, fun x h => by simp [zeroM, (hq x).2 h], fun i x d y hi => by omega, fun i j x y d e _ _ _ h1 h2 => ?_, fun x d y e _ h1 h2 => ?_⟩
 ·obtain ⟨h1, rfl⟩ := hz h
  exact (hq x).1 h1
 ·rw [(hz h1).2, (hz h2).2]
  exact Nat.le_refl _
 ·rw [(hz h2).2]
  exact Nat.zero_le _
end
def LL (u w : List Nat) : Prop := (∃ r, w = u ++ r) ∨ ∃ p a b r s, u = p ++ a :: r ∧ w = p ++ b :: s ∧ a < b
structure LeastC (C : List Nat → Prop) (w : List Nat) : Prop where
 is : C w
 short : ∀ v, C v → w.length ≤ v.length
 lex : ∀ v, C v → v.length = w.length → LL w v
theorem LL.anti {u w : List Nat} (h1 : LL u w) (h2 : LL w u) (hl : u.length = w.length) : u = w := by
 rcases h1 with ⟨r, rfl⟩ | ⟨p, a, b, r, s, rfl, rfl, hab⟩
 ·have : r = [] := List.length_eq_zero_iff.1 (by simpa using hl.symm)
  simp [this]
 ·rcases h2 with ⟨r', e⟩ | ⟨p', a', b', r', s', e1, e2, hab'⟩
  ·rw [List.append_assoc, List.append_cancel_left_eq] at e
   cases e
   omega
  ·exfalso
   clear hl
   induction p generalizing p' with
   | nil =>
    cases p' with
    | nil =>
     cases e1
     cases e2
     omega
    | cons c p' =>
     cases e1
     cases e2
     omega
   | cons c p ih =>
    cases p' with
    | nil =>
     cases e1
     cases e2
     omega
    | cons c' p' =>
     simp only [List.cons_append, List.cons.injEq] at e1 e2
     exact ih p' e1.2 e2.2
theorem LeastC.uniq {C : List Nat → Prop} {u w : List Nat} (h1 : LeastC C u) (h2 : LeastC C w) : u = w := by
 have hl : u.length = w.length := Nat.le_antisymm (h1.short w h2.is) (h2.short u h1.is)
 exact (h1.lex w h2.is hl.symm).anti (h2.lex u h1.is hl) hl
structure Gr (T : Two) (N : Nat) (now : List Pr) (out : List Nat) (r : Nat) : Prop where
 len : out.length + r = N
 min : ∀ w, T.C w → N ≤ w.length
 lex : ∀ w, T.C w → w.length = N → LL out w
 snd : ∀ x ∈ now, ∀ u, T.PW x u → T.C (out ++ u)
 cmp : ∀ u, T.C (out ++ u) → u.length = r → 0 < r → ∃ x ∈ now, T.PW x u
 exi : ∃ u, u.length = r ∧ T.C (out ++ u)
section
variable {T : Two} {N r c : Nat} {now now' : List Pr} {out : List Nat} {m : Pr → Option Nat}
theorem Gr.least (h : Gr T N now out 0) : LeastC T.C out := by
 obtain ⟨u, hu, hc⟩ := h.exi
 have : u = [] := List.length_eq_zero_iff.1 hu
 subst this
 have hl := h.len
 rw [List.append_nil] at hc
 exact ⟨hc, fun v hv => by have := h.min v hv; omega, fun v hv e => h.lex v hv (by omega)⟩
theorem Gr.far (h : Gr T N now out (r + 1)) (hm : DM T m) {x : Pr} {d : Nat} (hx : x ∈ now) (hd : m x = some d) : r ≤ d := by
 obtain ⟨w, h1, h2⟩ := (T.R_iff d x).1 (hm.snd x d hd)
 have := h.min _ (h.snd x hx w h2)
 rw [List.length_append] at this
 have := h.len
 omega
theorem Gr.dist (h : Gr T N now out (r + 1)) (hm : DM T m) {x : Pr} {u : List Nat} (hx : x ∈ now) (hu : u.length = r + 1) (hp : T.PW x u) : m x = some r := by
 obtain ⟨d, h1, h2⟩ := hm.all r x ((T.R_iff r x).2 ⟨u, hu, hp⟩)
 have := h.far hm hx h1
 rw [h1]
 congr 1
 omega
theorem Gr.pick (h : Gr T N now out (r + 1)) (hm : DM T m) : ∃ x ∈ now, m x = some r := by
 obtain ⟨u, hu, hc⟩ := h.exi
 obtain ⟨x, hx, hp⟩ := h.cmp u hc hu (by omega)
 exact ⟨x, hx, h.dist hm hx hu hp⟩
theorem Gr.step (h : Gr T N now out (r + 1)) (hm : DM T m) (hc1 : ∃ x ∈ now, m x = some r ∧ T.acc x c) (hc2 : ∀ x ∈ now, m x = some r → ∀ b, T.acc x b → c ≤ b)
  (hn : ∀ y, y ∈ now' ↔ ∃ x ∈ now, m x = some r ∧ T.acc x c ∧ T.lnk x y ∧ T.cm y) : Gr T N now' (out ++ [c]) r := by
 have app : ∀ u, out ++ [c] ++ u = out ++ c :: u := fun u => by simp
 refine ⟨by have := h.len; simp; omega, h.min, fun w hw hl => ?_, fun y hy u hu => ?_, fun u hu hl hr => ?_, ?_⟩
 ·rcases h.lex w hw hl with ⟨t, rfl⟩ | ⟨p, a, b, t, s, rfl, rfl, hab⟩
  ·have htl : t.length = r + 1 := by have := h.len; simp at hl; omega
   cases t with
   | nil => simp at htl
   | cons b t =>
    obtain ⟨x, hx, hp⟩ := h.cmp _ hw htl (by omega)
    have hb := hc2 x hx (h.dist hm hx htl hp) b hp.1
    rcases Nat.lt_or_eq_of_le hb with h1 | h1
    ·exact .inr ⟨out, c, b, [], t, rfl, rfl, h1⟩
    ·subst h1
     exact .inl ⟨t, by simp⟩
  ·exact .inr ⟨p, a, b, t ++ [c], s, by simp, rfl, hab⟩
 ·rw [app]
  obtain ⟨x, hx, _, ha, hl, _⟩ := (hn y).1 hy
  exact h.snd x hx (c :: u) ⟨ha, .inr ⟨y, hl, hu⟩⟩
 ·rw [app] at hu
  obtain ⟨x, hx, hp⟩ := h.cmp (c :: u) hu (by simp [hl]) (by omega)
  rcases hp with ⟨ha, ⟨e, _⟩ | ⟨y, hxy, hy⟩⟩
  ·rw [e] at hl
   simp at hl
   omega
  ·exact ⟨y, (hn y).2 ⟨x, hx, h.dist hm hx (u := c :: u) (by simp [hl]) ⟨ha, .inr ⟨y, hxy, hy⟩⟩, ha, hxy, Two.PW_cm hy⟩, hy⟩
 ·obtain ⟨x, hx, hd, ha⟩ := hc1
  obtain ⟨w, h1, h2⟩ := (T.R_iff r x).1 (hm.snd x r hd)
  cases w with
  | nil => simp at h1
  | cons b w => exact ⟨w, by simpa using h1, by rw [app]; exact h.snd x hx (c :: w) ⟨ha, h2.2⟩⟩
theorem Gr.start {q : List Pr} (hm : DM T m) (hq : ∀ x, x ∈ q ↔ T.ini x ∧ T.cm x) {d : Nat} (h1 : ∃ x ∈ q, m x = Option.some d) (h2 : ∀ x ∈ q, ∀ e, m x = Option.some e → d ≤ e) : Gr T (d + 1) q [] (d + 1) := by
 have hC : ∀ w, T.C w ↔ ∃ x ∈ q, T.PW x w := fun w => ⟨fun ⟨x, hx, hp⟩ => ⟨x, (hq x).2 ⟨hx, Two.PW_cm hp⟩, hp⟩, fun ⟨x, hx, hp⟩ => ⟨x, ((hq x).1 hx).1, hp⟩⟩
 refine ⟨by simp, fun w hw => ?_, fun w _ _ => .inl ⟨w, rfl⟩, fun x hx u hu => (hC u).2 ⟨x, hx, hu⟩, fun u hu _ _ => (hC u).1 hu, ?_⟩
 ·obtain ⟨x, hx, hp⟩ := (hC w).1 hw
  cases hw : w with
  | nil => rw [hw] at hp; exact hp.elim
  | cons b v =>
   obtain ⟨e, h3, h4⟩ := hm.all v.length x ((T.R_iff _ x).2 ⟨w, by simp [hw], hp⟩)
   have := h2 x hx e h3
   simp
   omega
 ·obtain ⟨x, hx, hd⟩ := h1
  obtain ⟨w, h3, h4⟩ := (T.R_iff d x).1 (hm.snd x d hd)
  exact ⟨w, h3, (hC w).2 ⟨x, hx, h4⟩⟩
theorem no_word {q : List Pr} (hm : DM T m) (hq : ∀ x, x ∈ q ↔ T.ini x ∧ T.cm x) (h : ∀ x ∈ q, m x = none) (w : List Nat) : ¬ T.C w := by
 rintro ⟨x, hx, hp⟩
 cases w with
 | nil => exact hp.elim
 | cons b v =>
  obtain ⟨e, h3, _⟩ := hm.all v.length x ((T.R_iff _ x).2 ⟨b :: v, by simp, hp⟩)
  rw [h x ((hq x).2 ⟨hx, ⟨b, hp.1⟩⟩)] at h3
  cases h3
end
end Go.Proofs.YtnjcgpihfmklfaaDoor
namespace Go.Proofs.YtnjcgpihfmklfaaDoor
open Go Go.Proofs.Tryd
set_option maxRecDepth 10000
theorem plA_set (P : Nat → Bool) {i : Nat} (hi : i < 512) : (plA P).toList.set (i / 64) (u64v (wd (fun j => P j || decide (j = i)) (i / 64))) = (plA fun j => P j || decide (j = i)).toList := by
 have eo : ∀ k, k ≠ i / 64 → k < 8 → wd P k = wd (fun j => P j || decide (j = i)) k := fun k hk _ => bt_congr fun j hj => by
  show P (64 * k + j) = (P (64 * k + j) || decide (64 * k + j = i))
  rw [show decide (64 * k + j = i) = false by simp; omega, Bool.or_false]
 apply List.ext_getElem?
 intro k
 rw [List.getElem?_set]
 by_cases hk8 : k < 8
 ·have g1 : ∀ (Q : Nat → Bool), (plA Q).toList[k]? = some (u64v (wd Q k)) := fun Q => by rw [Array.getElem?_toList]; exact plA_get Q hk8
  rw [g1, g1]
  by_cases hik : i / 64 = k
  ·rw [if_pos hik, if_pos (by show i / 64 < 8; omega), hik]
  ·rw [if_neg hik, eo k (fun e => hik e.symm) hk8]
 ·have g2 : ∀ (Q : Nat → Bool), (plA Q).toList[k]? = none := fun Q => List.getElem?_eq_none (by show 8 ≤ k; omega)
  rw [g2, g2, if_neg (by omega)]
section
variable {F : PH}
theorem addS_spec {b : Nat} {e : TypeId} {pre post : List Value} {P : Nat → Bool} {i : Nat} (hi : i < 512) (h : SetB F b e pre P post) :
  Spec prog 70 #[.pointer (some ⟨b, pre.length, none⟩), vi i] F fun r F' => r = .tuple #[] ∧ F' = F.set b (.cells (pre ++ (plA fun j => P j || decide (j = i)).toList ++ post).toArray e) := by
 refine c70 ?_
 unfold b70
 have e1 : IntKind.i64.wrap (Int.tdiv (i : Int) 64) = ((i / 64 : Nat) : Int) := by rw [show Int.tdiv (i : Int) 64 = ((i / 64 : Nat) : Int) from rfl, w64_eq (by omega) (by omega)]
 have e2 : Int.tmod (i : Int) 64 = ((i % 64 : Nat) : Int) := rfl
 rw [e1, e2]
 have ek : Int.toNat ((i / 64 : Nat) : Int) * 1 = i / 64 := by rw [Int.toNat_natCast, Nat.mul_one]
 rw [ek]
 have h8 : i / 64 < 8 := by omega
 have hc : F.cell ((Addr.mk b pre.length none).add (i / 64)) = some (u64v (wd P (i / 64))) := by
  have := h.row (i / 64) (by exact h8)
  rw [this, ← plA_get P h8]
  exact (Array.getElem?_eq_getElem _).symm
 have hsz : pre.length + i / 64 < (pre ++ (plA P).toList ++ post).toArray.size := by
  rw [List.size_toArray, List.length_append, List.length_append]
  have : (plA P).toList.length = 8 := rfl
  omega
 refine ⟨_, rfl, by omega, by omega, _, hc, by omega, by omega, by omega, ?_⟩
 refine st1' (b := b) (o := pre.length + i / 64) (by rw [add_off]) h hsz ⟨rfl, ?_⟩
 have hp : 2 ^ (i % 64) < 18446744073709551616 := by
  have : 2 ^ (i % 64) < 2 ^ 64 := Nat.pow_lt_pow_right (by omega) (by omega)
  exact this
 have ep : IntKind.u64.wrap ((1 : Int) * 2 ^ (min (Int.toNat ((i % 64 : Nat) : Int)) (IntKind.u64).bits)) = ((2 ^ (i % 64) : Nat) : Int) := by
  have hm : min (Int.toNat ((i % 64 : Nat) : Int)) (IntKind.u64).bits = i % 64 := by
   rw [Int.toNat_natCast]
   show min (i % 64) 64 = i % 64
   omega
  rw [hm]
  have : (1 : Int) * 2 ^ (i % 64) = ((2 ^ (i % 64) : Nat) : Int) := by simp
  rw [this]
  exact wu64_eq (Int.natCast_nonneg _) (Int.ofNat_lt.2 hp)
 rw [ep, u64_or (wd_lt P _) hp]
 have ew : wd P (i / 64) ||| 2 ^ (i % 64) = wd (fun j => P j || decide (j = i)) (i / 64) := by
  refine bt_eq (Nat.or_lt_two_pow (wd_lt P _) hp) fun j hj => ?_
  rw [Nat.testBit_or, wd_bit P _ hj, Nat.testBit_two_pow]
  congr 1
  rw [Bool.eq_iff_iff]
  simp
  omega
 rw [ew, ← plA_set P hi]
 congr 2
 apply Array.ext'
 rw [Array.toList_setIfInBounds]
 show (pre ++ (plA P).toList ++ post).set (pre.length + i / 64) _ = _
 rw [List.append_assoc, List.set_append, if_neg (by omega), Nat.add_sub_cancel_left, List.set_append, if_pos (by exact h8)]
 exact (List.append_assoc _ _ _).symm
theorem flat_add {bf n k i : Nat} {R : Nat → Nat → Bool} (hk : k < n) (hi : i < 512) (h : F bf = some (.cells (flatR n R).toArray 76)) :
  Spec prog 70 #[.pointer (some ((Addr.mk bf 0 none).add (k * 8))), vi i] F fun r F' => r = .tuple #[] ∧ F' = F.set bf (.cells (flatR n (fun k' j => R k' j || (decide (k' = k) && decide (j = i)))).toArray 76) := by
 obtain ⟨pre, post, hpre, hsp, hup⟩ := flatR_split hk R
 have hs : SetB F bf 76 pre (R k) post := by unfold SetB; rw [← hsp]; exact h
 have ea : (Addr.mk bf 0 none).add (k * 8) = ⟨bf, pre.length, none⟩ := by rw [add_off, Nat.zero_add, hpre]
 rw [ea]
 refine (addS_spec hi hs).mono ?_
 rintro _ F' ⟨rfl, rfl⟩
 refine ⟨rfl, ?_⟩
 rw [hup (fun k' j => R k' j || (decide (k' = k) && decide (j = i))) fun j hj => by funext x; simp [hj]]
 have : (fun j => R k j || (decide (k = k) && decide (j = i))) = fun j => R k j || decide (j = i) := by funext j; simp
 rw [this]
noncomputable def bwd (t : Lt) (i m : Nat) : Nat → Nat → Bool := fun k j => (decide (j < i) && foB t j k) || (decide (j = i) && decide (k < m) && foB t i k)
theorem bwd_skip {t : Lt} {i m : Nat} (h : foB t i m = false) : bwd t i (m + 1) = bwd t i m := by
 funext k j
 unfold bwd
 by_cases hk : k = m
 ·subst hk; simp [h]
 ·rw [show decide (k < m + 1) = decide (k < m) by rw [Bool.eq_iff_iff]; simp; omega]
theorem bwd_add {t : Lt} {i m : Nat} (h : foB t i m = true) : bwd t i (m + 1) = fun k j => bwd t i m k j || (decide (k = m) && decide (j = i)) := by
 funext k j
 unfold bwd
 by_cases hk : k = m
 ·subst hk
  simp [h]
 ·rw [show decide (k < m + 1) = decide (k < m) by rw [Bool.eq_iff_iff]; simp; omega]
  simp [hk]
theorem bwd_next {t : Lt} {i n : Nat} (hn : n ≤ 512) : flatR n (bwd t i 512) = flatR n (bwd t (i + 1) 0) := flatR_congr fun k hk => by
 funext j
 unfold bwd
 rw [show decide (k < 512) = true by simp; omega]
 by_cases hj : j = i
 ·subst hj; simp
 ·rw [show decide (j < i + 1) = decide (j < i) by rw [Bool.eq_iff_iff]; simp; omega]
  simp [hj]
theorem bwd_zero {t : Lt} : bwd t 0 0 = noR := by funext k j; simp [bwd, noR]
theorem bwd_all {t : Lt} {n : Nat} (hf : ∀ i j, t.fol i j → i < n) : bwd t n 0 = fun k j => foB t j k := by
 funext k j
 unfold bwd
 by_cases hj : j < n
 ·simp [hj]
 ·have : foB t j k = false := by
   rw [← Bool.not_eq_true, foB_iff]
   exact fun h => hj (hf j k h)
  simp [hj, this]
theorem cb83' : callableB prog 83 = true := by kernel_rfl
theorem before_spec (hT : Tab F) {bm : Nat} {l : List Nd} {t : Lt} (hM : Mch F bm l t) (hl : l.length ≤ 512) (hf : ∀ i j, t.fol i j → i < l.length ∧ j < l.length) :
  Spec prog 82 #[pa bm] F fun r F' => (∃ b, r = Sl.v ⟨some ⟨b, 0, none⟩, l.length, l.length⟩ ∧ F' b = some (.cells (flatR l.length (fun k j => foB t j k)).toArray 76)) ∧ F.le F' := by
 refine c82 ?_
 unfold b82
 obtain ⟨s, bf, qm, hs, qf⟩ := hM.ex
 have hlen := hs.nlen
 have cm : ∀ {F' : PH}, F.le F' → F'.cell (Addr.mk bm 0 none) = some s.v := fun hle => le_cell hle (by rw [cell_eq qm]; rfl)
 have cf : ∀ {F' : PH}, F.le F' → F'.cell ((Addr.mk bm 0 none).add 17) = some (Sl.v ⟨some ⟨bf, 0, none⟩, l.length, l.length⟩) := fun hle => le_cell hle (by rw [add_off, Nat.zero_add, cell_eq qm]; rfl)
 refine ⟨_, rfl, s, cm (le_refl' F), ?_⟩
 refine runs_makeSlice underlying77 sz76' zr76' rfl (by omega) (Int.le_refl _) (by omega) (by omega) ?_
 intro bo hbo
 rw [zc8, Int.toNat_natCast, hlen]
 have h := (Lo.start F).new' (flatR l.length noR).toArray 76 hbo
 generalize F.set bo (.cells (flatR l.length noR).toArray 76) = F1 at *
 refine ⟨_, rfl, ?_⟩
 refine h.new _ _ fun b3 F2 h => ?_
 refine Lo.put1 [] [(bo, _, 76)] (b := b3) (i := 0) (w0 := #[.slice none 0 0]) (w := #[Sl.v ⟨some ⟨bo, 0, none⟩, l.length, l.length⟩]) (e := 77) h (by simp) rfl fun F3 h => ?_
 refine ⟨s, cm h.le, ?_⟩
 refine ⟨fun m i F' => ∃ w : Nat, i = w ∧ w ≤ l.length ∧ m = l.length - w ∧ Lo F F' [(b3, #[Sl.v ⟨some ⟨bo, 0, none⟩, l.length, l.length⟩], 77), (bo, (flatR l.length (bwd t w 0)).toArray, 76)], l.length, ⟨0, rfl, by omega, by omega, by rw [bwd_zero]; exact h⟩, ?_⟩
 clear h
 rintro _ _ F4 ⟨w, rfl, hw, rfl, h⟩
 unfold b82L1
 refine ⟨fun hlt => ?_, fun hge => ?_⟩
 ·have hw' : w < l.length := by omega
  refine h.new _ _ fun b4 F5 h => ?_
  refine Lo.put1 [] [(b3, _, 77), (bo, _, 76)] (b := b4) (i := 0) (w0 := #[vi 0]) (w := #[vi w]) (e := 3) h (by simp) rfl fun F6 h => ?_
  have c4 : ∀ {F' : PH}, Lo F F' [(b4, #[vi w], 3), (b3, #[Sl.v ⟨some ⟨bo, 0, none⟩, l.length, l.length⟩], 77), (bo, (flatR l.length (bwd t w 512)).toArray, 76)] → F'.cell (Addr.mk b4 0 none) = some (vi w) := fun h => by rw [h.cell (b := b4) (w := #[vi w]) (e := 3) (by simp)]; rfl
  refine ⟨_, cf h.le, (w : Int), by rw [h.cell (b := b4) (w := #[vi w]) (e := 3) (by simp)]; rfl, _, rfl, by omega, by simp only; omega, ?_⟩
  rw [Int.toNat_natCast]
  refine (each_spec (a := (Addr.mk bf 0 none).add (w * 8)) (P := foB t w) (k := 83) (cap := #[pa b3, pa b4]) (Inv := fun m F' => Lo F F' [(b4, #[vi w], 3), (b3, #[Sl.v ⟨some ⟨bo, 0, none⟩, l.length, l.length⟩], 77), (bo, (flatR l.length (bwd t w m)).toArray, 76)]) cb83' (by rw [add_off])
   (fun m F' hI => ⟨hT.le hI.le, flat_row (hI.le _ _ qf) hw'⟩) (fun k F' hk hq hI => by rw [bwd_skip hq]; exact hI) (fun k F' hk hq hI => ?_) h).mono ?_
  ·show Spec prog 83 #[vi k, pa b3, pa b4] F' _
   refine c83 ?_
   unfold b83
   have hkl := (hf w k (foB_iff.1 hq)).2
   refine ⟨_, rfl, _, by rw [hI.cell (b := b3) (w := #[Sl.v ⟨some ⟨bo, 0, none⟩, l.length, l.length⟩]) (e := 77) (by simp)]; rfl, _, rfl, by omega, by simp only; omega, _, rfl, (w : Int), by rw [hI.cell (b := b4) (w := #[vi w]) (e := 3) (by simp)]; rfl, ?_⟩
   rw [Int.toNat_natCast]
   refine (flat_add hkl (by omega) (hI.get (b := bo) (w := (flatR l.length (bwd t w k)).toArray) (e := 76) (by simp))).mono ?_
   rintro _ F'' ⟨rfl, hF⟩
   rw [bwd_add hq]
   have h' := Lo.upd [(b4, #[vi w], 3), (b3, #[Sl.v ⟨some ⟨bo, 0, none⟩, l.length, l.length⟩], 77)] [] (b := bo) (w0 := (flatR l.length (bwd t w k)).toArray) (e := 76) hI (F' := F'') (by rw [hF]; exact set_eq _ _ _) (by rw [hF]; exact Keep.set _ (.inl rfl))
   exact ⟨rfl, by rw [h'.cell (b := b3) (w := #[Sl.v ⟨some ⟨bo, 0, none⟩, l.length, l.length⟩]) (e := 77) (by simp)]; rfl, rfl, h'⟩
  ·rintro _ F7 ⟨rfl, h⟩
   refine ⟨rfl, c4 h, cf h.le, l.length - (w + 1), by omega, w + 1, w64s (by omega), by omega, rfl, ?_⟩
   rw [← bwd_next hl]
   exact h.sub (.cons _ (List.Sublist.refl _))
 ·obtain rfl : w = l.length := by omega
  unfold b82j1
  rw [bwd_all fun i j h => (hf i j h).1] at h
  exact ⟨_, by rw [h.cell (b := b3) (w := #[Sl.v ⟨some ⟨bo, 0, none⟩, l.length, l.length⟩]) (e := 77) (by simp)]; rfl, ⟨bo, rfl, h.get (by simp)⟩, h.le⟩
end
end Go.Proofs.YtnjcgpihfmklfaaDoor
