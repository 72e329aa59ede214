/-
  KeepsValidity: the walk.
-/
import Derived.Test.YtenpmjhnhepfdaaGreatDoorJc
namespace Go.Proofs.YtenpmjhnhepfdaaGreatDoor
open Go Go.Proofs.Tryz Tr
set_option maxRecDepth 10000
theorem St.elz {G F:PH} {As:List (PH→Prop)} {s:Sl} {e n k:Nat} {vs:List (Array Value)} {c:Array Value} (h:St G F As) (i:Nat) (hi:As[i]? =some (own s e n (cat vs))) (hn:∀d∈vs,d.size=n) (hk:vs[k]? =some c) (h0:0<n)
  {v:Value} {C:PH→Prop} (kk:∀F',St G F' (As.set i (own s e n (cat (vs.set k (c.setIfInBounds 0 v)))))→C F'):
  ∃a:Addr,s.base=some a∧0≤(k:Int)∧(k:Int)<(s.len:Int)∧sto F (Addr.add a (Int.toNat (k:Int)*n)) v C:=by
 obtain ⟨a,h1,h2,h3,h4⟩:=h.el1 i hi hn hk h0 h0 kk
 exact ⟨a,h1,h2,h3,h4⟩
theorem Og {n:Nat} {o:Op2} {a b:Tr} (ha:Sx n a) (hb:Sx n b) (hn:n≤6):bin o (dia a) (dia b)=(dia (ap2 o a b),0):=by
 rw [Ir (ha.small hn) (hb.small hn)]
 exact z6 ((ha.ap2 hb).small hn)
theorem RL.cut {α:Type} [Mem α] {G:PH} {s:Sl} {l:List α} {n k:Nat} (h:RL G s l) (hn:Mem.n α=n) (hk:k≤s.len):RL G (Sl.cut s n 0 k s.cap) (l.take k):=by
 subst hn
 obtain ⟨vs,hr,hd⟩:=h
 refine ⟨vs.take k,hr.take k,?_⟩
 have:=hd.cut (l:=0) (r:=k) (m:=s.cap) (by omega) hk (by have:=hd.cap;omega)
 rw [Nat.zero_mul,List.drop_zero,Nat.sub_zero,hr.cat_take] at this
 exact this
section
variable {F G F1:PH} {b8 b9:Nat} {g:Gr} {c m t s p l f:Sl} {part:Nat} {d:Dia} {kc kt kn kp:Nat} {tk:Tk} {pr:Pr}
structure KK (F G:PH) (g:Gr) (c m t s p l f:Sl) (b8:Nat):Prop where
 lF:F.le G
 hT:Tab G
 gs:GS G g c m t s p l f
 q8:G b8=some (.cells (g.arr c m t s p l f) 39)
 mg:MG g
 bd:Bd g 18 10
theorem KK.le {G':PH} (h:KK F G g c m t s p l f b8) (hl:G.le G'):KK F G' g c m t s p l f b8:=⟨aa h.lF hl,h.hT.le hl,h.gs.le hl,hl _ _ h.q8,h.mg,h.bd⟩
theorem y6 (K:KK F G g c m t s p l f b8) {c' m' t' s' p' l' f':Sl} (hg:GS G (eg g d kc kt kn kp tk pr) c' m' t' s' p' l' f') (hd:SxD g.conds.length d) (hd0:d.2≠0) (ht:g.toks[kt]? =some tk) (hp:g.prods[kp]? =some pr) (hk:kn<g.nons.length)
  (st:St G F1 [pt b9 (.cells ((eg g d kc kt kn kp tk pr).arr c' m' t' s' p' l' f') 39)]):xg true b8 b9 (RT F) F1:=by
 obtain ⟨G1,l1,⟨H,hA,hH⟩,h⟩:=st.pin
 have q9:=hH _ _ hA
 replace K:=K.le l1
 replace hg:=hg.le l1
 have gv:GV G1 (g.arr c m t s p l f) g:=⟨_,_,_,_,_,_,_,rfl,K.gs⟩
 have gv':GV G1 ((eg g d kc kt kn kp tk pr).arr c' m' t' s' p' l' f') (eg g d kc kt kn kp tk pr):=⟨_,_,_,_,_,_,_,rfl,hg⟩
 unfold xg
 refine ⟨_,rfl,aj (h.le _ _ K.q8),?_⟩
 refine h.runv (cP K.hT gv (K.mg.sz K.bd) (ff.2 (K.mg.ok K.bd (by decide) (by decide)))) fun G2 F2 l2 h=>⟨_,rfl,fun _=>⟨_,rfl,aj (h.le _ _ (l2 _ _ q9)),?_⟩,fun hc=>absurd rfl hc⟩
 refine h.runv (cP (K.hT.le l2) (gv'.le l2) (Dm K.mg K.bd ht) (ff.2 (Dk K.mg K.bd (by decide) (by decide) hd hd0 ht hp))) fun G3 F3 l3 h=> ?_
 have l23:=aa l2 l3
 refine ⟨_,rfl,fun _=>⟨_,rfl,aj (h.le _ _ (l23 _ _ K.q8)),_,rfl,aj (h.le _ _ (l23 _ _ q9)),?_⟩,fun hc=>absurd rfl hc⟩
 refine h.runv (vH (gv.le l23) (gv'.le l23) (K.mg.sm K.bd (by decide) (by decide))) fun G4 F4 l4 h=> ?_
 rw [decide_eq_false (Dl K.mg hk)]
 exact ⟨_,rfl,fun _=>⟨rfl,aa K.lF (aa l23 (aa l4 h.le))⟩,fun hc=>(by cases hc)⟩
theorem tL (K:KK F G g c m t s p l f b8) {b10:Nat} {w:Array Value} {c' t' s' p' l' f':Sl} (hg:GS G (eg g g.fam kc kt kn kp tk pr) c' m t' s' p' l' f') (hw:DV G w d) (q10:G b10=some (.cells w 33)) (hd:SxD g.conds.length d) (ht:g.toks[kt]? =some tk) (hp:g.prods[kp]? =some pr) (hk:kn<g.nons.length)
  (st:St G F1 [pt b9 (.cells ((eg g g.fam kc kt kn kp tk pr).arr c' m t' s' p' l' f') 39)]):tU true b8 b9 (some (Addr.mk b10 0 none)) 0 (RT F) F1:=by
 have hcl:=K.bd.c
 unfold tU
 refine ⟨fun hc=>absurd rfl hc,fun _=>⟨_,rfl,w,hw.size,aj (st.le _ _ q10),?_⟩⟩
 refine st.run (P:=fun r G=>∃w,r=.agg w∧DV G w (dia (leaf false))) ((je false).mono fun r F' ⟨w,h1,h2,h3⟩=>⟨⟨w,h1,h2⟩,h3⟩) fun r G2 F2 hr l2 h=> ?_
 obtain ⟨w2,rfl,hw2⟩:=hr
 refine ⟨_,rfl,aj (h.le _ _ (l2 _ _ q10)),?_⟩
 refine h.runv (lH (hw.le l2) hw2 (by have:=hd.len (by omega);unfold Fit;omega)) fun G3 F3 l3 h=>⟨_,rfl,fun hc=> ?_,fun hc=> ?_⟩
 ·have hne:¬d=dia (leaf false):=by simpa using hc
  have l23:=aa l2 l3
  obtain ⟨n,rfl,hn⟩:=hw.out
  refine ⟨_,hw.size,aj (h.le _ _ (l23 _ _ q10)),?_⟩
  refine h.putR0 (w':=(eg g d kc kt kn kp tk pr).arr c' n t' s' p' l' f') rfl (by simp [ak,Sl.v]) (by show 1+2≤9;decide) rfl fun F4 h=> ?_
  replace hg:=hg.le l23
  have hd0:d.2≠0:=fun e=>by
   obtain ⟨u,_,rfl⟩:=hd
   exact hne (by rw [jC e])
  exact y6 (d:=d) (K.le l23) ⟨hg.c,hn.le l23,hg.t,hg.s,hg.p,hg.l,hg.f⟩ hd hd0 ht hp hk h
 ·obtain ⟨u,hu,hu0,e⟩:=K.mg.fam
  exact y6 (K.le (aa l2 l3)) (hg.le (aa l2 l3)) ⟨u,hu,e⟩ (by rw [e];exact fun e=>hu0 (jC e)) ht hp hk h
theorem y7 (K:KK F G g c m t s p l f b8) {c' t' s' p' l' f':Sl} (hpt:part<256) (hg:GS G (eg g g.fam kc kt kn kp tk pr) c' m t' s' p' l' f') (ht:g.toks[kt]? =some tk) (hp:g.prods[kp]? =some pr) (hk:kn<g.nons.length)
  (st:St G F1 [pt b9 (.cells ((eg g g.fam kc kt kn kp tk pr).arr c' m t' s' p' l' f') 39)]):xh (part:Int) true b8 b9 (RT F) F1:=by
 have hcl:=K.bd.c
 have ec:=K.gs.c.len (by decide)
 obtain ⟨u,hu,_,eu⟩:=K.mg.fam
 have hb:∀{F:PH} {w w2:Array Value},DV F w g.fam→DV F w2 (dia (fN part g.conds.length))→ae prog 27 #[.agg w,.agg w2] F fun r F'=>(∃v,r=.tuple #[.agg v,vi 0]∧DV F' v (dia (ap2 fL u (fN part g.conds.length))))∧F.le F':=fun h1 h2=>(Co h1 h2).mono fun r F' ⟨⟨v,e1,e2⟩,e3⟩=>by
  rw [eu,Og hu (gl (by omega)) (by omega)] at e1 e2
  exact ⟨⟨v,e1,e2⟩,e3⟩
 have hd:SxD g.conds.length (dia (ap2 fL u (fN part g.conds.length))):=⟨_,hu.ap2 (gl (by omega)),rfl⟩
 have gv:DV G #[m.v,vi g.fam.2] g.fam:=.mk K.gs.n
 have hset:=fun F=>oe part g.conds.length hpt (by omega) F
 have r8:∀{F':PH},G.le F'→F'.row (Addr.mk b8 1 none) #[m.v,vi g.fam.2]:=fun hl=>fd (hl _ _ K.q8) rfl
 have c8:∀{F':PH},G.le F'→F'.cell (Addr.mk b8 0 none)=some (Sl.v c):=fun hl=>ld (hl _ _ K.q8) rfl
 unfold xh
 refine ⟨_,rfl,r8 st.le,_,c8 st.le,⟨?_,?_⟩⟩
 ·rw [ec]
  refine st.run (hset _) fun _ G2 F2 hr l2 h=> ?_
  obtain ⟨⟨w2,rfl,hw2⟩,_⟩:=hr
  refine ⟨_,rfl,c8 (aa l2 h.le),r8 (aa l2 h.le),⟨?_,?_⟩⟩
  ·refine h.run (hb (gv.le l2) hw2) fun _ G3 F3 hr l3 h=> ?_
   obtain ⟨w3,rfl,hw3⟩:=hr
   have l23:=aa l2 l3
   refine ⟨_,_,rfl,c8 (aa l23 h.le),?_⟩
   refine h.var hw3.st (fun b G4 F4 l4 q h=> ?_) rfl hw3.size
   have l24:=aa l23 l4
   exact tL (K.le l24) (hg.le l24) (hw3.le l4) q hd ht hp hk h
  ·refine h.new fun b10 F3 h=> ?_
   refine h.run (hb (gv.le l2) hw2) fun _ G3 F4 hr l3 h=> ?_
   obtain ⟨w3,rfl,hw3⟩:=hr
   have l23:=aa l2 l3
   refine ⟨_,_,rfl,c8 (aa l23 h.le),?_⟩
   refine h.put0 (w':=w3) hw3.size rfl hw3.st fun F5 h=> ?_
   obtain ⟨G4,l4,q,h⟩:=h.pinE
   have l24:=aa l23 l4
   exact tL (K.le l24) (hg.le l24) (hw3.le l4) q hd ht hp hk h
 ·refine st.new fun b10 F3 h=> ?_
  rw [ec]
  refine h.run (hset _) fun _ G2 F2 hr l2 h=> ?_
  obtain ⟨⟨w2,rfl,hw2⟩,_⟩:=hr
  refine ⟨_,rfl,c8 (aa l2 h.le),r8 (aa l2 h.le),?_⟩
  refine h.run (hb (gv.le l2) hw2) fun _ G3 F4 hr l3 h=> ?_
  obtain ⟨w3,rfl,hw3⟩:=hr
  have l23:=aa l2 l3
  refine ⟨_,_,rfl,c8 (aa l23 h.le),?_⟩
  refine h.put0 (w':=w3) hw3.size rfl hw3.st fun F5 h=> ?_
  obtain ⟨G4,l4,q,h⟩:=h.pinE
  have l24:=aa l23 l4
  exact tL (K.le l24) (hg.le l24) (hw3.le l4) q hd ht hp hk h
theorem u9 {α:Type} [Mem α] {s:Sl} {l:List α} {n:Nat} (h:RL G s l) (hn:Mem.n α=n) (h0:0<n) (hl:l.length≤1000):
  (0<s.len→(0≤IntKind.i64.wrap ((s.len:Int) - 1)∧0≤Int.toNat (IntKind.i64.wrap ((s.len:Int) - 1))∧Int.toNat (IntKind.i64.wrap ((s.len:Int) - 1))≤s.cap)∧RL G (Sl.cut s n 0 (Int.toNat (IntKind.i64.wrap ((s.len:Int) - 1))) s.cap) l.dropLast)∧(¬0<s.len→RL G s l.dropLast):=by
 have e:=h.len (by omega)
 have hc:=h.cap
 refine ⟨fun hp=> ?_,fun hp=> ?_⟩
 ·have ew:IntKind.i64.wrap ((s.len:Int) - 1)=((s.len - 1:Nat):Int):=by rw [aO (by omega) (by omega)];omega
  rw [ew,Int.toNat_natCast]
  refine ⟨⟨by omega,by omega,by omega⟩,?_⟩
  have:=h.cut hn (k:=s.len - 1) (by omega)
  rw [e] at this ⊢
  rw [List.dropLast_eq_take]
  exact this
 ·have:l=[]:=List.eq_nil_of_length_eq_zero (by omega)
  rw [this] at h ⊢
  exact h
theorem E1 (K:KK F G g c m t s p l f b8) {c' t' s' p':Sl} (hpt:part<256) (hc:RL G c' (g.conds.set kc eV)) (htk:RL G t' (g.toks.set kt {tk with name:=gh})) (hsn:RL G s' (g.nons.set kn eU)) (hpp:RL G p' (g.prods.set kp {pr with name:=gi})) (ht:g.toks[kt]? =some tk) (hp:g.prods[kp]? =some pr) (hk:kn<g.nons.length)
  (st:St G F1 [pt b9 (.cells (g.arr c' m t' s' p' l f) 39)]):tV (part:Int) true b8 b9 (RT F) F1:=by
 have hl:=K.bd.l
 have hf:=K.bd.f
 obtain ⟨f1,f2⟩:=u9 K.gs.f (n:=9) rfl (by decide) (by omega)
 obtain ⟨l1,l2⟩:=u9 K.gs.l (n:=4) rfl (by decide) (by omega)
 have j2:∀{f':Sl} {F2:PH},RL G f' g.fils.dropLast→St G F2 [pt b9 (.cells (g.arr c' m t' s' p' l f') 39)]→xj (part:Int) true b8 b9 (RT F) F2:=fun {f' F2} hf' st=>by
  unfold xj
  refine ⟨_,st.ld0 rfl,fun h0=> ?_,fun h0=> ?_⟩
  ·obtain ⟨⟨a1,a2,a3⟩,a4⟩:=l1 (by omega)
   refine ⟨_,st.ld0 rfl,_,st.ld0 rfl,a1,a2,a3,?_⟩
   refine st.set0 (w':=g.arr c' m t' s' p' (Sl.cut l 4 0 (Int.toNat (IntKind.i64.wrap ((l.len:Int) - 1))) l.cap) f') (by show 7<9;decide) rfl fun F3 st=> ?_
   exact y7 K hpt ⟨hc,K.gs.n,htk,hsn,hpp,a4,hf'⟩ ht hp hk st
  ·exact y7 K hpt ⟨hc,K.gs.n,htk,hsn,hpp,l2 (by omega),hf'⟩ ht hp hk st
 unfold tV
 refine ⟨_,st.ld0 rfl,fun h0=> ?_,fun h0=> ?_⟩
 ·obtain ⟨⟨a1,a2,a3⟩,a4⟩:=f1 (by omega)
  refine ⟨_,st.ld0 rfl,_,st.ld0 rfl,a1,a2,a3,?_⟩
  refine st.set0 (w':=g.arr c' m t' s' p' l (Sl.cut f 9 0 (Int.toNat (IntKind.i64.wrap ((f.len:Int) - 1))) f.cap)) (by show 8<9;decide) rfl fun F3 st=> ?_
  exact j2 a4 st
 ·exact j2 (f2 (by omega)) st
end
theorem w7 {F:PH} {v:Array Value} {x:Rw} {at' part:Nat} (hT:Tab F) (hx:zk F v x) (ha:at'<256) (hpt:part<256):ae prog 8 #[.agg v,.int .u8 (at':Int),.int .u8 (part:Int)] F (RT F):=by
 refine cQ8 ?_
 unfold bQ8
 refine (St.start F).newG fun b3 G1 F1 l1 q3 _ h=> ?_
 refine h.runv (Az (hT.le l1)) fun G2 F2 l2 h=> ?_
 have l12:=aa l1 l2
 have hv5:v.size=5:=by obtain ⟨⟨_,_,_,rfl,_⟩,_,_⟩:=hx;rfl
 refine ⟨_,rfl,v,hv5,aj (h.le _ _ (l2 _ _ q3)),?_⟩
 refine h.run (t8 (hx.le l12)) fun _ G3 F3 hr l3 h=> ?_
 obtain ⟨w,rfl,hw⟩:=hr
 have l13:=aa l12 l3
 refine ⟨_,rfl,?_⟩
 refine h.var hw.st (fun b8 G4 F4 l4 q8 h=> ?_) rfl hw.size
 have l14:=aa l13 l4
 replace hw:=hw.le l4
 obtain ⟨mg,bd⟩:=Dw x
 generalize lP x=g at*
 refine ⟨w,hw.size,aj (h.le _ _ q8),?_⟩
 obtain ⟨c,m,t,s,p,l,f,rfl,hs⟩:=hw
 have K:KK F G4 g c m t s p l f b8:=⟨l14,hT.le l14,hs,q8,mg,bd⟩
 obtain ⟨_,_,Tt⟩:=Id
 obtain ⟨_,_,Tp⟩:=DK
 obtain ⟨vt,rt,dt⟩:=hs.t
 obtain ⟨vp,rp,dp⟩:=hs.p
 obtain ⟨vn,rn,dn⟩:=hs.s
 obtain ⟨vc,rc,dc⟩:=hs.c
 have et:=hs.t.len (by decide)
 have ep:=hs.p.len (by decide)
 have en:=hs.s.len (by decide)
 have ec:=hs.c.len (by decide)
 have bt:=bd.t
 have bp:=bd.p
 have bp0:=bd.p0
 have bn:=bd.n
 have bn0:=bd.n0
 have bc:=bd.c
 have c8:∀{F':PH} {i:Nat} {v:Value},G4.le F'→(g.arr c m t s p l f)[i]? =some v→F'.cell (Addr.mk b8 i none)=some v:=fun hl hv=>ld (hl _ _ q8) hv
 refine h.new fun b9 F5 h=> ?_
 refine h.put0 (w':=g.arr c m t s p l f) rfl rfl (by simp [ak,Sl.v]) fun F5 h=> ?_
 refine h.new fun b16 F6 h=> ?_
 have h:=h.imp (A':=own (Sl.mk (some (Addr.mk b16 0 none)) 0 0) 79 7 []) 0 rfl fun H _ hH=>dT hH
 refine ⟨_,c8 h.le rfl,?_⟩
 refine St.app0 Tt h (dt.le h.le) rt.st (by show 0+t.len≤_;omega) fun s1 F7 h hl1=> ?_
 rw [List.nil_append] at h
 refine h.set1 (w':=g.arr c m s1 s p l f) (by show 3<9;decide) rfl fun F8 h=> ?_
 refine h.new fun b21 F6 h=> ?_
 have h:=h.imp (A':=own (Sl.mk (some (Addr.mk b21 0 none)) 0 0) 9 1 []) 0 rfl fun H _ hH=>dT hH
 refine ⟨_,c8 h.le rfl,?_⟩
 refine St.app0 E9 h (dn.le h.le) rn.st (by show 0+s.len≤_;omega) fun s2 F7 h hl2=> ?_
 rw [List.nil_append] at h
 refine h.set2 (w':=g.arr c m s1 s2 p l f) (by show 4<9;decide) rfl fun F8 h=> ?_
 refine h.new fun b26 F6 h=> ?_
 have h:=h.imp (A':=own (Sl.mk (some (Addr.mk b26 0 none)) 0 0) 67 13 []) 0 rfl fun H _ hH=>dT hH
 refine ⟨_,c8 h.le rfl,?_⟩
 refine St.app0 Tp h (dp.le h.le) rp.st (by show 0+p.len≤_;omega) fun s3 F7 h hl3=> ?_
 rw [List.nil_append] at h
 refine h.set3 (w':=g.arr c m s1 s2 s3 l f) (by show 5<9;decide) rfl fun F8 h=> ?_
 refine h.new fun b31 F6 h=> ?_
 have h:=h.imp (A':=own (Sl.mk (some (Addr.mk b31 0 none)) 0 0) 9 1 []) 0 rfl fun H _ hH=>dT hH
 refine ⟨_,c8 h.le rfl,?_⟩
 refine St.app0 E9 h (dc.le h.le) rc.st (by show 0+c.len≤_;omega) fun s4 F7 h hl4=> ?_
 rw [List.nil_append] at h
 refine h.set4 (w':=g.arr s4 m s1 s2 s3 l f) (by show 0<9;decide) rfl fun F8 h=> ?_
 have e1:s1.len=g.toks.length:=by rw [hl1];show 0+t.len=_;omega
 have e2:s2.len=g.nons.length:=by rw [hl2];show 0+s.len=_;omega
 have e3:s3.len=g.prods.length:=by rw [hl3];show 0+p.len=_;omega
 have e4:s4.len=g.conds.length:=by rw [hl4];show 0+c.len=_;omega
 have ek:∀k:Nat,Int.tmod (IntKind.i64.wrap (at':Int)) (k:Int)=((at' % k:Nat):Int):=fun k=>wN ha
 have el:∀{α:Type} {l:List α},l.length≠0→∃y,l[at' % l.length]? =some y:=fun h0=>⟨_,List.getElem?_eq_getElem (Nat.mod_lt _ (Nat.pos_of_ne_zero h0))⟩
 obtain ⟨tk,htk⟩:=el (l:=g.toks) (by omega)
 obtain ⟨nn,hnn⟩:=el (l:=g.nons) (by omega)
 obtain ⟨pr,hpr⟩:=el (l:=g.prods) (by omega)
 have hk:=(List.getElem?_eq_some_iff.1 hnn).1
 obtain ⟨wt,wt1,⟨pp,pn,rfl,pp1,pn1⟩,_⟩:=rt.get htk
 obtain ⟨wn,wn1,wn2,_⟩:=rn.get hnn
 obtain ⟨wp,wp1,⟨rr,r2,r3,rfl,rr1,rr2,rr3⟩,_⟩:=rp.get hpr
 refine ⟨_,h.ld4 rfl,_,h.ld4 rfl,by omega,?_⟩
 rw [ek,e1]
 refine h.elz 3 rfl rt.sz wt1 (by decide) fun F9 h=> ?_
 refine ⟨_,h.ld4 rfl,_,h.ld4 rfl,by omega,?_⟩
 rw [ek,e2]
 refine h.elz 2 rfl rn.sz wn1 (by decide) fun F9 h=> ?_
 refine ⟨_,h.ld4 rfl,_,h.ld4 rfl,by omega,?_⟩
 rw [ek,e3]
 refine h.elz 1 rfl rp.sz wp1 (by decide) fun F9 h=> ?_
 have tk2:cf G4 (g.toks.set (at' % g.toks.length) {tk with name:=gh}) _:=rt.set ⟨pp,pn,rfl,pp1,pn1⟩
 have nn2:cf G4 (g.nons.set (at' % g.nons.length) eU) _:=rn.set (show Mem.rep G4 eU (wn.setIfInBounds 0 (.string eU)) by rw [wn2];rfl)
 have pr2:cf G4 (g.prods.set (at' % g.prods.length) {pr with name:=gi}) _:=rp.set ⟨rr,r2,r3,rfl,rr1,rr2,rr3⟩
 have fin:∀{vc' vt' vn' vp':List (Array Value)} {F':PH} {kc:Nat},cf G4 (g.conds.set kc eV) vc'→cf G4 (g.toks.set (at' % g.toks.length) {tk with name:=gh}) vt'→cf G4 (g.nons.set (at' % g.nons.length) eU) vn'→cf G4 (g.prods.set (at' % g.prods.length) {pr with name:=gi}) vp'→
   St G4 F' [own s4 9 1 (cat vc'),own s3 67 13 (cat vp'),own s2 9 1 (cat vn'),own s1 79 7 (cat vt'),pt b9 (.cells (g.arr s4 m s1 s2 s3 l f) 39)]→tV (part:Int) true b8 b9 (RT F) F':=by
  intro vc' vt' vn' vp' F' kc k1 k2 k3 k4 h
  obtain ⟨G5,l5,d5,h⟩:=h.pinO
  obtain ⟨G6,l6,d6,h⟩:=h.pinO
  obtain ⟨G7,l7,d7,h⟩:=h.pinO
  obtain ⟨G8,l8,d8,h⟩:=h.pinO
  have l78:=aa l7 l8
  have l68:=aa l6 l78
  have l58:=aa l5 l68
  exact E1 (K.le l58) hpt ⟨vc',k1.le l58,d5.le l68⟩ ⟨vt',k2.le l58,d8⟩ ⟨vn',k3.le l58,d7.le l8⟩ ⟨vp',k4.le l58,d6.le l78⟩ htk hpr hk h
 refine ⟨_,h.ld4 rfl,fun h0=> ?_,fun h0=> ?_⟩
 ·obtain ⟨cc,hcc⟩:=el (l:=g.conds) (by omega)
  obtain ⟨wc,wc1,wc2,_⟩:=rc.get hcc
  refine ⟨_,h.ld4 rfl,_,h.ld4 rfl,by omega,?_⟩
  rw [ek,e4]
  refine h.elz 0 rfl rc.sz wc1 (by decide) fun F10 h=> ?_
  exact fin (rc.set (show Mem.rep G4 eV (wc.setIfInBounds 0 (.string eV)) by rw [wc2];rfl)) tk2 nn2 pr2 h
 ·have hc0:g.conds=[]:=List.eq_nil_of_length_eq_zero (by omega)
  exact fin (kc:=0) (by rw [hc0] at rc ⊢;exact rc) tk2 nn2 pr2 h
end Go.Proofs.YtenpmjhnhepfdaaGreatDoor
