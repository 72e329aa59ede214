/-
  At: the grammar of a configuration. Printed in part by a program (mkHm.py).
-/
import Derived.Test.YtenpmjhnhepfdaaGreatDoorHi
namespace Go.Proofs.YtenpmjhnhepfdaaGreatDoor
open Go Go.Proofs.Tryz
set_option maxRecDepth 10000
section
variable {α:Type} [Mem α] [DecidableEq α] {F:PH}
end
section
variable {F:PH} {s t:Sl}
end
structure Sm (g:Gr):Prop where
 c:g.conds.length≤1000000000
 n:g.fam.1.length≤1000000000
 t:g.toks.length≤1000000000
 s:g.nons.length≤1000000000
 p:g.prods.length≤1000000000
 l:g.lvs.length≤1000000000
 f:g.fils.length≤1000000000
 ti:∀x∈g.toks,x.pat.length≤1000000000∧x.cond.1.length≤1000000000
 pi:∀x∈g.prods,x.right.length≤1000000000∧x.cond.1.length≤1000000000∧x.lay.length≤1000000000
 li:∀x∈g.lvs,x.ps.length≤1000000000∧x.cond.1.length≤1000000000
 fi:∀x∈g.fils,x.toks.length≤1000000000∧x.cond.1.length≤1000000000
structure SlT (t e:TypeId) (n bytes:Nat) (z:Value):Prop where
 ht:prog.underlying t=some (.slice e)
 hsz:tsz prog e=some (n,bytes)
 hz:bk prog e=some z
 hzs:z.cells.size=n
 hn:0<n
 hb:bytes≤250
theorem tx {n m b:Nat} (hb:b≤250) (h:n+m≤500000000000):(n+m)*b≤140737488355328:=
 Nat.le_trans (Nat.mul_le_mul h hb) (by decide)
theorem St.appAt {G F:PH} {As:List (PH→Prop)} {t e n bytes:Nat} {z:Value} (T:SlT t e n bytes z) {s x:Sl} {olds news:List Value} {ty:TypeId} (h:St G F As) (i:Nat) (hi:As[i]? =some (own s e n olds)) (hx:RdS F x n news) (hst:∀v∈news,ai v)
  (hlen:s.len+x.len≤500000000000) {K:Sl→PH→Prop} (k:∀s' F',St G F' (As.set i (own s' e n (olds++news)))→s'.len=s.len+x.len→K s' F'):
  aC prog (Builtin.append_ #[t,t] ty #[s.v,x.v]) F fun v F=>∃s':Sl,v=Sl.v s'∧K s' F:=by
 obtain ⟨H,a1,a2,a3,a4⟩:=h.set (A':=own s e n olds) hi
 have ho:=(h.ownAt hi).1
 by_cases h0:x.len=0
 ·have hnil:news=[]:=List.eq_nil_of_length_eq_zero (by rw [hx.len,h0,Nat.zero_mul])
  subst hnil
  refine kZ T.ht T.hsz T.hz T.hzs ho hx h0 (by have:=tx (n:=s.len) (m:=0) T.hb (by omega);simpa using this) (by omega) ⟨s,rfl,k s F ?_ (by omega)⟩
  rw [List.append_nil]
  exact a4 H F a1 (fun b hb=> .inl hb) a3 (fun b o hb _=>hb)
 ·refine nL T.ht T.hsz T.hz T.hzs T.hn ho hx (by omega) hst (tx T.hb hlen) (by omega) ?_
  rintro s' F' b ob rfl ho' hl' hbase hb
  obtain ⟨H,a1,a2,a3,a4⟩:=h.set (A':=own s' e n (olds++news)) hi
  have hb':H b≠none∨F b=none:=by
   rcases hb with ⟨a,ha,rfl⟩|hb
   ·obtain ⟨cur,hc⟩:=bI.elem a1 ha
    exact .inl (by rw [hc];simp)
   ·exact .inr hb
  refine ⟨s',rfl,k s' _ ?_ hl'⟩
  refine a4 (PH.set (fun _=>none) b ob) _ (ho'.keep fun a ha=>by rw [hbase a ha,an,an]) (fun x hx=> ?_) (fun x p hx=> ?_) (fun x p hx hn=> ?_)
  ·by_cases e:x=b
   ·rw [e];exact hb'
   ·rw [aw _ _ e] at hx;exact absurd rfl hx
  ·by_cases e:x=b
   ·rw [e,an] at hx ⊢;exact hx
   ·rw [aw _ _ e] at hx;cases hx
  ·have e:x≠b:=fun e=>by
    subst e
    rcases hb' with h|h
    ·exact h hn
    ·rw [h] at hx;cases hx
   rw [aw _ _ e];exact hx
namespace St
section
variable {G F:PH} {As:List (PH→Prop)} {t e n bytes:Nat} {z:Value}
theorem pinOwn {s:Sl} {vs:List Value} (h:St G F (own s e n vs::As)) {K:PH→Prop} (k:∀G',G.le G'→RdS G' s n vs→St G' F As→K F):K F:=by
 obtain ⟨G',h1,⟨H,hA,hH⟩,h2⟩:=h.pin
 exact k G' h1 ((bI.rd hA).le hH) h2
theorem app0 (T:SlT t e n bytes z) {s x:Sl} {olds news:List Value} {ty:TypeId} (h:St G F (own s e n olds::As)) (hx:RdS F x n news) (hst:∀v∈news,ai v) (hlen:s.len+x.len≤500000000000) {K:Sl→PH→Prop}
  (k:∀s' F',St G F' (own s' e n (olds++news)::As)→s'.len=s.len+x.len→K s' F'):
  aC prog (Builtin.append_ #[t,t] ty #[s.v,x.v]) F fun v F=>∃s':Sl,v=Sl.v s'∧K s' F:=h.appAt T 0 rfl hx hst hlen k
theorem push0 (T:SlT t e n bytes z) {s:Sl} {olds:List Value} {c:Array Value} {ty:TypeId} (h:St G F (own s e n olds::As)) (hc:c.size=n) (hst:∀v∈c.toList,ai v) (hlen:s.len≤400000000000) {K:Sl→PH→Prop}
  (k:∀s' G' F',G.le G'→St G' F' (own s' e n (olds++c.toList)::As)→s'.len=s.len+1→K s' F'):
  ∀b,F b=none→atF (F.set b (.cells c e)) fun F=>aC prog (Builtin.append_ #[t,t] ty #[s.v,Sl.v (Sl.mk (some (Addr.mk b 0 none)) 1 1)]) F fun v F=>∃s':Sl,v=Sl.v s'∧K s' F:=by
 refine h.newG fun b G' F' l q _ h=> ?_
 have hx:RdS F' (Sl.mk (some (Addr.mk b 0 none)) 1 1) n c.toList:=RdS.new (h.le _ _ q) (List.take_of_length_le (by rw [Array.length_toList,hc,Nat.one_mul];exact Nat.le_refl _)) (by rw [Array.length_toList,hc,Nat.one_mul]) (Nat.le_refl _)
 exact h.app0 T hx hst (by show s.len+1≤_;omega) fun s' F'' h' hl'=>k s' G' F'' l h' hl'
theorem app1 {p0:PH→Prop} (T:SlT t e n bytes z) {s x:Sl} {olds news:List Value} {ty:TypeId} (h:St G F (p0::own s e n olds::As)) (hx:RdS F x n news) (hst:∀v∈news,ai v) (hlen:s.len+x.len≤500000000000) {K:Sl→PH→Prop}
  (k:∀s' F',St G F' (p0::own s' e n (olds++news)::As)→s'.len=s.len+x.len→K s' F'):
  aC prog (Builtin.append_ #[t,t] ty #[s.v,x.v]) F fun v F=>∃s':Sl,v=Sl.v s'∧K s' F:=h.appAt T 1 rfl hx hst hlen k
theorem push1 {p0:PH→Prop} (T:SlT t e n bytes z) {s:Sl} {olds:List Value} {c:Array Value} {ty:TypeId} (h:St G F (p0::own s e n olds::As)) (hc:c.size=n) (hst:∀v∈c.toList,ai v) (hlen:s.len≤400000000000) {K:Sl→PH→Prop}
  (k:∀s' G' F',G.le G'→St G' F' (p0::own s' e n (olds++c.toList)::As)→s'.len=s.len+1→K s' F'):
  ∀b,F b=none→atF (F.set b (.cells c e)) fun F=>aC prog (Builtin.append_ #[t,t] ty #[s.v,Sl.v (Sl.mk (some (Addr.mk b 0 none)) 1 1)]) F fun v F=>∃s':Sl,v=Sl.v s'∧K s' F:=by
 refine h.newG fun b G' F' l q _ h=> ?_
 have hx:RdS F' (Sl.mk (some (Addr.mk b 0 none)) 1 1) n c.toList:=RdS.new (h.le _ _ q) (List.take_of_length_le (by rw [Array.length_toList,hc,Nat.one_mul];exact Nat.le_refl _)) (by rw [Array.length_toList,hc,Nat.one_mul]) (Nat.le_refl _)
 exact h.app1 T hx hst (by show s.len+1≤_;omega) fun s' F'' h' hl'=>k s' G' F'' l h' hl'
end
end St
section
variable {α:Type} [Mem α] {F:PH}
def GL (t e:TypeId) (s_0:Sl) (R:VR) (F:PH):Prop:=
 (((s_0.base.isNone)=true→
  R (Sl.v Sl.nil) F)∧
 ((s_0.base.isNone)=false→
  ∀b5,F b5=none→atF (F.set b5 (.cells #[] e)) fun F=>
  aC prog (Builtin.append_ #[t,t] t #[(Sl.v (Sl.mk (some (Addr.mk b5 0 none)) 0 0)),(Sl.v s_0)]) F fun v F=>∃v_7:Sl,v=(Sl.v v_7)∧
  R (Sl.v v_7) F))
theorem gB {s:Sl} {l:List α} {t e bytes:Nat} {z:Value} (T:SlT t e (Mem.n α) bytes z) (hs:RL F s l) (hl:l.length≤1000000000):GL t e s (fun r F'=>(∃s',r=Sl.v s'∧RL F' s' l)∧F.le F') F:=by
 have hlen:=hs.len T.hn
 obtain ⟨vs,h1,h2⟩:=hs
 refine ⟨fun hb=> ?_,fun hb=> ?_⟩
 ·have h0:s.len=0:=by
   rcases Nat.eq_zero_or_pos s.len with h|h
   ·exact h
   ·obtain ⟨b,o,hb',_⟩:=h2.cells h
    rw [hb'] at hb
    cases hb
  have:l=[]:=List.eq_nil_of_length_eq_zero (by omega)
  subst this
  exact ⟨⟨Sl.nil,rfl,RL.nil F⟩,le_refl' F⟩
 ·refine fresh fun b5 F1 l1 q1 _=> ?_
  refine gH (olds:=[]) T.ht T.hsz T.hz T.hzs ⟨by simp,by simp,fun h=>by simp at h⟩ (h2.le l1) h1.st (tx T.hb (by simp only;omega)) (by simp only;omega) (fun h0 _=> ?_) (fun h0 hr=> ?_) (fun hlt cap b hc hb=> ?_)
  ·have h0:s.len=0:=by
    rcases Nat.eq_zero_or_pos s.len with h|h
    ·exact h
    ·have:=Nat.mul_pos h T.hn
     omega
   have:l=[]:=List.eq_nil_of_length_eq_zero (by omega)
   subst this
   exact ⟨_,rfl,⟨_,rfl,[],.nil,⟨by simp [cat,h0],by simp [h0],fun h=>by simp [h0] at h⟩⟩,l1⟩
  ·simp only at hr
   have:s.len=0:=by omega
   rw [this] at h0
   simp at h0
  ·refine ⟨_,rfl,⟨_,rfl,vs,h1.le (aa l1 (ac _ hb)),?_⟩,aa l1 (ac _ hb)⟩
   have e0:(0:Nat)+s.len=s.len:=by omega
   rw [e0] at hc ⊢
   refine RdS.new (an _ _ _) ?_ h2.len hc
   rw [show (([]:List Value).toArray++(cat vs).toArray++Builtin.zeroCells z.cells (cap - s.len)).toList=cat vs++(Builtin.zeroCells z.cells (cap - s.len)).toList by simp]
   rw [List.take_append_of_le_length (by rw [h2.len];exact Nat.le_refl _),List.take_of_length_le (by rw [h2.len];exact Nat.le_refl _)]
end
theorem Iu:SlT 30 9 1 16 (.string ⟨#[]⟩):=⟨underlying30,sz9,zr9,rfl,by decide,by decide⟩
theorem D2:SlT 70 3 1 8 (.int .i64 0):=⟨underlying70,sz3,zr3,rfl,by decide,by decide⟩
theorem MU:∃b z,SlT 77 97 5 b z:=⟨_,_,underlying77,Ny,NF,rfl,by decide,by decide⟩
theorem Iv:∃b z,SlT 62 69 2 b z:=⟨_,_,underlying62,Nt,NB,rfl,by decide,by decide⟩
theorem MV:∃b z,SlT 63 101 3 b z:=⟨_,_,underlying63,JS,JT,rfl,by decide,by decide⟩
theorem GM:∃b z,SlT 34 79 7 b z:=⟨_,_,underlying34,Nw,NE,rfl,by decide,by decide⟩
theorem Ai:∃b z,SlT 35 67 13 b z:=⟨_,_,underlying35,Ns,NA,rfl,by decide,by decide⟩
theorem Iw:∃b z,SlT 36 72 4 b z:=⟨_,_,underlying36,Nu,NC,rfl,by decide,by decide⟩
theorem Iy:∃b z,SlT 37 74 9 b z:=⟨_,_,underlying37,Nv,ND,rfl,by decide,by decide⟩
theorem MW:SlT 57 54 1 8 (.int .u64 0):=⟨underlying57,Nr,Nz,rfl,by decide,by decide⟩
section
variable {F:PH} {s:Sl}
theorem ky {l:List ByteArray} (hs:RL F s l) (hl:l.length≤1000000000):ae prog 83 #[s.v] F fun r F'=>(∃s',r=Sl.v s'∧RL F' s' l)∧F.le F':=Nh (gB Iu hs hl)
theorem qi {l:List Int} (hs:RL F s l) (hl:l.length≤1000000000):ae prog 87 #[s.v] F fun r F'=>(∃s',r=Sl.v s'∧RL F' s' l)∧F.le F':=Np (gB D2 hs hl)
theorem Aj {l:List Nd} (hs:RL F s l) (hl:l.length≤1000000000):ae prog 84 #[s.v] F fun r F'=>(∃s',r=Sl.v s'∧RL F' s' l)∧F.le F':=by
 obtain ⟨b,z,T⟩:=MU
 exact Nj (gB T hs hl)
theorem Ak {l:List Sy} (hs:RL F s l) (hl:l.length≤1000000000):ae prog 85 #[s.v] F fun r F'=>(∃s',r=Sl.v s'∧RL F' s' l)∧F.le F':=by
 obtain ⟨b,z,T⟩:=Iv
 exact Nl (gB T hs hl)
theorem Al {l:List Cn} (hs:RL F s l) (hl:l.length≤1000000000):ae prog 86 #[s.v] F fun r F'=>(∃s',r=Sl.v s'∧RL F' s' l)∧F.le F':=by
 obtain ⟨b,z,T⟩:=MV
 exact Nn (gB T hs hl)
end
end Go.Proofs.YtenpmjhnhepfdaaGreatDoor
namespace Go.Proofs.YtenpmjhnhepfdaaGreatDoor
open Go Go.Proofs.Tryz Tr
set_option maxRecDepth 10000
noncomputable def inW (g:Gr) (c:Int):Bool:=decide (Int.fdiv c (2 ^ min g.conds.length 64)=0) && gS g.fam c
theorem ju {F:PH} {v:Array Value} {g:Gr} (hg:GV F v g) {c:Int} (c0:0≤c) (c1:c<18446744073709551616):ae prog 81 #[.agg v,.int .u64 c] F fun r F'=>r=.bool (inW g c)∧F.le F':=by
 obtain ⟨c',n,t,s,p,l,f,rfl,hs⟩:=hg
 have ec:=hs.c.len (by decide)
 refine Oc ?_
 unfold KV
 refine fresh fun b2 F1 l1 q1 _=>⟨_,ld q1 rfl,by omega,fun h=>⟨#[n.v,vi g.fam.2],rfl,lH q1 rfl,?_⟩,fun h=>⟨?_,l1⟩⟩
 all_goals rw [Int.toNat_natCast,ec,show IntKind.u64.bits=64 from rfl] at h
 ·refine (oE (a:=g.fam) (DV.mk (hs.n.le l1)) c0 c1).mono ?_
  rintro _ F2 ⟨rfl,l2⟩
  refine ⟨_,rfl,?_,aa l1 l2⟩
  unfold inW
  rw [decide_eq_true h,Bool.true_and]
 ·unfold inW
  rw [decide_eq_false h,Bool.false_and]
noncomputable def inG (g:Gr) (c:Int):Bool:=decide (bC g=0) && inW g c
theorem An {F:PH} {v:Array Value} {g:Gr} (hT:Tab F) (hg:GV F v g) (hz:Sz g) {c:Int} (c0:0≤c) (c1:c<18446744073709551616):ae prog 25 #[.agg v,.int .u64 c] F fun r F'=>r=.bool (inG g c)∧F.le F':=by
 refine NZ ?_
 unfold KL
 refine fresh fun b2 F1 l1 q1 _=>⟨v,hg.size,aj q1,?_⟩
 refine (dU (hT.le l1) (hg.le l1) hz).mono ?_
 rintro _ F2 ⟨rfl,l2⟩
 have l12:=aa l1 l2
 refine ⟨_,rfl,fun h=>⟨v,hg.size,aj (l2 _ _ q1),?_⟩,fun h=>⟨?_,l12⟩⟩
 ·refine (ju (hg.le l12) c0 c1).mono ?_
  rintro _ F3 ⟨rfl,l3⟩
  refine ⟨_,rfl,?_,aa l12 l3⟩
  unfold inG
  rw [decide_eq_true h,Bool.true_and]
 ·unfold inG
  rw [decide_eq_false h,Bool.false_and]
noncomputable def atD (d:Dia) (c:Int):Dia:=dia (leaf (gS d c))
noncomputable def atG (g:Gr) (c:Int):Gr:=
 {conds:=[],fam:=dia (leaf true),toks:=g.toks.map fun t=>{t with cond:=atD t.cond c},nons:=g.nons,prods:=g.prods.map fun p=>{p with cond:=atD p.cond c},start:=g.start,
  lvs:=g.lvs.map fun l=>{l with cond:=atD l.cond c},fils:=g.fils.map fun f=>{f with cond:=atD f.cond c}}
def gr0:Gr:=⟨[],([],0),[],[],[],0,[],[]⟩
theorem GV.zero (F:PH):GV F #[.slice none 0 0,.slice none 0 0,.int .i64 0,.slice none 0 0,.slice none 0 0,.slice none 0 0,.int .i64 0,.slice none 0 0,.slice none 0 0] gr0:=
 ⟨Sl.nil,Sl.nil,Sl.nil,Sl.nil,Sl.nil,Sl.nil,Sl.nil,rfl,RL.nil F,RL.nil F,RL.nil F,RL.nil F,RL.nil F,RL.nil F,RL.nil F⟩
noncomputable def po (g:Gr) (c:Int):Int:=if bC g≠0 then bC g else if inW g c=false then 1 else 0
noncomputable def uG (g:Gr) (c:Int):Gr:=if po g c≠0 then gr0 else atG g c
theorem jv {F:PH} {v:Array Value} {d:Dia} (hd:DV F v d) {b:Nat} {c:Int} (hc:F.cell ⟨b,0,none⟩=some (.int .u64 c)) (c0:0≤c) (c1:c<18446744073709551616):
  ae prog 82 #[.agg v,.pointer (some ⟨b,0,none⟩)] F fun r F'=>(∃n,r=.agg #[Sl.v n,vi (atD d c).2]∧RL F' n (atD d c).1)∧F.le F':=by
 refine Od ?_
 unfold KW
 refine fresh fun b2 F1 l1 q1 _=> ?_
 refine (St.start F1).new fun b3 F2 h=> ?_
 refine ⟨v,hd.size,aj (h.le _ _ q1),_,rfl,_,aq h.le (aq l1 hc),?_⟩
 refine h.runv (oE (hd.le l1) c0 c1) fun G3 F3 l3 h=>⟨_,rfl,?_⟩
 refine h.run (P:=fun r G=>∃w,r=.agg w∧DV G w (dia (leaf (gS d c)))) ((eZ (gS d c)).mono fun r F' ⟨w,h1,h2,h3⟩=>⟨⟨w,h1,h2⟩,h3⟩) fun r G4 F4 hr l4 h=> ?_
 obtain ⟨w,rfl,s,rfl,hw⟩:=hr
 refine ⟨_,rfl,?_⟩
 refine h.put0 (w':= #[s.v,vi (atD d c).2]) rfl rfl (by simp [ai,Sl.v]) fun F5 h=>⟨_,rfl,h.whole0,⟨s,rfl,(RL.brs.2 hw).le h.le⟩,aa l1 (aa l3 (aa l4 h.le))⟩
abbrev eE (c n t s p l f:Sl) (root start:Int):Array Value:= #[c.v,n.v,vi root,t.v,s.v,p.v,vi start,l.v,f.v]
abbrev dT:Array Value:=eE Sl.nil Sl.nil Sl.nil Sl.nil Sl.nil Sl.nil Sl.nil 0 0
theorem ic (c n t s p l f:Sl) (root start:Int):∀v∈(eE c n t s p l f root start).toList,ai v:=by simp [ai,Sl.v]
section
variable {F1:PH} {g:Gr} {c:Int} {b2 b3 b4 b8:Nat} {sc sn st' ss sp sl sf:Sl} {R:VR} (hz:Sm g) (hs:GS F1 g sc sn st' ss sp sl sf) (q2:F1 b2=some (.cells (g.arr sc sn st' ss sp sl sf) 39))
 (hc:F1.cell ⟨b3,0,none⟩=some (.int .u64 c)) (c0:0≤c) (c1:c<18446744073709551616)
include hz hs q2 hc c0 c1
theorem MX {G F:PH} {n s t' p' l':Sl} {root start:Int} (l:F1.le G) (h:St G F [pt b8 (.cells (eE Sl.nil n t' s p' l' Sl.nil root start) 39),pt b4 (.cells dT 39)]) (ht:RL G t' (atG g c).toks) (hp:RL G p' (atG g c).prods) (hl:RL G l' (atG g c).lvs)
  (next:∀G' F' f',G.le G'→St G' F' [pt b8 (.cells (eE Sl.nil n t' s p' l' f' root start) 39),pt b4 (.cells dT 39)]→RL G' f' (atG g c).fils→rX b4 (some (Addr.mk b8 0 none)) R F'):
  oH b2 b4 b3 (some (Addr.mk b8 0 none)) R F:=by
 obtain ⟨bytes,z,T⟩:=Iy
 unfold oH
 have elen:=hs.f.len (by decide)
 have hmax:=hz.f
 refine ⟨_,ld (h.le _ _ (l _ _ q2)) rfl,?_⟩
 refine cv (vJ · b4 b3 (some (Addr.mk b8 0 none)) sf _) g.fils.length (fun k F'=>∃G' f' vs,G.le G'∧St G' F' [own f' 74 9 (cat vs),pt b8 (.cells (eE Sl.nil n t' s p' l' f' root start) 39),pt b4 (.cells dT 39)]∧cw G' ((g.fils.take k).map fun x=>{x with cond:=atD x.cond c}) vs∧f'.len=k)
  ⟨G,Sl.nil,[],le_refl' _,h.nilOwn _ _,.nil,rfl⟩ ?_
 rintro k F3 N hk ⟨G3,f',vs,l3,h,hR,hlen⟩ next'
 have l13:=aa l l3
 unfold vJ
 refine ⟨fun hlt=> ?_,fun hge=> ?_⟩
 ·have hlt:k<g.fils.length:=by omega
  refine h.ix (hs.f.le l13) (by decide) (by omega) (by omega) fun a cc x hx hr hc'=> ?_
  rw [Int.toNat_natCast] at hx
  have hxm:x∈g.fils:=List.mem_of_getElem? hx
  have hst:=Mem.st hc'
  obtain ⟨tt,nn,rfl,hp,hn⟩:=hc'
  refine ⟨x.arr tt nn,rfl,hr,?_⟩
  refine h.new fun b10 F4 h=> ?_
  refine h.put0 (w':=x.arr tt nn) rfl rfl hst fun F5 h=> ?_
  refine ⟨_,h.ld0 rfl,#[nn.v,vi x.cond.2],rfl,h.row0 rfl,?_⟩
  refine h.run (P:=fun r G=>∃s',r=Sl.v s'∧RL G s' x.toks) (qi hp (hz.fi x hxm).1) fun r G5 F5 hr5 l5 h=> ?_
  obtain ⟨sp5,rfl,hsp⟩:=hr5
  refine ⟨_,rfl,h.row0 rfl,?_⟩
  refine h.run (P:=fun r G=>∃n,r=.agg #[Sl.v n,vi (atD x.cond c).2]∧RL G n (atD x.cond c).1) (jv (d:=x.cond) (DV.mk (hn.le l5)) (aq (aa l13 l5) hc) c0 c1) fun r G6 F6 hr6 l6 h=> ?_
  obtain ⟨sn6,rfl,hsn⟩:=hr6
  refine ⟨_,rfl,?_⟩
  refine h.set0 (w':=x.arr sp5 nn) (by simp) rfl fun F7 h=> ?_
  refine h.putR0 (w':=({x with cond:=atD x.cond c}:Fi).arr sp5 sn6) rfl (by simp [ai,Sl.v]) (by simp) rfl fun F8 h=> ?_
  refine ⟨_,rfl,_,by rw [aI];exact h.ld2 rfl,_,rfl,h.whole0,rfl,?_⟩
  refine h.push1 T rfl (by simp [ai,Sl.v]) (by omega) fun s9 G9 F9 l9 h hl9=> ?_
  rw [aI]
  refine h.set2 (w':=eE Sl.nil n t' s p' l' s9 root start) (by simp) rfl fun F10 h=> ?_
  rw [aT hlt (by omega)]
  have lall:=aa l5 (aa l6 l9)
  refine next' _ hlt ⟨G9,s9,vs++[({x with cond:=atD x.cond c}:Fi).arr sp5 sn6],aa l3 lall,?_,?_,by omega⟩
  ·rw [bT,cJ]
   exact h.tail
  ·rw [aV hx,List.map_append]
   exact (hR.le lall).append (.cons ⟨sp5,sn6,rfl,hsp.le (aa l6 l9),hsn.le l9⟩ .nil)
 ·have e:k=g.fils.length:=by omega
  subst e
  rw [List.take_length] at hR
  refine h.pinOwn (K:=fun F3=>rX b4 (some (Addr.mk b8 0 none)) R F3) fun G4 l4 hrd h=> ?_
  exact next G4 F3 f' (aa l3 l4) h ⟨vs,hR.le l4,hrd⟩
theorem MY {G F:PH} {n s t' p':Sl} {root start:Int} (l:F1.le G) (h:St G F [pt b8 (.cells (eE Sl.nil n t' s p' Sl.nil Sl.nil root start) 39),pt b4 (.cells dT 39)]) (ht:RL G t' (atG g c).toks) (hp:RL G p' (atG g c).prods)
  (next:∀G' F' l',G.le G'→St G' F' [pt b8 (.cells (eE Sl.nil n t' s p' l' Sl.nil root start) 39),pt b4 (.cells dT 39)]→RL G' l' (atG g c).lvs→oH b2 b4 b3 (some (Addr.mk b8 0 none)) R F'):
  oI b2 b4 b3 (some (Addr.mk b8 0 none)) R F:=by
 obtain ⟨bytes,z,T⟩:=Iw
 unfold oI
 have elen:=hs.l.len (by decide)
 have hmax:=hz.l
 refine ⟨_,ld (h.le _ _ (l _ _ q2)) rfl,?_⟩
 refine cv (vK · b2 b4 b3 (some (Addr.mk b8 0 none)) sl _) g.lvs.length (fun k F'=>∃G' l' vs,G.le G'∧St G' F' [own l' 72 4 (cat vs),pt b8 (.cells (eE Sl.nil n t' s p' l' Sl.nil root start) 39),pt b4 (.cells dT 39)]∧cw G' ((g.lvs.take k).map fun x=>{x with cond:=atD x.cond c}) vs∧l'.len=k)
  ⟨G,Sl.nil,[],le_refl' _,h.nilOwn _ _,.nil,rfl⟩ ?_
 rintro k F3 N hk ⟨G3,l',vs,l3,h,hR,hlen⟩ next'
 have l13:=aa l l3
 unfold vK
 refine ⟨fun hlt=> ?_,fun hge=> ?_⟩
 ·have hlt:k<g.lvs.length:=by omega
  refine h.ix (hs.l.le l13) (by decide) (by omega) (by omega) fun a cc x hx hr hc'=> ?_
  rw [Int.toNat_natCast] at hx
  have hxm:x∈g.lvs:=List.mem_of_getElem? hx
  have hst:=Mem.st hc'
  obtain ⟨tt,nn,rfl,hp,hn⟩:=hc'
  refine ⟨x.arr tt nn,rfl,hr,?_⟩
  refine h.new fun b10 F4 h=> ?_
  refine h.put0 (w':=x.arr tt nn) rfl rfl hst fun F5 h=> ?_
  refine ⟨_,h.ld0 rfl,#[nn.v,vi x.cond.2],rfl,h.row0 rfl,?_⟩
  refine h.run (P:=fun r G=>∃s',r=Sl.v s'∧RL G s' x.ps) (qi hp (hz.li x hxm).1) fun r G5 F5 hr5 l5 h=> ?_
  obtain ⟨sp5,rfl,hsp⟩:=hr5
  refine ⟨_,rfl,h.row0 rfl,?_⟩
  refine h.run (P:=fun r G=>∃n,r=.agg #[Sl.v n,vi (atD x.cond c).2]∧RL G n (atD x.cond c).1) (jv (d:=x.cond) (DV.mk (hn.le l5)) (aq (aa l13 l5) hc) c0 c1) fun r G6 F6 hr6 l6 h=> ?_
  obtain ⟨sn6,rfl,hsn⟩:=hr6
  refine ⟨_,rfl,?_⟩
  refine h.set0 (w':=x.arr sp5 nn) (by simp) rfl fun F7 h=> ?_
  refine h.putR0 (w':=({x with cond:=atD x.cond c}:Lv).arr sp5 sn6) rfl (by simp [ai,Sl.v]) (by simp) rfl fun F8 h=> ?_
  refine ⟨_,rfl,_,by rw [aI];exact h.ld2 rfl,_,rfl,h.whole0,rfl,?_⟩
  refine h.push1 T rfl (by simp [ai,Sl.v]) (by omega) fun s9 G9 F9 l9 h hl9=> ?_
  rw [aI]
  refine h.set2 (w':=eE Sl.nil n t' s p' s9 Sl.nil root start) (by simp) rfl fun F10 h=> ?_
  rw [aT hlt (by omega)]
  have lall:=aa l5 (aa l6 l9)
  refine next' _ hlt ⟨G9,s9,vs++[({x with cond:=atD x.cond c}:Lv).arr sp5 sn6],aa l3 lall,?_,?_,by omega⟩
  ·rw [bT,cJ]
   exact h.tail
  ·rw [aV hx,List.map_append]
   exact (hR.le lall).append (.cons ⟨sp5,sn6,rfl,hsp.le (aa l6 l9),hsn.le l9⟩ .nil)
 ·have e:k=g.lvs.length:=by omega
  subst e
  rw [List.take_length] at hR
  refine h.pinOwn (K:=fun F3=>oH b2 b4 b3 (some (Addr.mk b8 0 none)) R F3) fun G4 l4 hrd h=> ?_
  exact next G4 F3 l' (aa l3 l4) h ⟨vs,hR.le l4,hrd⟩
theorem MZ {G F:PH} {n s t':Sl} {root start:Int} (l:F1.le G) (h:St G F [pt b8 (.cells (eE Sl.nil n t' s Sl.nil Sl.nil Sl.nil root start) 39),pt b4 (.cells dT 39)]) (ht:RL G t' (atG g c).toks)
  (next:∀G' F' p',G.le G'→St G' F' [pt b8 (.cells (eE Sl.nil n t' s p' Sl.nil Sl.nil root start) 39),pt b4 (.cells dT 39)]→RL G' p' (atG g c).prods→oI b2 b4 b3 (some (Addr.mk b8 0 none)) R F'):
  oJ b2 b4 b3 (some (Addr.mk b8 0 none)) R F:=by
 obtain ⟨bytes,z,T⟩:=Ai
 unfold oJ
 have elen:=hs.p.len (by decide)
 have hmax:=hz.p
 refine ⟨_,ld (h.le _ _ (l _ _ q2)) rfl,?_⟩
 refine cv (vL · b2 b4 b3 (some (Addr.mk b8 0 none)) sp _) g.prods.length (fun k F'=>∃G' p' vs,G.le G'∧St G' F' [own p' 67 13 (cat vs),pt b8 (.cells (eE Sl.nil n t' s p' Sl.nil Sl.nil root start) 39),pt b4 (.cells dT 39)]∧cw G' ((g.prods.take k).map fun x=>{x with cond:=atD x.cond c}) vs∧p'.len=k)
  ⟨G,Sl.nil,[],le_refl' _,h.nilOwn _ _,.nil,rfl⟩ ?_
 rintro k F3 N hk ⟨G3,p',vs,l3,h,hR,hlen⟩ next'
 have l13:=aa l l3
 unfold vL
 refine ⟨fun hlt=> ?_,fun hge=> ?_⟩
 ·have hlt:k<g.prods.length:=by omega
  refine h.ix (hs.p.le l13) (by decide) (by omega) (by omega) fun a cc x hx hr hc'=> ?_
  rw [Int.toNat_natCast] at hx
  have hxm:x∈g.prods:=List.mem_of_getElem? hx
  have hst:=Mem.st hc'
  obtain ⟨tt,nn,mm,rfl,hp,hn,hm⟩:=hc'
  refine ⟨x.arr tt nn mm,rfl,hr,?_⟩
  refine h.new fun b10 F4 h=> ?_
  refine h.put0 (w':=x.arr tt nn mm) rfl rfl hst fun F5 h=> ?_
  refine ⟨_,h.ld0 rfl,_,h.ld0 rfl,#[nn.v,vi x.cond.2],rfl,h.row0 rfl,?_⟩
  refine h.run (P:=fun r G=>∃s',r=Sl.v s'∧RL G s' x.right) (Ak hp (hz.pi x hxm).1) fun r G5 F5 hr5 l5 h=> ?_
  obtain ⟨sp5,rfl,hsp⟩:=hr5
  refine ⟨_,rfl,h.row0 rfl,h.ld0 rfl,?_⟩
  refine h.run (P:=fun r G=>∃s',r=Sl.v s'∧RL G s' x.lay) (Al (hm.le l5) (hz.pi x hxm).2.2) fun r G6 F6 hr6 l6 h=> ?_
  obtain ⟨sm6,rfl,hsm⟩:=hr6
  refine ⟨_,rfl,h.row0 rfl,?_⟩
  refine h.run (P:=fun r G=>∃n,r=.agg #[Sl.v n,vi (atD x.cond c).2]∧RL G n (atD x.cond c).1) (jv (d:=x.cond) (DV.mk (hn.le (aa l5 l6))) (aq (aa l13 (aa l5 l6)) hc) c0 c1) fun r G7 F7 hr7 l7 h=> ?_
  obtain ⟨sn7,rfl,hsn⟩:=hr7
  refine ⟨_,rfl,?_⟩
  refine h.set0 (w':=x.arr sp5 nn mm) (by simp) rfl fun F7 h=> ?_
  refine h.set0 (w':=x.arr sp5 nn sm6) (by simp) rfl fun F7 h=> ?_
  refine h.putR0 (w':=({x with cond:=atD x.cond c}:Pr).arr sp5 sn7 sm6) rfl (by simp [ai,Sl.v]) (by simp) rfl fun F8 h=> ?_
  refine ⟨_,rfl,_,by rw [aI];exact h.ld2 rfl,_,rfl,h.whole0,rfl,?_⟩
  refine h.push1 T rfl (by simp [ai,Sl.v]) (by omega) fun s9 G9 F9 l9 h hl9=> ?_
  rw [aI]
  refine h.set2 (w':=eE Sl.nil n t' s s9 Sl.nil Sl.nil root start) (by simp) rfl fun F10 h=> ?_
  rw [aT hlt (by omega)]
  have lall:=aa l5 (aa l6 (aa l7 l9))
  refine next' _ hlt ⟨G9,s9,vs++[({x with cond:=atD x.cond c}:Pr).arr sp5 sn7 sm6],aa l3 lall,?_,?_,by omega⟩
  ·rw [bT,cJ]
   exact h.tail
  ·rw [aV hx,List.map_append]
   exact (hR.le lall).append (.cons ⟨sp5,sn7,sm6,rfl,hsp.le (aa l6 (aa l7 l9)),hsn.le l9,hsm.le (aa l7 l9)⟩ .nil)
 ·have e:k=g.prods.length:=by omega
  subst e
  rw [List.take_length] at hR
  refine h.pinOwn (K:=fun F3=>oI b2 b4 b3 (some (Addr.mk b8 0 none)) R F3) fun G4 l4 hrd h=> ?_
  exact next G4 F3 p' (aa l3 l4) h ⟨vs,hR.le l4,hrd⟩
theorem M0 {G F:PH} {n s:Sl} {root start:Int} (l:F1.le G) (h:St G F [pt b8 (.cells (eE Sl.nil n Sl.nil s Sl.nil Sl.nil Sl.nil root start) 39),pt b4 (.cells dT 39)])
  (next:∀G' F' t',G.le G'→St G' F' [pt b8 (.cells (eE Sl.nil n t' s Sl.nil Sl.nil Sl.nil root start) 39),pt b4 (.cells dT 39)]→RL G' t' (atG g c).toks→oJ b2 b4 b3 (some (Addr.mk b8 0 none)) R F'):
  kM b2 b4 b3 (some (Addr.mk b8 0 none)) R F:=by
 obtain ⟨bytes,z,T⟩:=GM
 unfold kM
 have elen:=hs.t.len (by decide)
 have hmax:=hz.t
 refine ⟨_,ld (h.le _ _ (l _ _ q2)) rfl,?_⟩
 refine cv (vM · b2 b4 b3 (some (Addr.mk b8 0 none)) st' _) g.toks.length (fun k F'=>∃G' t' vs,G.le G'∧St G' F' [own t' 79 7 (cat vs),pt b8 (.cells (eE Sl.nil n t' s Sl.nil Sl.nil Sl.nil root start) 39),pt b4 (.cells dT 39)]∧cw G' ((g.toks.take k).map fun x=>{x with cond:=atD x.cond c}) vs∧t'.len=k)
  ⟨G,Sl.nil,[],le_refl' _,h.nilOwn _ _,.nil,rfl⟩ ?_
 rintro k F3 N hk ⟨G3,t',vs,l3,h,hR,hlen⟩ next'
 have l13:=aa l l3
 unfold vM
 refine ⟨fun hlt=> ?_,fun hge=> ?_⟩
 ·have hlt:k<g.toks.length:=by omega
  refine h.ix (hs.t.le l13) (by decide) (by omega) (by omega) fun a cc x hx hr hc'=> ?_
  rw [Int.toNat_natCast] at hx
  have hxm:x∈g.toks:=List.mem_of_getElem? hx
  have hst:=Mem.st hc'
  obtain ⟨tt,nn,rfl,hp,hn⟩:=hc'
  refine ⟨x.arr tt nn,rfl,hr,?_⟩
  refine h.new fun b10 F4 h=> ?_
  refine h.put0 (w':=x.arr tt nn) rfl rfl hst fun F5 h=> ?_
  refine ⟨_,h.ld0 rfl,#[nn.v,vi x.cond.2],rfl,h.row0 rfl,?_⟩
  refine h.run (P:=fun r G=>∃s',r=Sl.v s'∧RL G s' x.pat) (Aj hp (hz.ti x hxm).1) fun r G5 F5 hr5 l5 h=> ?_
  obtain ⟨sp5,rfl,hsp⟩:=hr5
  refine ⟨_,rfl,h.row0 rfl,?_⟩
  refine h.run (P:=fun r G=>∃n,r=.agg #[Sl.v n,vi (atD x.cond c).2]∧RL G n (atD x.cond c).1) (jv (d:=x.cond) (DV.mk (hn.le l5)) (aq (aa l13 l5) hc) c0 c1) fun r G6 F6 hr6 l6 h=> ?_
  obtain ⟨sn6,rfl,hsn⟩:=hr6
  refine ⟨_,rfl,?_⟩
  refine h.set0 (w':=x.arr sp5 nn) (by simp) rfl fun F7 h=> ?_
  refine h.putR0 (w':=({x with cond:=atD x.cond c}:Tk).arr sp5 sn6) rfl (by simp [ai,Sl.v]) (by simp) rfl fun F8 h=> ?_
  refine ⟨_,rfl,_,by rw [aI];exact h.ld2 rfl,_,rfl,h.whole0,rfl,?_⟩
  refine h.push1 T rfl (by simp [ai,Sl.v]) (by omega) fun s9 G9 F9 l9 h hl9=> ?_
  rw [aI]
  refine h.set2 (w':=eE Sl.nil n s9 s Sl.nil Sl.nil Sl.nil root start) (by simp) rfl fun F10 h=> ?_
  rw [aT hlt (by omega)]
  have lall:=aa l5 (aa l6 l9)
  refine next' _ hlt ⟨G9,s9,vs++[({x with cond:=atD x.cond c}:Tk).arr sp5 sn6],aa l3 lall,?_,?_,by omega⟩
  ·rw [bT,cJ]
   exact h.tail
  ·rw [aV hx,List.map_append]
   exact (hR.le lall).append (.cons ⟨sp5,sn6,rfl,hsp.le (aa l6 l9),hsn.le l9⟩ .nil)
 ·have e:k=g.toks.length:=by omega
  subst e
  rw [List.take_length] at hR
  refine h.pinOwn (K:=fun F3=>oJ b2 b4 b3 (some (Addr.mk b8 0 none)) R F3) fun G4 l4 hrd h=> ?_
  exact next G4 F3 t' (aa l3 l4) h ⟨vs,hR.le l4,hrd⟩
end
theorem Ao {F:PH} {v:Array Value} {g:Gr} (hT:Tab F) (hg:GV F v g) (hz:Sz g) (hm:Sm g) {c:Int} (c0:0≤c) (c1:c<18446744073709551616):
  ae prog 21 #[.agg v,.int .u64 c] F fun r F'=>(∃w,r=.tuple #[.agg w,vi (po g c)]∧GV F' w (uG g c))∧F.le F':=by
 have hg0:=hg
 obtain ⟨sc,sn,st',ss,sp,sl,sf,rfl,hs⟩:=hg
 refine NX ?_
 unfold KI
 refine fresh fun b2 F1 l1 q2 _=> ?_
 refine fresh fun b3 F2 l2 q3 _=> ?_
 replace l1:=aa l1 l2
 replace q2:=l2 _ _ q2
 refine (St.start F2).new fun b4 F3 h=>⟨_,hg0.size,aj (h.le _ _ q2),?_⟩
 refine h.runv (dU (hT.le l1) (hg0.le l1) hz) fun G4 F4 l4 h=>⟨_,rfl,fun hb=> ?_,fun hb=>⟨_,hg0.size,aj (h.le _ _ (l4 _ _ q2)),_,ld (h.le _ _ (l4 _ _ q3)) rfl,?_⟩⟩
 ·refine h.put0 (w':=dT) rfl rfl (ic _ _ _ _ _ _ _ _ _) fun F5 h=>⟨_,rfl,h.whole0,⟨dT,?_,?_⟩,aa l1 (aa l4 h.le)⟩
  ·rw [show po g c=bC g from if_pos hb]
  ·rw [show uG g c=gr0 by unfold uG po;rw [if_pos hb,if_pos hb]]
   exact GV.zero _
 have hb:bC g=0:=Classical.not_not.1 hb
 refine h.runv (ju (hg0.le (aa l1 l4)) c0 c1) fun G5 F5 l5 h=>⟨_,rfl,fun hw=> ?_,fun hw=> ?_⟩
 ·have hw:inW g c=false:=by simpa using hw
  have e1:po g c=1:=by unfold po;rw [if_neg (fun h=>h hb),if_pos hw]
  refine h.put0 (w':=dT) rfl rfl (ic _ _ _ _ _ _ _ _ _) fun F5 h=>⟨_,rfl,h.whole0,⟨dT,?_,?_⟩,aa l1 (aa l4 (aa l5 h.le))⟩
  ·rw [e1]
  ·rw [show uG g c=gr0 by unfold uG;rw [e1];rfl]
   exact GV.zero _
 have hw:inW g c=true:=by simpa using hw
 have e1:po g c=0:=by unfold po;rw [if_neg (fun h=>h hb),if_neg (by rw [hw];decide)]
 have e2:uG g c=atG g c:=by unfold uG;rw [if_neg (fun h=>h e1)]
 rw [e1,e2]
 have l25:=aa l4 l5
 replace q2:=l25 _ _ q2
 replace q3:=l25 _ _ q3
 replace l1:=aa l1 l25
 replace hs:=hs.le l1
 have j1:∀G6 F6 b8 n s,G5.le G6→St G6 F6 [pt b8 (.cells (eE Sl.nil n Sl.nil s Sl.nil Sl.nil Sl.nil (dia (leaf true)).2 g.start) 39),pt b4 (.cells dT 39)]→RL G6 n (dia (leaf true)).1→RL G6 s g.nons→
   kM b2 b4 b3 (some (Addr.mk b8 0 none)) (fun r F'=>(∃w,r=.tuple #[.agg w,vi 0]∧GV F' w (atG g c))∧F.le F') F6:=fun G6 F6 b8 n s l6 h hn hns=>by
  refine M0 hm hs q2 (ld q3 rfl) c0 c1 l6 h fun G7 F7 t' l7 h ht=> ?_
  refine MZ hm hs q2 (ld q3 rfl) c0 c1 (aa l6 l7) h ht fun G8 F8 p' l8 h hp=> ?_
  refine MY hm hs q2 (ld q3 rfl) c0 c1 (aa l6 (aa l7 l8)) h (ht.le l8) hp fun G9 F9 l' l9 h hl=> ?_
  refine MX hm hs q2 (ld q3 rfl) c0 c1 (aa l6 (aa l7 (aa l8 l9))) h (ht.le (aa l8 l9)) (hp.le l9) hl fun G10 F10 f' l10 h hf=> ?_
  unfold rX
  refine ⟨_,rfl,_,rfl,h.whole0,?_⟩
  refine h.put1 (w':=eE Sl.nil n t' s p' l' f' (dia (leaf true)).2 g.start) rfl rfl (ic _ _ _ _ _ _ _ _ _) fun F11 h=>⟨_,rfl,h.whole1,⟨_,rfl,?_⟩,aa l1 (aa l6 (aa l7 (aa l8 (aa l9 (aa l10 h.le)))))⟩
  exact ⟨Sl.nil,n,t',s,p',l',f',rfl,RL.nil _,(hn.le (aa l7 (aa l8 (aa l9 l10)))).le h.le,(ht.le (aa l8 (aa l9 l10))).le h.le,(hns.le (aa l7 (aa l8 (aa l9 l10)))).le h.le,(hp.le (aa l9 l10)).le h.le,(hl.le l10).le h.le,hf.le h.le⟩
 have cn:∀{G:PH},ae prog 30 #[.bool true] G fun r F'=>(∃n,r=.agg #[Sl.v n,vi (dia (leaf true)).2]∧RL F' n (dia (leaf true)).1)∧G.le F':=fun {G}=>(eZ true).mono fun r F' ⟨w,h1,⟨s,h4,h5⟩,h3⟩=>⟨⟨s,by rw [h1,h4],RL.brs.2 h5⟩,h3⟩
 refine ⟨_,ld (h.le _ _ q2) rfl,_,ld (h.le _ _ q2) rfl,⟨?_,?_⟩⟩
 ·refine h.run (P:=fun r G=>∃n,r=.agg #[Sl.v n,vi (dia (leaf true)).2]∧RL G n (dia (leaf true)).1) cn fun r G6 F6 hr l6 h=> ?_
  obtain ⟨n,rfl,hn⟩:=hr
  refine ⟨_,rfl,ld (h.le _ _ (l6 _ _ q2)) rfl,ld (h.le _ _ (l6 _ _ q2)) rfl,⟨?_,?_⟩⟩
  ·refine h.run (P:=fun r G=>∃s',r=Sl.v s'∧RL G s' g.nons) (ky (hs.s.le l6) hm.s) fun r G7 F7 hr l7 h=> ?_
   obtain ⟨s,rfl,hns⟩:=hr
   refine ⟨_,rfl,ld (h.le _ _ (l7 _ _ (l6 _ _ q2))) rfl,rfl,?_⟩
   refine h.new fun b8 F8 h=> ?_
   refine h.put0 (w':=eE Sl.nil n Sl.nil s Sl.nil Sl.nil Sl.nil (dia (leaf true)).2 g.start) rfl rfl (ic _ _ _ _ _ _ _ _ _) fun F9 h=> ?_
   exact j1 G7 F9 b8 n s (aa l6 l7) h (hn.le l7) hns
  ·refine h.new fun b8 F8 h=> ?_
   refine h.run (P:=fun r G=>∃s',r=Sl.v s'∧RL G s' g.nons) (ky (hs.s.le l6) hm.s) fun r G7 F7 hr l7 h=> ?_
   obtain ⟨s,rfl,hns⟩:=hr
   refine ⟨_,rfl,ld (h.le _ _ (l7 _ _ (l6 _ _ q2))) rfl,rfl,?_⟩
   refine h.put0 (w':=eE Sl.nil n Sl.nil s Sl.nil Sl.nil Sl.nil (dia (leaf true)).2 g.start) rfl rfl (ic _ _ _ _ _ _ _ _ _) fun F9 h=> ?_
   exact j1 G7 F9 b8 n s (aa l6 l7) h (hn.le l7) hns
 ·refine h.new fun b8 F8 h=> ?_
  refine h.run (P:=fun r G=>∃n,r=.agg #[Sl.v n,vi (dia (leaf true)).2]∧RL G n (dia (leaf true)).1) cn fun r G6 F6 hr l6 h=> ?_
  obtain ⟨n,rfl,hn⟩:=hr
  refine ⟨_,rfl,ld (h.le _ _ (l6 _ _ q2)) rfl,ld (h.le _ _ (l6 _ _ q2)) rfl,?_⟩
  refine h.run (P:=fun r G=>∃s',r=Sl.v s'∧RL G s' g.nons) (ky (hs.s.le l6) hm.s) fun r G7 F7 hr l7 h=> ?_
  obtain ⟨s,rfl,hns⟩:=hr
  refine ⟨_,rfl,ld (h.le _ _ (l7 _ _ (l6 _ _ q2))) rfl,rfl,?_⟩
  refine h.put0 (w':=eE Sl.nil n Sl.nil s Sl.nil Sl.nil Sl.nil (dia (leaf true)).2 g.start) rfl rfl (ic _ _ _ _ _ _ _ _ _) fun F9 h=> ?_
  exact j1 G7 F9 b8 n s (aa l6 l7) h (hn.le l7) hns
end Go.Proofs.YtenpmjhnhepfdaaGreatDoor
