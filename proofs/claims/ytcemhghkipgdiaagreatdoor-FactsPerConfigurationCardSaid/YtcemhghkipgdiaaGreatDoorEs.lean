/-
  The diagrams: equality of the reference; results by meaning; local variables that hold diagrams.
-/
import Derived.Test.YtcemhghkipgdiaaGreatDoorEl
import Derived.Test.YtcemhghkipgdiaaGreatDoorPhp
import Derived.Test.YtcemhghkipgdiaaGreatDoorGdiagram
namespace Go.Proofs.YtcemhghkipgdiaaGreatDoor
open Go.IntKind (i64 u8 u64)
open Go Go.Proofs.Tryz Tr
set_option maxRecDepth 10000
theorem zp {w:Nat} {b:Bool} {T:Tr} (hT:T.ok):∀(t:Tr),inn (aL T) t->∀(S:List Tr),Cl S->∀u∈vis (fx w b t) S,u∈S\/u∈(aL T).map (fx w b)
 |leaf x,_,S,_=>by rw [jW];exact λu hu=> .inl hu
 |node v l h,ht,S,hS=>by
  have hcl:=bv hT;have hk:=hcl.inn_ok ht;obtain ⟨il,ih⟩:=hcl.inn_kids ht;have hf:=vz (w:=w) (b:=b) hk;obtain ⟨h0,h1,h2,h3,h4,h5⟩:=hk;obtain ⟨l1,l2,l3⟩:=dC w b h4;obtain ⟨g1,g2,g3⟩:=dC w b h5;have vl:=zp (w:=w) (b:=b) hT l il;have vh:=zp (w:=w) (b:=b) hT h ih;by_cases hv:v=w
  ·rw [if_pos hv] at hf;rw [hf];split
   ·exact vh S hS
   ·exact vl S hS
  ·rw [if_neg hv] at hf;have hadd:=lT hS (v:=v) (l:=fx w b l) (h:=fx w b h) ⟨h0,by omega,by omega,l1,g1⟩;rw [<- hf] at hadd;rw [<- hadd];intro u hu;have key:u∈vis (fx w b h) (vis (fx w b l) S)->u∈S\/u∈(aL T).map (fx w b):=λhu=>by
    rcases vh _ (bo _ S l1 hS).1 u hu with h|h
    ·exact vl S hS u h
    ·exact .inr h
   unfold dv at hu;split at hu
   ·exact key hu
   ·rcases UX.1 hu with hu|hu
    ·exact key hu
    ·rw [UU.1 hu];exact .inr (U8.2 ⟨_,cx ht rfl,rfl⟩)
theorem nB {w:Nat} {b:Bool} {t:Tr} (ht:t.ok):(aL (fx w b t)).length<=(aL t).length:=by
 have:=cY (aL (fx w b t)) ((aL t).map (fx w b)) (bv (dC w b ht).1).nodup λx hx=>by
  rcases zp ht t (bI ht) [] .nil x hx with h|h
  ·cases h
  ·exact h
 simpa using this
noncomputable def sS (a:Dia) (v:Int) (b:Bool):DR:=if chk a≠0 then (iT,chk a) else if v<0\/63<v then (iT,1) else lim (dia (fx v.toNat b (tre a)))
section
variable {F:PH} {v:Γ} {a:Dia}
theorem sT (ha:DV F v a) (w:Int) (x:Bool):ai prog 98 #[.agg v,vi w,.bool x] F λr F'=>DRV F' r (sS a w x)/\F.le F':=by
 refine Tv ?_;unfold O2;intro b3 hb3;refine atI ?_;have l3:=ae (.cells v 31) hb3;have q3:=al F b3 (.cells v 31);generalize F.set b3 (.cells v 31)=F3 at*;intro b6 hb6;refine atI ?_;have f6:F b6=none:=aT l3 hb6;have lx:=ae (.cells zD 31) hb6;have q6:=al F3 b6 (.cells zD 31);replace q3:=lx _ _ q3;have l6:=l3.trans lx;clear lx;generalize F3.set b6 (.cells zD 31)=F6 at*;refine ⟨v,ha.size,ac q3,?_⟩;refine (iF (ha.le l6)).mono ?_;rintro _ F7 ⟨rfl,l7⟩;replace q3:=l7 _ _ q3;replace q6:=l7 _ _ q6;replace l7:=l6.trans l7;refine ⟨_,rfl,λh=> ?_,λh=> ?_⟩
 ·have e:sS a w x=(iT,chk a):=by unfold sS;rw [if_pos h]
  rw [e];exact zt q6 rfl l7 f6
 have h0:chk a=0:=by omega
 have bad:w<0\/63<w->qV w x b3 b6 true (λr F'=>DRV F' r (sS a w x)/\F.le F') F7:=λhb=>by
  unfold qV;refine ⟨λ_=> ?_,λhc=>by cases hc⟩;have e:sS a w x=(iT,1):=by unfold sS;rw [if_neg h,if_pos hb]
  rw [e];exact zt q6 rfl l7 f6
 refine ⟨λhb=>bad (.inl hb),λhb=> ?_⟩;by_cases hb2:63<w
 ·rw [decide_eq_true hb2];exact bad (.inr hb2)
 ·rw [decide_eq_false hb2];unfold qV;refine ⟨λhc=>(by cases hc),λ_=>⟨v,ha.size,ac q3,?_⟩⟩;have e:sS a w x=lim (dia (fx w.toNat x (tre a))):=by unfold sS;rw [if_neg h,if_neg (by omega)]
  obtain ⟨ka,ea,la⟩:=FO h0;have ld:F.le (dz F7 b6):=dY l7 f6;have hd:=ha.le ld;rw [ea] at hd;have hw:((w.toNat:Nat):Int)=w:=by omega
  have hf:=zv hd ka (mh h0) w.toNat x;rw [hw] at hf;refine (gr hf q6).mono ?_;rintro _ F9 ⟨z,rfl,⟨G,hz,lG,gG⟩,l9,q9⟩;refine ⟨_,rfl,?_⟩;rw [e];refine (vy (mi (hz.beside lG gG)) q9).mono ?_;rintro _ F10 ⟨z',rfl,⟨G',hz',lG',gG'⟩,l10,q10⟩;exact ⟨_,_,rfl,FQ hz' lG' gG' q10 rfl (l7.trans (l9.trans l10)) f6⟩
def cfg (c:Int):Cf:=λi=>c.toNat.testBit i
theorem lY {x:Int} (h1:0<=x) (h2:x<18446744073709551616):u64.wrap x=x:=by unfold IntKind.wrap;simp only [IntKind.bits,IntKind.signed];simp only [WI,Vu,if_false];omega
theorem FI (n v:Nat):Int.fdiv (n:Int) (2 ^ v)=((n / 2 ^ v:Nat):Int):=by
 have e2:(2:Int) ^ v=((2 ^ v:Nat):Int):=by simp
 rw [e2,Int.fdiv_eq_ediv_of_nonneg _ (Int.natCast_nonneg _)];rfl
theorem jV (n:Nat) (h:n<18446744073709551616):(BitVec.ofInt (u64).bits (n:Int)).toNat=n:=by show (BitVec.ofInt 64 (n:Int)).toNat=n;rw [BitVec.toNat_ofInt];omega
theorem xK {c:Int} (h0:0<=c) (h1:c<18446744073709551616) {v:Nat} (hv:v<64):
  (u64.wrap ((BitVec.ofInt (u64).bits (Int.fdiv c (2 ^ (min (Int.toNat (v:Int)) (u64).bits))) &&& BitVec.ofInt (u64).bits (1:Int)).toNat))=(1:Int)↔cfg c v=true:=by
 obtain ⟨n,rfl⟩:=Int.eq_ofNat_of_zero_le h0;have hm:min (Int.toNat (v:Int)) (u64).bits=v:=by simp only [IntKind.bits,N4];omega
 rw [hm,FI,BitVec.toNat_and];have hle:n / 2 ^ v<=n:=Nat.div_le_self _ _;have h1':(BitVec.ofInt (u64).bits (1:Int)).toNat=1:=jV 1 (by omega);rw [jV _ (by omega),h1',Nat.and_one_is_mod,lY (by omega) (by omega)];unfold cfg;rw [N4,Nat.testBit_eq_decide_div_mod_eq,decide_eq_true_iff];omega
noncomputable def gH (a:Dia) (c:Int):Bool:=open Classical in if chk a≠0 then false else (tre a).ev (cfg c)
theorem kP (ha:DV F v a) {c:Int} (h0:0<=c) (h1:c<18446744073709551616):ai prog 41 #[.agg v,.int .u64 c] F λr F'=>r=.bool (gH a c)/\F.le F':=by
 have ha':=ha;obtain ⟨s,rfl,hr⟩:=ha;refine Tp ?_;unfold OX;intro b2 hb2;refine atI ?_;have l2:=ae (.cells #[s.v,vi a.2] 31) hb2;have q2:=al F b2 (.cells #[s.v,vi a.2] 31);generalize F.set b2 (.cells #[s.v,vi a.2] 31)=F2 at*;refine ⟨_,rfl,ac q2,?_⟩;refine (iF (ha'.le l2)).mono ?_;rintro _ F3 ⟨rfl,l3⟩;refine ⟨_,rfl,λh=> ?_,λh=> ?_⟩
 ·refine ⟨?_,l2.trans l3⟩;unfold gH;rw [if_pos h]
 ·obtain ⟨ka,ea,la⟩:=FO (by omega:chk a=0);have hT:=bv ka;have hr':RdS F s 3 (aY (brs (aL (tre a)))):=by rw [ea] at hr;exact hr
  have hlen:=hr'.blen;rw [aO] at hlen;have hsl:=mh (by omega:chk a=0);have e2:a.2=(num (aL (tre a)) (tre a):Int):=by
   conv=>lhs;rw [ea]
   rfl
  have he:gH a c=(tre a).ev (cfg c):=by unfold gH;rw [if_neg h]
  refine ⟨a.2,by rw [am (l3 _ _ q2)];rfl,?_⟩;refine ⟨λm i F'=>∃t',i=(num (aL (tre a)) t':Int)/\inn (aL (tre a)) t'/\m=t'.sz/\F3.le F'/\t'.ev (cfg c)=(tre a).ev (cfg c),(tre a).sz,⟨tre a,e2,bI ka,rfl,PH.le_rfl,rfl⟩,?_⟩;rintro m i F4 ⟨t',rfl,hin,rfl,l4,hev⟩;unfold EN;refine ⟨λhlt=> ?_,λhge=> ?_⟩
  ·cases t' with
   |leaf x=>have:=cT (aL (tre a)) x;omega
   |node w l r=>
    obtain ⟨il,ir⟩:=hT.inn_kids hin;obtain ⟨o1,_⟩:=hT.inn_ok hin;have hg:=dm (S:=aL (tre a)) (t:=node w l r) rfl;have hnl:=dt hin;have hw:=q0 (n:=num (aL (tre a)) (node w l r)) (by omega) hg;obtain ⟨p,hp,hrow,_⟩:=rdb (hr'.le (l2.trans (l3.trans l4))) (jM (ff (cx hin rfl) rfl));refine ⟨s,by rw [am (l4 _ _ (l3 _ _ q2))];rfl,p,hp,by rw [hw];omega,by rw [hw];omega,aV (br (aL (tre a)) (node w l r)),rfl,by rw [hw];exact hrow,?_⟩;intro b6 hb6;refine atI ?_;refine stW (al _ _ _) rfl rfl (iA _) ?_;rw [bh];have l6:=l4.trans (ae (.cells (aV (br (aL (tre a)) (node w l r))) 124) hb6);refine ⟨(w:Int),by rw [am (al _ _ _)];rfl,by omega,λhb=> ?_,λhb=> ?_⟩
    ·have hb':=(xK h0 h1 o1).1 hb;refine ⟨_,by rw [am (al _ _ _)];rfl,r.sz,by simp only [sz];omega,r,rfl,ir,rfl,l6,?_⟩;rw [<- hev];simp [Tr.ev,hb']
    ·have hb':¬cfg c w=true:=λhc=>hb ((xK h0 h1 o1).2 hc);refine ⟨_,by rw [am (al _ _ _)];rfl,l.sz,by simp only [sz];omega,l,rfl,il,rfl,l6,?_⟩;rw [<- hev];simp [Tr.ev,hb']
  ·unfold EM;refine ⟨?_,l2.trans (l3.trans l4)⟩;rw [he,<- hev];cases t' with
   |leaf x=>cases x<;>simp [num,Tr.ev]
   |node w l r=>have:=dm (S:=aL (tre a)) (t:=node w l r) rfl;omega
end
def lm (n:Nat):Δ:=if h:n=0 then [] else n % 4294967296::lm (n / 4294967296)
termination_by n
decreasing_by exact Nat.div_lt_self (by omega) (by decide)
abbrev TG (l:Δ):Ξ:=l.map λ(x:Nat)=>Value.int .u32 (x:Int)
def NV (F:PH) (s:Sl) (n:Nat):Prop:=RdS F s 1 (TG (lm n))
theorem NV.le {F G:PH} {s:Sl} {n:Nat} (h:NV F s n) (hl:F.le G):NV G s n:=RdS.le h hl
section
end
section
end
def df (n:Nat):Tr->Prop
 |leaf _=>True
 |node v l h=>v<n/\df n l/\df n h
theorem nC {F G:PH} {x:Nat} (h:F.le G):(dz F x).le (dz G x):=λy o hy=>by
 have hne:y≠x:=λe=>by rw [e,zr] at hy;cases hy
 rw [dX hne] at hy ⊢;exact h _ _ hy
section
end
theorem rk {T:List Tr} (hT:Cl T) {n:Nat} (h:∀x∈T,x.top<n):∀(t:Tr),inn T t->df n t
 |leaf _,_=>trivial
 |node v l r,ht=>by obtain ⟨il,ir⟩:=hT.inn_kids ht;exact ⟨h _ (cx ht rfl),rk hT h l il,rk hT h r ir⟩
section
end
theorem MZ {x v:Nat} (hx:x<18446744073709551616) (hv:v<64):
  (u64.wrap ((BitVec.ofInt (u64).bits (x:Int) ||| BitVec.ofInt (u64).bits (u64.wrap ((1:Int)*2 ^ (min (Int.toNat (v:Int)) (u64).bits)))).toNat))=((x ||| 2 ^ v:Nat):Int):=by
 have hm:min (Int.toNat (v:Int)) (u64).bits=v:=by simp only [IntKind.bits,N4];omega
 have hp:2 ^ v<2 ^ 64:=WB (by decide) hv;have e1:(1:Int)*2 ^ v=((2 ^ v:Nat):Int):=by simp
 have ho:x ||| 2 ^ v<2 ^ 64:=Nat.or_lt_two_pow (by omega) hp;rw [hm,e1];generalize 2 ^ v=w at*;rw [lY (x:=(w:Int)) (by omega) (by omega),BitVec.toNat_or,jV _ hx,jV _ (by omega),lY (by omega) (by omega)]
theorem xL {S:List Tr} {t:Tr}:num S t=0↔t=leaf false:=by
 cases t with
 |leaf b=>cases b<;>simp [num]
 |node v l h=>
  have:=dm (S:=S) (t:=node v l h) rfl;constructor
  ·intro h;omega
  ·intro h;cases h
section
end
variable {R:VR} {F:PH}
set_option maxRecDepth 10000
set_option maxHeartbeats 4000000
def Qb (a:Bool) (R:VR) (F:PH):Prop:=Nb F (.cells zD 31) λb F=>Bb (a) (au F (Am b 0) 2 (#[.slice none 0 0,(vi 1)]:Γ) λF=>Rr 2 (Am b 0) R F) (au F (Am b 0) 2 zD λF=>Rr 2 (Am b 0) R F)
theorem TH {a:Bool} (h:Qb a R F):ai prog 34 #[.bool a] F R:=Rx.sxC (args:=[.bool a]) .N (by kernel_rfl) h
def Qc (a b:Γ) (R:VR) (F:PH):Prop:=Nb F (.cells a 31) λg F=>Nb F (.cells b 31) λh F=>Nb F (.cells zD 31) λf F=>Lr F 2 (Am g 0) λc=>Lr F 2 (Am h 0) λd=>Ca 110 #[.agg c,.agg d,(vi 0)] F λe F=>au F (Am f 0) 2 e λF=>Rr 2 (Am f 0) R F
theorem TJ {a:Γ} {b:Γ} (h:Qc a b R F):ai prog 45 #[.agg a,.agg b] F R:=Rx.sxC (args:=[.agg a,.agg b]) .N (by kernel_rfl) h
def M0 (R:VR) (F:PH):Prop:=R (.bool true) F
def FJ (k:Ω) (j l:Nat) (R:VR) (a:Int) (F:PH):Prop:=Ls F (Am j 0) λc=>Bc (a<(c.len:Int)) (Ls F (Am j 0) λd=>Ix d a λe=>Lr F 3 (Addr.add e (Int.toNat a*3)) λf=>Ls F (Am l 0) λg=>Ix g a λh=>Lr F 3 (Addr.add h (Int.toNat a*3)) λi=>∃b,(∀F,rdo prog (Op.equal 124 (.agg f) (.agg i)) F b)/\Bb ((!b)) (R (.bool false) F) (k (i64.wrap (a+1)) F)) (M0 R F)
def Qd (c d:Γ) (R:VR) (F:PH):Prop:=Nb F (.cells c 31) λe F=>Nb F (.cells d 31) λf F=>Li F (Am e 1) λg=>Li F (Am f 1) λh=>Bc (g≠h) (R (.bool false) F) (Ls F (Am e 0) λa=>Ls F (Am f 0) λb=>Bc ((a.len:Int)≠(b.len:Int)) (R (.bool false) F) (Lp 0 F λN i F=>FJ N e f R i F))
theorem TK {a:Γ} {b:Γ} (h:Qd a b R F):ai prog 50 #[.agg a,.agg b] F R:=Rx.sxC (args:=[.agg a,.agg b]) (.T .N (.T .N (.J false [] (.T .N (.L [(5,.int .i64)] .N)) .N))) (by kernel_rfl) h
def Qe (b:Sl) (c:Int) (R:VR) (F:PH):Prop:=Nb F (.cells zD 31) λd F=>Ca 135 #[Sl.v b,(vi (max 0 (min c 6))),(vi 0),(vi 0)] F λa F=>au F (Am d 0) 2 a λF=>Rr 2 (Am d 0) R F
theorem TL {a:Sl} {b:Int} (h:Qe a b R F):ai prog 82 #[Sl.v a,(vi b)] F R:=Rx.sxC (args:=[Sl.v a,(vi b)]) .N (by kernel_rfl) h
def Qf (b:Γ) (R:VR) (F:PH):Prop:=Nb F (.cells b 31) λe F=>Nb F (.cells zD 31) λf F=>Lr F 2 (Am e 0) λa=>Ca 34 #[.bool true] F λc F=>F.row (Am e 0) a/\Ca 110 #[.agg a,.agg c,(vi 2)] F λd F=>au F (Am f 0) 2 d λF=>Rr 2 (Am f 0) R F
theorem TM {a:Γ} (h:Qf a R F):ai prog 86 #[.agg a] F R:=Rx.sxC (args:=[.agg a]) .N (by kernel_rfl) h
def lZ (c:Int) (d:Nat) (e:Bool) (R:VR) (F:PH):Prop:=Bb (e) (au F (Am d 0) 2 zD λF=>Lr F 2 (Am d 0) λb=>R (.tuple #[.agg b,(vi 1)]) F) ((#[(vi c),(vi 0),(vi 1)]:Γ).size=3/\Nb F (.cells (#[(vi c),(vi 0),(vi 1)]:Γ) 124) λf F=>au F (Am d 0) 2 (#[Sl.v (Sb f 1),(vi 2)]:Γ) λF=>Lr F 2 (Am d 0) λa=>R (.tuple #[.agg a,(vi 0)]) F)
def Kq (a:Int) (R:VR) (F:PH):Prop:=Nb F (.cells zD 31) λb F=>Bc (a<0) (lZ a b true R F) (lZ a b (decide (63<a)) R F)
theorem Qg {a:Int} (h:Kq a R F):ai prog 109 #[(vi a)] F R:=Rx.sxC (args:=[(vi a)]) (.T .N (.T (.J false [(9,.bool)] .N .N) .N)) (by kernel_rfl) h
def Kr (j k:Γ) (b:Int) (R:VR) (F:PH):Prop:=Nb F (.cells j 31) λl F=>Nb F (.cells k 31) λm F=>Nb F (.cells zD 31) λn F=>Lr F 2 (Am l 0) λc=>Lr F 2 (Am m 0) λa=>c.size=2/\a.size=2/\Nb F (.cells (Array.setIfInBounds (wr (wr (#[.slice none 0 0,vi 0,.slice none 0 0,vi 0,vi 0,.slice none 0 0,.slice none 0 0]:Γ) 0 c.toList) 2 a.toList) 4 (vi b)) 203) λd F=>Li F (Am l 1) λe=>Li F (Am m 1) λf=>Ci 160 #[(Pp d),(vi e),(vi f)] F λg F=>Ls F (Am d 5) λh=>Ca 161 #[Sl.v h,(vi g)] F λi F=>au F (Am n 0) 2 i λF=>Rr 2 (Am n 0) R F
theorem Qh {b:Γ} {c:Γ} {a:Int} (h:Kr b c a R F):ai prog 110 #[.agg b,.agg c,(vi a)] F R:=Rx.sxC (args:=[.agg b,.agg c,(vi a)]) .N (by kernel_rfl) h
def Kt (a b:Γ) (R:VR) (F:PH):Prop:=Nb F (.cells a 31) λg F=>Nb F (.cells b 31) λh F=>Nb F (.cells zD 31) λf F=>Lr F 2 (Am g 0) λc=>Lr F 2 (Am h 0) λd=>Ca 110 #[.agg c,.agg d,(vi 1)] F λe F=>au F (Am f 0) 2 e λF=>Rr 2 (Am f 0) R F
theorem Qi {a:Γ} {b:Γ} (h:Kt a b R F):ai prog 123 #[.agg a,.agg b] F R:=Rx.sxC (args:=[.agg a,.agg b]) .N (by kernel_rfl) h
def FK (d:Sl) (j c a:Int) (R:VR) (F:PH):Prop:=Nb F (.cells zD 31) λl F=>Bc (c=j) (Bc ((i64.wrap (Int.tdiv a 8))<(d.len:Int)) (Ix d (i64.wrap (Int.tdiv a 8)) λm=>∃g,F.cell (Addr.add m (Int.toNat (i64.wrap (Int.tdiv a 8))*1))=some (.int .u8 g)/\0<=(u64.wrap (Int.tmod a 8))/\Ca 34 #[.bool (decide ((u8.wrap ((BitVec.ofInt (u8).bits (Int.fdiv g (2 ^ (min (Int.toNat (u64.wrap (Int.tmod a 8))) (u8).bits))) &&& BitVec.ofInt (u8).bits 1).toNat))=1))] F λn F=>au F (Am l 0) 2 n λF=>Rr 2 (Am l 0) R F) (Ca 34 #[.bool false] F λe F=>au F (Am l 0) 2 e λF=>Rr 2 (Am l 0) R F)) (ai prog 109 #[(vi c)] F λv F=>∃h,∃f,v=(.tuple #[.agg h,(vi f)])/\Nb F (.cells zD 31) λk F=>au F (Am k 0) 2 h λF=>Lr F 2 (Am k 0) λi=>0<=(u64.wrap c)/\Lr F 2 (Am k 0) λb=>Ca 135 #[Sl.v d,(vi j),(vi (i64.wrap (c+1))),(vi (i64.wrap (a+(i64.wrap (1*2 ^ (min (Int.toNat (u64.wrap c)) (i64).bits))))))] F λo F=>F.row (Am k 0) b/\F.row (Am k 0) i/\Ca 45 #[.agg i,.agg o] F λp F=>F.row (Am k 0) b/\Ca 135 #[Sl.v d,(vi j),(vi (i64.wrap (c+1))),(vi a)] F λq F=>F.row (Am k 0) b/\Ca 175 #[.agg q,.agg b] F λr F=>Ca 123 #[.agg p,.agg r] F λs F=>au F (Am l 0) 2 s λF=>Rr 2 (Am l 0) R F)
theorem Ku {a:Sl} {b:Int} {c:Int} {d:Int} (h:FK a b c d R F):ai prog 135 #[Sl.v a,(vi b),(vi c),(vi d)] F R:=Rx.sxC (args:=[Sl.v a,(vi b),(vi c),(vi d)]) .N (by kernel_rfl) h
def vu (w:Θ) (h i:Int) (R:VR) (F:PH):Prop:=∃a,w=some a/\Lr F 2 a λr=>Lr F 2 (Addr.add a 2) λj=>Ci 192 #[.agg r,(vi h)] F λe F=>F.row (Addr.add a 2) j/\Ci 192 #[.agg j,(vi i)] F λf F=>Lr F 2 a λs=>ai prog 193 #[.agg s,(vi h),(vi (min e f))] F λv F=>∃k,∃c,v=(.tuple #[(vi k),(vi c)])/\Lr F 2 (Addr.add a 2) λt=>ai prog 193 #[.agg t,(vi i),(vi (min e f))] F λv F=>∃l,∃d,v=(.tuple #[(vi l),(vi d)])/\Ci 160 #[.pointer (some a),(vi k),(vi l)] F λm F=>Ci 160 #[.pointer (some a),(vi c),(vi d)] F λn F=>Ls F (Addr.add a 5) λo=>ai prog 194 #[Sl.v o,.agg (#[(vi (min e f)),(vi m),(vi n)]:Γ)] F λv F=>∃g,∃b,v=(.tuple #[Sl.v g,(vi b)])/\sto F (Addr.add a 5) (Sl.v g) λF=>Ls F (Addr.add a 6) λp=>(#[(vi h),(vi i),(vi b)]:Γ).size=3/\Nb F (.cells (#[(vi h),(vi i),(vi b)]:Γ) 215) λu F=>Ap 201 #[Sl.v p,Sl.v (Sb u 1)] F λq F=>sto F (Addr.add a 6) (Sl.v q) λF=>R (vi b) F
def pE (g:Ω) (a:Addr) (h i b:Int) (c:Bool) (R:VR) (F:PH):Prop:=Bb (c) (Ls F (Addr.add a 6) λd=>Ix d b λe=>0<=(2:Int)/\(2:Int)<3/\Li F (Addr.add (Addr.add e (Int.toNat b*3)) (Int.toNat 2*1)) λf=>R (vi f) F) (g (i64.wrap (b+1)) F)
def BG (m:Ω) (l:Θ) (c d:Int) (R:VR) (b:Int) (F:PH):Prop:=∃a,l=some a/\Ls F (Addr.add a 6) λe=>Bc (b<(e.len:Int)) (Ls F (Addr.add a 6) λf=>Ix f b λg=>0<=(0:Int)/\(0:Int)<3/\Li F (Addr.add (Addr.add g (Int.toNat b*3)) (Int.toNat 0*1)) λh=>Bc (h=c) (Ls F (Addr.add a 6) λi=>Ix i b λj=>0<=(1:Int)/\(1:Int)<3/\Li F (Addr.add (Addr.add j (Int.toNat b*3)) (Int.toNat 1*1)) λk=>pE m a c d b (decide (k=d)) R F) (pE m a c d b false R F)) (vu (some a) c d R F)
def ma (a:Θ) (b c:Int) (d:Bool) (R:VR) (F:PH):Prop:=Bb (d) (Ci 191 #[.pointer a,(vi b),(vi c)] F λe F=>R (vi e) F) (Lp 0 F λN f F=>BG N a b c R f F)
def Kv (c:Θ) (a b:Int) (R:VR) (F:PH):Prop:=Bc (a<2) (ma c a b (decide (b<2)) R F) (ma c a b false R F)
theorem Qj {a:Θ} {b:Int} {c:Int} (h:Kv a b c R F):ai prog 160 #[.pointer a,(vi b),(vi c)] F R:=Rx.sxC (args:=[.pointer a,(vi b),(vi c)]) (.T .N (.T (.J false [(22,.bool)] .N .N) (.J false [(0,.ptr)] (.T .N (.L [(7,.int .i64)] (.T .N (.T (.J false [(57,.bool)] .N .N) .N)))) .N))) (by kernel_rfl) h
def Kw (a:Sl) (b:Int) (R:VR) (F:PH):Prop:=Nb F (.cells zD 31) λg F=>aG prog (Instr.makeSlice 67 (vi (a.len:Int)) (vi (a.len:Int))) F λv F=>∃c,v=(Sl.v c)/\Nb F (.cells (#[Sl.v a,Sl.v c,.slice none 0 0]:Γ) 243) λd F=>Ci 195 #[(Pp d),(vi b)] F λe F=>Ls F (Am d 2) λf=>au F (Am g 0) 2 (#[Sl.v f,(vi e)]:Γ) λF=>Rr 2 (Am g 0) R F
theorem Qk {a:Sl} {b:Int} (h:Kw a b R F):ai prog 161 #[Sl.v a,(vi b)] F R:=Rx.sxC (args:=[Sl.v a,(vi b)]) .N (by kernel_rfl) h
def Kx (b c:Γ) (R:VR) (F:PH):Prop:=Nb F (.cells b 31) λg F=>Nb F (.cells c 31) λi F=>Nb F (.cells zD 31) λh F=>Lr F 2 (Am g 0) λa=>Lr F 2 (Am i 0) λd=>Ca 86 #[.agg d] F λe F=>F.row (Am g 0) a/\Ca 45 #[.agg a,.agg e] F λf F=>au F (Am h 0) 2 f λF=>Rr 2 (Am h 0) R F
theorem Ql {a:Γ} {b:Γ} (h:Kx a b R F):ai prog 175 #[.agg a,.agg b] F R:=Rx.sxC (args:=[.agg a,.agg b]) .N (by kernel_rfl) h
def Ky (e:Θ) (c d:Int) (R:VR) (F:PH):Prop:=∃a,e=some a/\Li F (Addr.add a 4) λb=>Bc (b=0) (R (vi (i64.wrap (c*d))) F) (Bc (b=1) (R (vi (max c d)) F) (R (vi (Int.tmod (i64.wrap (c+d)) 2)) F))
theorem Qm {a:Θ} {b:Int} {c:Int} (h:Ky a b c R F):ai prog 191 #[.pointer a,(vi b),(vi c)] F R:=Rx.sxC (args:=[.pointer a,(vi b),(vi c)]) .N (by kernel_rfl) h
def Kz (d:Γ) (b:Int) (R:VR) (F:PH):Prop:=Nb F (.cells d 31) λf F=>Bc (b<2) (R (vi 64) F) (Ls F (Am f 0) λe=>Ix e (i64.wrap (b - 2)) λc=>∃a,F.cell (Addr.add c (Int.toNat (i64.wrap (b - 2))*3))=some (vi a)/\R (vi a) F)
theorem Qn {a:Γ} {b:Int} (h:Kz a b R F):ai prog 192 #[.agg a,(vi b)] F R:=Rx.sxC (args:=[.agg a,(vi b)]) .N (by kernel_rfl) h
def KA (i:Γ) (a j:Int) (R:VR) (F:PH):Prop:=Nb F (.cells i 31) λk F=>Lr F 2 (Am k 0) λl=>Ci 192 #[.agg l,(vi a)] F λd F=>Bc (d≠j) (R (.tuple #[(vi a),(vi a)]) F) (Ls F (Am k 0) λe=>Ix e (i64.wrap (a - 2)) λf=>∃b,F.cell (Addr.add (Addr.add f (Int.toNat (i64.wrap (a - 2))*3)) 1)=some (vi b)/\Ls F (Am k 0) λg=>Ix g (i64.wrap (a - 2)) λh=>∃c,F.cell (Addr.add (Addr.add h (Int.toNat (i64.wrap (a - 2))*3)) 2)=some (vi c)/\R (.tuple #[(vi b),(vi c)]) F)
theorem Qo {a:Γ} {b:Int} {c:Int} (h:KA a b c R F):ai prog 193 #[.agg a,(vi b),(vi c)] F R:=Rx.sxC (args:=[.agg a,(vi b),(vi c)]) .N (by kernel_rfl) h
def BH (c:Sl) (e:Nat) (R:VR) (F:PH):Prop:=Lr F 3 (Am e 0) λa=>a.size=3/\Nb F (.cells a 124) λd F=>Ap 29 #[Sl.v c,Sl.v (Sb d 1)] F λb F=>R (.tuple #[Sl.v b,(vi (i64.wrap ((b.len:Int)+1)))]) F
def BI (h:Ω) (b:Sl) (g:Nat) (R:VR) (a:Int) (F:PH):Prop:=Bc (a<(b.len:Int)) (Ix b a λd=>Lr F 3 (Addr.add d (Int.toNat a*3)) λe=>Lr F 3 (Am g 0) λf=>∃c,(∀F,rdo prog (Op.equal 124 (.agg e) (.agg f)) F c)/\Bb (c) (R (.tuple #[Sl.v b,(vi (i64.wrap (a+2)))]) F) (h (i64.wrap (a+1)) F)) (BH b g R F)
def KB (a:Sl) (e:Γ) (R:VR) (F:PH):Prop:=Nb F (.cells e 124) λd F=>Li F (Am d 1) λf=>Li F (Am d 2) λb=>Bc (f=b) (Li F (Am d 1) λc=>R (.tuple #[Sl.v a,(vi c)]) F) (Lp 0 F λN g F=>BI N a d R g F)
theorem Qp {a:Sl} {b:Γ} (h:KB a b R F):ai prog 194 #[Sl.v a,.agg b] F R:=Rx.sxC (args:=[Sl.v a,.agg b]) (.T .N (.T .N (.J false [] (.T .N (.L [(6,.int .i64)] .N)) .N))) (by kernel_rfl) h
def FL (x:Θ) (b:Int) (R:VR) (F:PH):Prop:=Bc (b<2) (R (vi b) F) (∃a,x=some a/\Ls F (Addr.add a 1) λi=>Ix i (i64.wrap (b - 2)) λj=>∃e,F.cell (Addr.add j (Int.toNat (i64.wrap (b - 2))*1))=some (vi e)/\Bc (0<e) (Ls F (Addr.add a 1) λk=>Ix k (i64.wrap (b - 2)) λl=>∃f,F.cell (Addr.add l (Int.toNat (i64.wrap (b - 2))*1))=some (vi f)/\R (vi f) F) (Ls F a λm=>Ix m (i64.wrap (b - 2)) λn=>∃c,c.size=3/\F.row (Addr.add n (Int.toNat (i64.wrap (b - 2))*3)) c/\Nb F (.cells (#[vi 0,vi 0,vi 0]) 124) λo F=>au F (Am o 0) 3 c λF=>Li F (Am o 1) λp=>Ci 195 #[.pointer (some a),(vi p)] F λg F=>Li F (Am o 2) λq=>Ci 195 #[.pointer (some a),(vi q)] F λh F=>Ls F (Addr.add a 2) λr=>Li F (Am o 0) λd=>(#[(vi d),(vi g),(vi h)]:Γ).size=3/\Nb F (.cells (#[(vi d),(vi g),(vi h)]:Γ) 124) λy F=>Ap 29 #[Sl.v r,Sl.v (Sb y 1)] F λs F=>F.cell (Am o 0)=some (vi d)/\sto F (Addr.add a 2) (Sl.v s) λF=>Ls F (Addr.add a 1) λt=>Ls F (Addr.add a 2) λu=>Ix t (i64.wrap (b - 2)) λv=>sto F (Addr.add v (Int.toNat (i64.wrap (b - 2))*1)) (vi (i64.wrap ((u.len:Int)+1))) λF=>Ls F (Addr.add a 2) λw=>R (vi (i64.wrap ((w.len:Int)+1))) F))
theorem KC {a:Θ} {b:Int} (h:FL a b R F):ai prog 195 #[.pointer a,(vi b)] F R:=Rx.sxC (args:=[.pointer a,(vi b)]) .N (by kernel_rfl) h
def KD (a:Γ) (R:VR) (F:PH):Prop:=Nb F (.cells a 31) λe F=>Ls F (Am e 0) λb=>Bc ((4096:Int)<(b.len:Int)) (R (vi 2) F) (Lr F 2 (Am e 0) λc=>Cbo 210 #[.agg c] F λd F=>Bb ((!d)) (R (vi 20) F) (R (vi 0) F))
theorem Qq {a:Γ} (h:KD a R F):ai prog 197 #[.agg a] F R:=Rx.sxC (args:=[.agg a]) .N (by kernel_rfl) h
def BJ (f:Nat) (R:VR) (F:PH):Prop:=Lr F 2 (Am f 0) λa=>Ls F (Am f 0) λb=>Li F (Am f 1) λc=>Ca 161 #[Sl.v b,(vi c)] F λd F=>F.row (Am f 0) a/\Cbo 50 #[.agg a,.agg d] F λe F=>R (.bool e) F
def BK (f:Ω) (e:Nat) (R:VR) (a:Int) (F:PH):Prop:=Ls F (Am e 0) λb=>Bc (a<(b.len:Int)) (Lr F 2 (Am e 0) λc=>Cbo 216 #[.agg c,(vi a)] F λd F=>Bb ((!d)) (R (.bool false) F) (f (i64.wrap (a+1)) F)) (BJ e R F)
def KE (c:Γ) (R:VR) (F:PH):Prop:=Nb F (.cells c 31) λb F=>Li F (Am b 1) λd=>Bc (d<0) (R (.bool false) F) (Li F (Am b 1) λe=>Ls F (Am b 0) λa=>Bc ((i64.wrap ((a.len:Int)+2))<=e) (R (.bool false) F) (Lp 0 F λN f F=>BK N b R f F))
theorem Qr {a:Γ} (h:KE a R F):ai prog 210 #[.agg a] F R:=Rx.sxC (args:=[.agg a]) (.T .N (.T .N (.J false [] (.T .N (.L [(3,.int .i64)] .N)) .N))) (by kernel_rfl) h
def BL (R:VR) (F:PH):Prop:=R (.bool true) F
def BM (h:Ω) (g:Int) (i j:Nat) (R:VR) (a:Int) (F:PH):Prop:=Bc (a<g) (Ls F (Am i 0) λc=>Ix c a λd=>Lr F 3 (Addr.add d (Int.toNat a*3)) λe=>Lr F 3 (Am j 0) λf=>∃b,(∀F,rdo prog (Op.equal 124 (.agg e) (.agg f)) F b)/\Bb (b) (R (.bool false) F) (h (i64.wrap (a+1)) F)) (BL R F)
def KG (v:Γ) (b:Int) (R:VR) (F:PH):Prop:=Nb F (.cells v 31) λu F=>Ls F (Am u 0) λw=>Ix w b λe=>Lr F 3 (Addr.add e (Int.toNat b*3)) λf=>Nb F (.cells (#[vi 0,vi 0,vi 0]) 124) λa F=>au F (Am a 0) 3 f λF=>Li F (Am a 0) λg=>Bc (g<0) (R (.bool false) F) (Li F (Am a 0) λh=>Bc (63<h) (R (.bool false) F) (Li F (Am a 1) λi=>Bc (i<0) (R (.bool false) F) (Li F (Am a 2) λj=>Bc (j<0) (R (.bool false) F) (Li F (Am a 1) λk=>Bc ((i64.wrap (b+2))<=k) (R (.bool false) F) (Li F (Am a 2) λl=>Bc ((i64.wrap (b+2))<=l) (R (.bool false) F) (Li F (Am a 1) λm=>Li F (Am a 2) λn=>Bc (m=n) (R (.bool false) F) (Lr F 2 (Am u 0) λo=>Li F (Am a 1) λp=>Li F (Am a 0) λc=>Ci 192 #[.agg o,(vi p)] F λq F=>F.cell (Am a 0)=some (vi c)/\Bc (q<=c) (R (.bool false) F) (Lr F 2 (Am u 0) λr=>Li F (Am a 2) λs=>Li F (Am a 0) λd=>Ci 192 #[.agg r,(vi s)] F λt F=>F.cell (Am a 0)=some (vi d)/\F.cell (Am a 0)=some (vi c)/\Bc (t<=d) (R (.bool false) F) (Lp 0 F λN x F=>BM N b u a R x F)))))))))
theorem Qt {a:Γ} {b:Int} (h:KG a b R F):ai prog 216 #[.agg a,(vi b)] F R:=Rx.sxC (args:=[.agg a,(vi b)]) (.T .N (.T .N (.T .N (.T .N (.J false [] (.T .N (.L [(6,.int .i64)] .N)) .N))))) (by kernel_rfl) h
theorem iD {F:PH} {v w:Γ} {d e:Dia} (hd:DV F v d) (he:DV F w e) (hl:Fit d.1.length):ai prog 50 #[.agg v,.agg w] F λr F'=>r=.bool (decide (d=e))/\F.le F':=by
 obtain ⟨s,rfl,hr⟩:=hd;obtain ⟨t,rfl,ht⟩:=he;refine TK ?_;unfold Qd;intro b2 hb2;refine atI ?_;have hle2:=ae (.cells #[s.v,vi d.2] 31) hb2;intro b3 hb3;refine atI ?_;have hle3:=ae (.cells #[t.v,vi e.2] 31) hb3;have hle:F.le _:=λb o h=>hle3 b o (hle2 b o h);have hc2:=hle3 _ _ (al F b2 (.cells #[s.v,vi d.2] 31));have hc3:=al (F.set b2 (.cells #[s.v,vi d.2] 31)) b3 (.cells #[t.v,vi e.2] 31);generalize (F.set b2 (.cells #[s.v,vi d.2] 31)).set b3 (.cells #[t.v,vi e.2] 31)=G at*;replace hr:=hr.le hle;replace ht:=ht.le hle;have lens:=hr.blen;have lent:=ht.blen;have cs:G.cell ⟨b2,0,none⟩=some s.v:=by rw [am hc2];rfl
 have ct:G.cell ⟨b3,0,none⟩=some t.v:=by rw [am hc3];rfl
 obtain ⟨x,d2⟩:=d;obtain ⟨y,e2⟩:=e;simp only at hl lens lent hr ht hc2 hc3;refine ⟨d2,by rw [am hc2];rfl,e2,by rw [am hc3];rfl,λh=> ?_,λh=> ?_⟩
 ·refine ⟨?_,hle⟩;simp [h]
 have h:d2=e2:=by omega
 subst h;refine ⟨s,cs,t,ct,λhn=> ?_,λhn=> ?_⟩
 ·refine ⟨?_,hle⟩;have:¬x=y:=λe=>by subst e;omega
  simp [this]
 have hlen:x.length=y.length:=by omega
 refine ⟨λm i F'=>∃k:Nat,i=k/\k<=x.length/\m=x.length - k/\F'=G/\x.take k=y.take k,x.length,⟨0,rfl,by omega,rfl,rfl,rfl⟩,?_⟩;rintro m i F' ⟨k,rfl,hk,rfl,rfl,htake⟩;unfold FJ;refine ⟨s,cs,λhlt=> ?_,λhge=> ?_⟩
 ·have hkx:k<x.length:=by omega
  have hky:k<y.length:=by omega
  obtain ⟨p,hp,hpr,_⟩:=rdb hr (N5 hkx);obtain ⟨q,hq,hqr,_⟩:=rdb ht (N5 hky);refine ⟨s,cs,p,hp,by omega,hlt,aV x[k],rfl,by simpa using hpr,t,ct,q,hq,by omega,by omega,aV y[k],rfl,by simpa using hqr,decide (x[k]=y[k]),λF=>Ff x[k] y[k] F,λhne=> ?_,λheq=> ?_⟩
  ·refine ⟨?_,hle⟩;have:¬x=y:=by rintro rfl;simp at hne
   simp [this]
  ·refine ⟨x.length - (k+1),by omega,k+1,i6 (by omega),by omega,rfl,rfl,?_⟩;rw [Vh hkx,Vh hky,htake];simp at heq;rw [heq]
 ·refine ⟨?_,hle⟩;have hk':k=x.length:=by omega
  rw [hk',U7,hlen,U7] at htake;simp [htake]
def gW (t:Tr):Prop:=t.ok/\(aL t).length<=4096
theorem FM {t:Tr} (h:t.ok) (hc:cnt t<=4096):gW t:=⟨h,VK (oz t) hc⟩
theorem nD {t:Tr} (h:gW t):chk (dia t)=0:=pG h.1 h.2
theorem Dc {t:Tr} (h:gW t):lim (dia t)=(dia t,0):=by unfold lim;rw [if_neg];have:=h.2;simp only [dia,aO];omega
theorem xM {a b:Tr} (ha:gW a) (hb:gW b):me [dia a,dia b]=0:=by simp [me,nD ha,nD hb]
theorem M1 {o:Op2} {a b:Tr} (ha:gW a) (hb:gW b):bin o (dia a) (dia b)=lim (dia (ap (λx y _=>o x y) a b (leaf false))):=by unfold bin;rw [xM ha hb,if_neg (by simp),dJ ha.1,dJ hb.1]
theorem FN {o:Op2} {a b t:Tr} (ha:gW a) (hb:gW b) (ht:gW t) (he:∀c,t.ev c=o (a.ev c) (b.ev c)):bin o (dia a) (dia b)=(dia t,0):=by have:ap (λx y _=>o x y) a b (leaf false)=t:=iv ht.1 λc=>he c;rw [M1 ha hb,this,Dc ht]
theorem BN {v:Nat} (h:v<64):sU v=(dia (tv v),0):=by unfold sU;rw [if_neg (by omega),N4]
theorem rm {a:Tr} (ha:gW a) (c:Int):gH (dia a) c=a.ev (cfg c):=by unfold gH;rw [nD ha,if_neg (by simp),dJ ha.1]
theorem pF {a:Tr} (ha:gW a):Fit (dia a).1.length:=by have:=ha.2;simp only [dia,aO];omega
end Go.Proofs.YtcemhghkipgdiaaGreatDoor
