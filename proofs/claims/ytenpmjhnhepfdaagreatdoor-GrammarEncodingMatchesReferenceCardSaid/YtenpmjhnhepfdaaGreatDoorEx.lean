/-
  The reference's diagrams: level, sides, constants, conditions; the walk that numbers the branches.
-/
import Derived.Test.YtenpmjhnhepfdaaGreatDoorEl
import Derived.Test.YtenpmjhnhepfdaaGreatDoorPhp
import Derived.Test.YtenpmjhnhepfdaaGreatDoorEa
namespace Go.Proofs.YtenpmjhnhepfdaaGreatDoor
open Go.IntKind (i64 u8 u64)
open Go Go.Proofs.Tryz Tr
set_option maxRecDepth 10000
theorem yZ {w:Nat} {b:Bool} {T:Tr} (hT:T.ok):∀(t:Tr),inn (aO T) t->∀(S:List Tr),Cl S->∀u∈vis (fx w b t) S,u∈S\/u∈(aO T).map (fx w b)
 |leaf x,_,S,_=>by rw [jH];exact λu hu=> .inl hu
 |node v l h,ht,S,hS=>by
  have hcl:=cT hT;have hk:=hcl.inn_ok ht;obtain ⟨il,ih⟩:=hcl.inn_kids ht;have hf:=u7 (w:=w) (b:=b) hk;obtain ⟨h0,h1,h2,h3,h4,h5⟩:=hk;obtain ⟨l1,l2,l3⟩:=du w b h4;obtain ⟨g1,g2,g3⟩:=du w b h5;have vl:=yZ (w:=w) (b:=b) hT l il;have vh:=yZ (w:=w) (b:=b) hT h ih;by_cases hv:v=w
  ·rw [if_pos hv] at hf;rw [hf];split
   ·exact vh S hS
   ·exact vl S hS
  ·rw [if_neg hv] at hf;have hadd:=xA hS (v:=v) (l:=fx w b l) (h:=fx w b h) ⟨h0,by omega,by omega,l1,g1⟩;rw [<- hf] at hadd;rw [<- hadd];intro u hu;have key:u∈vis (fx w b h) (vis (fx w b l) S)->u∈S\/u∈(aO T).map (fx w b):=λhu=>by
    rcases vh _ (bE _ S l1 hS).1 u hu with h|h
    ·exact vl S hS u h
    ·exact .inr h
   unfold dR at hu;split at hu
   ·exact key hu
   ·rcases XD.1 hu with hu|hu
    ·exact key hu
    ·rw [XC.1 hu];exact .inr (X3.2 ⟨_,cR ht rfl,rfl⟩)
theorem ni {w:Nat} {b:Bool} {t:Tr} (ht:t.ok):(aO (fx w b t)).length<=(aO t).length:=by
 have:=dG (aO (fx w b t)) ((aO t).map (fx w b)) (cT (du w b ht).1).nodup λx hx=>by
  rcases yZ ht t (cH ht) [] .nil x hx with h|h
  ·cases h
  ·exact h
 simpa using this
noncomputable def sU (a:Dia) (v:Int) (b:Bool):DR:=if chk a≠0 then (i8,chk a) else if v<0\/63<v then (i8,1) else lim (dia (fx v.toNat b (tre a)))
section
variable {F:PH} {v:Γ} {a:Dia}
theorem sV (ha:DV F v a) (w:Int) (x:Bool):ae prog 92 #[.agg v,vi w,.bool x] F λr F'=>DRV F' r (sU a w x)/\F.le F':=by
 refine Wt ?_;unfold R8;intro b3 hb3;refine atI ?_;have l3:=ac (.cells v 33) hb3;have q3:=aq F b3 (.cells v 33);generalize F.set b3 (.cells v 33)=F3 at*;intro b6 hb6;refine atI ?_;have f6:F b6=none:=aY l3 hb6;have lx:=ac (.cells zD 33) hb6;have q6:=aq F3 b6 (.cells zD 33);replace q3:=lx _ _ q3;have l6:=l3.trans lx;clear lx;generalize F3.set b6 (.cells zD 33)=F6 at*;refine ⟨v,ha.size,aj q3,?_⟩;refine (qE (ha.le l6)).mono ?_;rintro _ F7 ⟨rfl,l7⟩;replace q3:=l7 _ _ q3;replace q6:=l7 _ _ q6;replace l7:=l6.trans l7;refine ⟨_,rfl,λh=> ?_,λh=> ?_⟩
 ·have e:sU a w x=(i8,chk a):=by unfold sU;rw [if_pos h]
  rw [e];exact zd q6 rfl l7 f6
 have h0:chk a=0:=by omega
 have bad:w<0\/63<w->qP w x b3 b6 true (λr F'=>DRV F' r (sU a w x)/\F.le F') F7:=λhb=>by
  unfold qP;refine ⟨λ_=> ?_,λhc=>by cases hc⟩;have e:sU a w x=(i8,1):=by unfold sU;rw [if_neg h,if_pos hb]
  rw [e];exact zd q6 rfl l7 f6
 refine ⟨λhb=>bad (.inl hb),λhb=> ?_⟩;by_cases hb2:63<w
 ·rw [decide_eq_true hb2];exact bad (.inr hb2)
 ·rw [decide_eq_false hb2];unfold qP;refine ⟨λhc=>(by cases hc),λ_=>⟨v,ha.size,aj q3,?_⟩⟩;have e:sU a w x=lim (dia (fx w.toNat x (tre a))):=by unfold sU;rw [if_neg h,if_neg (by omega)]
  obtain ⟨ka,ea,la⟩:=Ra h0;have ld:F.le (eH F7 b6):=fL l7 f6;have hd:=ha.le ld;rw [ea] at hd;have hw:((w.toNat:Nat):Int)=w:=by omega
  have hf:=ze hd ka (FS h0) w.toNat x;rw [hw] at hf;refine (gf hf q6).mono ?_;rintro _ F9 ⟨z,rfl,⟨G,hz,lG,gG⟩,l9,q9⟩;refine ⟨_,rfl,?_⟩;rw [e];refine (FT (u6 (hz.beside lG gG)) q9).mono ?_;rintro _ F10 ⟨z',rfl,⟨G',hz',lG',gG'⟩,l10,q10⟩;exact ⟨_,_,rfl,Rb hz' lG' gG' q10 rfl (l7.trans (l9.trans l10)) f6⟩
def cfg (c:Int):Cf:=λi=>c.toNat.testBit i
theorem oL {x:Int} (h1:0<=x) (h2:x<18446744073709551616):u64.wrap x=x:=by unfold IntKind.wrap;simp only [IntKind.bits,IntKind.signed];simp only [Y8,X7,if_false];omega
theorem tM (n:Nat) (h:n<18446744073709551616):(BitVec.ofInt (u64).bits (n:Int)).toNat=n:=by show (BitVec.ofInt 64 (n:Int)).toNat=n;rw [BitVec.toNat_ofInt];omega
end
set_option maxHeartbeats 4000000
def lm (n:Nat):Δ:=if h:n=0 then [] else n % 4294967296::lm (n / 4294967296)
termination_by n
decreasing_by exact Nat.div_lt_self (by omega) (by decide)
abbrev We (l:Δ):Ξ:=l.map λ(x:Nat)=>Value.int .u32 (x:Int)
def NV (F:PH) (s:Sl) (n:Nat):Prop:=RdS F s 1 (We (lm n))
theorem NV.le {F G:PH} {s:Sl} {n:Nat} (h:NV F s n) (hl:F.le G):NV G s n:=RdS.le h hl
section
end
section
end
def dq (n:Nat):Tr->Prop
 |leaf _=>True
 |node v l h=>v<n/\dq n l/\dq n h
theorem nj {F G:PH} {x:Nat} (h:F.le G):(eH F x).le (eH G x):=λy o hy=>by
 have hne:y≠x:=λe=>by rw [e,zc] at hy;cases hy
 rw [gc hne] at hy ⊢;exact h _ _ hy
section
end
theorem qD {T:List Tr} (hT:Cl T) {n:Nat} (h:∀x∈T,x.top<n):∀(t:Tr),inn T t->dq n t
 |leaf _,_=>trivial
 |node v l r,ht=>by obtain ⟨il,ir⟩:=hT.inn_kids ht;exact ⟨h _ (cR ht rfl),qD hT h l il,qD hT h r ir⟩
section
end
theorem OK {x v:Nat} (hx:x<18446744073709551616) (hv:v<64):
  (u64.wrap ((BitVec.ofInt (u64).bits (x:Int) ||| BitVec.ofInt (u64).bits (u64.wrap ((1:Int)*2 ^ (min (Int.toNat (v:Int)) (u64).bits)))).toNat))=((x ||| 2 ^ v:Nat):Int):=by
 have hm:min (Int.toNat (v:Int)) (u64).bits=v:=by simp only [IntKind.bits,N5];omega
 have hp:2 ^ v<2 ^ 64:=Y0 (by decide) hv;have e1:(1:Int)*2 ^ v=((2 ^ v:Nat):Int):=by simp
 have ho:x ||| 2 ^ v<2 ^ 64:=Nat.or_lt_two_pow (by omega) hp;rw [hm,e1];generalize 2 ^ v=w at*;rw [oL (x:=(w:Int)) (by omega) (by omega),BitVec.toNat_or,tM _ hx,tM _ (by omega),oL (by omega) (by omega)]
theorem xv {S:List Tr} {t:Tr}:num S t=0↔t=leaf false:=by
 cases t with
 |leaf b=>cases b<;>simp [num]
 |node v l h=>
  have:=eX (S:=S) (t:=node v l h) rfl;constructor
  ·intro h;omega
  ·intro h;cases h
section
end
variable {R:VR} {F:PH}
set_option maxRecDepth 10000
set_option maxHeartbeats 4000000
def QS (b:Sl) (c:Int) (R:VR) (F:PH):Prop:=Nb F (.cells zD 33) λd F=>Ca 106 #[Sl.v b,(vi (max 0 (min c 6))),(vi 0),(vi 0)] F λa F=>aw F (Am d 0) 2 a λF=>Rr 2 (Am d 0) R F
theorem Wf {a:Sl} {b:Int} (h:QS a b R F):ae prog 35 #[Sl.v a,(vi b)] F R:=Rx.sxC (args:=[Sl.v a,(vi b)]) .N (by kernel_rfl) h
def QT (a:Bool) (R:VR) (F:PH):Prop:=Nb F (.cells zD 33) λb F=>Bb (a) (aw F (Am b 0) 2 (#[.slice none 0 0,(vi 1)]:Γ) λF=>Rr 2 (Am b 0) R F) (aw F (Am b 0) 2 zD λF=>Rr 2 (Am b 0) R F)
theorem Wg {a:Bool} (h:QT a R F):ae prog 89 #[.bool a] F R:=Rx.sxC (args:=[.bool a]) .N (by kernel_rfl) h
def QU (b:Γ) (R:VR) (F:PH):Prop:=Nb F (.cells b 33) λe F=>Nb F (.cells zD 33) λf F=>Lr F 2 (Am e 0) λa=>Ca 89 #[.bool true] F λc F=>F.row (Am e 0) a/\Ca 166 #[.agg a,.agg c,(vi 2)] F λd F=>aw F (Am f 0) 2 d λF=>Rr 2 (Am f 0) R F
theorem Wh {a:Γ} (h:QU a R F):ae prog 97 #[.agg a] F R:=Rx.sxC (args:=[.agg a]) .N (by kernel_rfl) h
def FM (d:Sl) (j c a:Int) (R:VR) (F:PH):Prop:=Nb F (.cells zD 33) λl F=>Bc (c=j) (Bc ((i64.wrap (Int.tdiv a 8))<(d.len:Int)) (Ix d (i64.wrap (Int.tdiv a 8)) λm=>∃g,F.cell (Addr.add m (Int.toNat (i64.wrap (Int.tdiv a 8))*1))=some (.int .u8 g)/\0<=(u64.wrap (Int.tmod a 8))/\Ca 89 #[.bool (decide ((u8.wrap ((BitVec.ofInt (u8).bits (Int.fdiv g (2 ^ (min (Int.toNat (u64.wrap (Int.tmod a 8))) (u8).bits))) &&& BitVec.ofInt (u8).bits 1).toNat))=1))] F λn F=>aw F (Am l 0) 2 n λF=>Rr 2 (Am l 0) R F) (Ca 89 #[.bool false] F λe F=>aw F (Am l 0) 2 e λF=>Rr 2 (Am l 0) R F)) (ae prog 165 #[(vi c)] F λv F=>∃h,∃f,v=(.tuple #[.agg h,(vi f)])/\Nb F (.cells zD 33) λk F=>aw F (Am k 0) 2 h λF=>Lr F 2 (Am k 0) λi=>0<=(u64.wrap c)/\Lr F 2 (Am k 0) λb=>Ca 106 #[Sl.v d,(vi j),(vi (i64.wrap (c+1))),(vi (i64.wrap (a+(i64.wrap (1*2 ^ (min (Int.toNat (u64.wrap c)) (i64).bits))))))] F λo F=>F.row (Am k 0) b/\F.row (Am k 0) i/\Ca 170 #[.agg i,.agg o] F λp F=>F.row (Am k 0) b/\Ca 106 #[Sl.v d,(vi j),(vi (i64.wrap (c+1))),(vi a)] F λq F=>F.row (Am k 0) b/\Ca 171 #[.agg q,.agg b] F λr F=>Ca 169 #[.agg p,.agg r] F λs F=>aw F (Am l 0) 2 s λF=>Rr 2 (Am l 0) R F)
theorem LI {a:Sl} {b:Int} {c:Int} {d:Int} (h:FM a b c d R F):ae prog 106 #[Sl.v a,(vi b),(vi c),(vi d)] F R:=Rx.sxC (args:=[Sl.v a,(vi b),(vi c),(vi d)]) .N (by kernel_rfl) h
def ly (c:Int) (d:Nat) (e:Bool) (R:VR) (F:PH):Prop:=Bb (e) (aw F (Am d 0) 2 zD λF=>Lr F 2 (Am d 0) λb=>R (.tuple #[.agg b,(vi 1)]) F) ((#[(vi c),(vi 0),(vi 1)]:Γ).size=3/\Nb F (.cells (#[(vi c),(vi 0),(vi 1)]:Γ) 103) λf F=>aw F (Am d 0) 2 (#[Sl.v (Sb f 1),(vi 2)]:Γ) λF=>Lr F 2 (Am d 0) λa=>R (.tuple #[.agg a,(vi 0)]) F)
def LJ (a:Int) (R:VR) (F:PH):Prop:=Nb F (.cells zD 33) λb F=>Bc (a<0) (ly a b true R F) (ly a b (decide (63<a)) R F)
theorem QV {a:Int} (h:LJ a R F):ae prog 165 #[(vi a)] F R:=Rx.sxC (args:=[(vi a)]) (.T .N (.T (.J false [(9,.bool)] .N .N) .N)) (by kernel_rfl) h
def LL (j k:Γ) (b:Int) (R:VR) (F:PH):Prop:=Nb F (.cells j 33) λl F=>Nb F (.cells k 33) λm F=>Nb F (.cells zD 33) λn F=>Lr F 2 (Am l 0) λc=>Lr F 2 (Am m 0) λa=>c.size=2/\a.size=2/\Nb F (.cells (Array.setIfInBounds (wr (wr (#[.slice none 0 0,vi 0,.slice none 0 0,vi 0,vi 0,.slice none 0 0,.slice none 0 0]:Γ) 0 c.toList) 2 a.toList) 4 (vi b)) 296) λd F=>Li F (Am l 1) λe=>Li F (Am m 1) λf=>Ci 213 #[(Pp d),(vi e),(vi f)] F λg F=>Ls F (Am d 5) λh=>Ca 214 #[Sl.v h,(vi g)] F λi F=>aw F (Am n 0) 2 i λF=>Rr 2 (Am n 0) R F
theorem QW {b:Γ} {c:Γ} {a:Int} (h:LL b c a R F):ae prog 166 #[.agg b,.agg c,(vi a)] F R:=Rx.sxC (args:=[.agg b,.agg c,(vi a)]) .N (by kernel_rfl) h
def LM (a b:Γ) (R:VR) (F:PH):Prop:=Nb F (.cells a 33) λg F=>Nb F (.cells b 33) λh F=>Nb F (.cells zD 33) λf F=>Lr F 2 (Am g 0) λc=>Lr F 2 (Am h 0) λd=>Ca 166 #[.agg c,.agg d,(vi 1)] F λe F=>aw F (Am f 0) 2 e λF=>Rr 2 (Am f 0) R F
theorem QX {a:Γ} {b:Γ} (h:LM a b R F):ae prog 169 #[.agg a,.agg b] F R:=Rx.sxC (args:=[.agg a,.agg b]) .N (by kernel_rfl) h
def LN (a b:Γ) (R:VR) (F:PH):Prop:=Nb F (.cells a 33) λg F=>Nb F (.cells b 33) λh F=>Nb F (.cells zD 33) λf F=>Lr F 2 (Am g 0) λc=>Lr F 2 (Am h 0) λd=>Ca 166 #[.agg c,.agg d,(vi 0)] F λe F=>aw F (Am f 0) 2 e λF=>Rr 2 (Am f 0) R F
theorem QY {a:Γ} {b:Γ} (h:LN a b R F):ae prog 170 #[.agg a,.agg b] F R:=Rx.sxC (args:=[.agg a,.agg b]) .N (by kernel_rfl) h
def LO (b c:Γ) (R:VR) (F:PH):Prop:=Nb F (.cells b 33) λg F=>Nb F (.cells c 33) λi F=>Nb F (.cells zD 33) λh F=>Lr F 2 (Am g 0) λa=>Lr F 2 (Am i 0) λd=>Ca 97 #[.agg d] F λe F=>F.row (Am g 0) a/\Ca 170 #[.agg a,.agg e] F λf F=>aw F (Am h 0) 2 f λF=>Rr 2 (Am h 0) R F
theorem QZ {a:Γ} {b:Γ} (h:LO a b R F):ae prog 171 #[.agg a,.agg b] F R:=Rx.sxC (args:=[.agg a,.agg b]) .N (by kernel_rfl) h
def uY (w:Θ) (h i:Int) (R:VR) (F:PH):Prop:=∃a,w=some a/\Lr F 2 a λr=>Lr F 2 (Addr.add a 2) λj=>Ci 231 #[.agg r,(vi h)] F λe F=>F.row (Addr.add a 2) j/\Ci 231 #[.agg j,(vi i)] F λf F=>Lr F 2 a λs=>ae prog 232 #[.agg s,(vi h),(vi (min e f))] F λv F=>∃k,∃c,v=(.tuple #[(vi k),(vi c)])/\Lr F 2 (Addr.add a 2) λt=>ae prog 232 #[.agg t,(vi i),(vi (min e f))] F λv F=>∃l,∃d,v=(.tuple #[(vi l),(vi d)])/\Ci 213 #[.pointer (some a),(vi k),(vi l)] F λm F=>Ci 213 #[.pointer (some a),(vi c),(vi d)] F λn F=>Ls F (Addr.add a 5) λo=>ae prog 233 #[Sl.v o,.agg (#[(vi (min e f)),(vi m),(vi n)]:Γ)] F λv F=>∃g,∃b,v=(.tuple #[Sl.v g,(vi b)])/\sto F (Addr.add a 5) (Sl.v g) λF=>Ls F (Addr.add a 6) λp=>(#[(vi h),(vi i),(vi b)]:Γ).size=3/\Nb F (.cells (#[(vi h),(vi i),(vi b)]:Γ) 289) λu F=>Ap 294 #[Sl.v p,Sl.v (Sb u 1)] F λq F=>sto F (Addr.add a 6) (Sl.v q) λF=>R (vi b) F
def oM (g:Ω) (a:Addr) (h i b:Int) (c:Bool) (R:VR) (F:PH):Prop:=Bb (c) (Ls F (Addr.add a 6) λd=>Ix d b λe=>0<=(2:Int)/\(2:Int)<3/\Li F (Addr.add (Addr.add e (Int.toNat b*3)) (Int.toNat 2*1)) λf=>R (vi f) F) (g (i64.wrap (b+1)) F)
def Be (m:Ω) (l:Θ) (c d:Int) (R:VR) (b:Int) (F:PH):Prop:=∃a,l=some a/\Ls F (Addr.add a 6) λe=>Bc (b<(e.len:Int)) (Ls F (Addr.add a 6) λf=>Ix f b λg=>0<=(0:Int)/\(0:Int)<3/\Li F (Addr.add (Addr.add g (Int.toNat b*3)) (Int.toNat 0*1)) λh=>Bc (h=c) (Ls F (Addr.add a 6) λi=>Ix i b λj=>0<=(1:Int)/\(1:Int)<3/\Li F (Addr.add (Addr.add j (Int.toNat b*3)) (Int.toNat 1*1)) λk=>oM m a c d b (decide (k=d)) R F) (oM m a c d b false R F)) (uY (some a) c d R F)
def lz (a:Θ) (b c:Int) (d:Bool) (R:VR) (F:PH):Prop:=Bb (d) (Ci 230 #[.pointer a,(vi b),(vi c)] F λe F=>R (vi e) F) (Lp 0 F λN f F=>Be N a b c R f F)
def LP (c:Θ) (a b:Int) (R:VR) (F:PH):Prop:=Bc (a<2) (lz c a b (decide (b<2)) R F) (lz c a b false R F)
theorem Q0 {a:Θ} {b:Int} {c:Int} (h:LP a b c R F):ae prog 213 #[.pointer a,(vi b),(vi c)] F R:=Rx.sxC (args:=[.pointer a,(vi b),(vi c)]) (.T .N (.T (.J false [(22,.bool)] .N .N) (.J false [(0,.ptr)] (.T .N (.L [(7,.int .i64)] (.T .N (.T (.J false [(57,.bool)] .N .N) .N)))) .N))) (by kernel_rfl) h
def LQ (a:Sl) (b:Int) (R:VR) (F:PH):Prop:=Nb F (.cells zD 33) λg F=>aG prog (Instr.makeSlice 70 (vi (a.len:Int)) (vi (a.len:Int))) F λv F=>∃c,v=(Sl.v c)/\Nb F (.cells (#[Sl.v a,Sl.v c,.slice none 0 0]:Γ) 313) λd F=>Ci 234 #[(Pp d),(vi b)] F λe F=>Ls F (Am d 2) λf=>aw F (Am g 0) 2 (#[Sl.v f,(vi e)]:Γ) λF=>Rr 2 (Am g 0) R F
theorem Q1 {a:Sl} {b:Int} (h:LQ a b R F):ae prog 214 #[Sl.v a,(vi b)] F R:=Rx.sxC (args:=[Sl.v a,(vi b)]) .N (by kernel_rfl) h
def LU (a:Γ) (R:VR) (F:PH):Prop:=Nb F (.cells a 33) λe F=>Ls F (Am e 0) λb=>Bc ((4096:Int)<(b.len:Int)) (R (vi 2) F) (Lr F 2 (Am e 0) λc=>Cbo 235 #[.agg c] F λd F=>Bb ((!d)) (R (vi 20) F) (R (vi 0) F))
theorem Q2 {a:Γ} (h:LU a R F):ae prog 216 #[.agg a] F R:=Rx.sxC (args:=[.agg a]) .N (by kernel_rfl) h
def LV (e:Θ) (c d:Int) (R:VR) (F:PH):Prop:=∃a,e=some a/\Li F (Addr.add a 4) λb=>Bc (b=0) (R (vi (i64.wrap (c*d))) F) (Bc (b=1) (R (vi (max c d)) F) (R (vi (Int.tmod (i64.wrap (c+d)) 2)) F))
theorem Q3 {a:Θ} {b:Int} {c:Int} (h:LV a b c R F):ae prog 230 #[.pointer a,(vi b),(vi c)] F R:=Rx.sxC (args:=[.pointer a,(vi b),(vi c)]) .N (by kernel_rfl) h
def LW (d:Γ) (b:Int) (R:VR) (F:PH):Prop:=Nb F (.cells d 33) λf F=>Bc (b<2) (R (vi 64) F) (Ls F (Am f 0) λe=>Ix e (i64.wrap (b - 2)) λc=>∃a,F.cell (Addr.add c (Int.toNat (i64.wrap (b - 2))*3))=some (vi a)/\R (vi a) F)
theorem Q4 {a:Γ} {b:Int} (h:LW a b R F):ae prog 231 #[.agg a,(vi b)] F R:=Rx.sxC (args:=[.agg a,(vi b)]) .N (by kernel_rfl) h
def LX (i:Γ) (a j:Int) (R:VR) (F:PH):Prop:=Nb F (.cells i 33) λk F=>Lr F 2 (Am k 0) λl=>Ci 231 #[.agg l,(vi a)] F λd F=>Bc (d≠j) (R (.tuple #[(vi a),(vi a)]) F) (Ls F (Am k 0) λe=>Ix e (i64.wrap (a - 2)) λf=>∃b,F.cell (Addr.add (Addr.add f (Int.toNat (i64.wrap (a - 2))*3)) 1)=some (vi b)/\Ls F (Am k 0) λg=>Ix g (i64.wrap (a - 2)) λh=>∃c,F.cell (Addr.add (Addr.add h (Int.toNat (i64.wrap (a - 2))*3)) 2)=some (vi c)/\R (.tuple #[(vi b),(vi c)]) F)
theorem Q5 {a:Γ} {b:Int} {c:Int} (h:LX a b c R F):ae prog 232 #[.agg a,(vi b),(vi c)] F R:=Rx.sxC (args:=[.agg a,(vi b),(vi c)]) .N (by kernel_rfl) h
def Bf (c:Sl) (e:Nat) (R:VR) (F:PH):Prop:=Lr F 3 (Am e 0) λa=>a.size=3/\Nb F (.cells a 103) λd F=>Ap 31 #[Sl.v c,Sl.v (Sb d 1)] F λb F=>R (.tuple #[Sl.v b,(vi (i64.wrap ((b.len:Int)+1)))]) F
def Bg (h:Ω) (b:Sl) (g:Nat) (R:VR) (a:Int) (F:PH):Prop:=Bc (a<(b.len:Int)) (Ix b a λd=>Lr F 3 (Addr.add d (Int.toNat a*3)) λe=>Lr F 3 (Am g 0) λf=>∃c,(∀F,rdo prog (Op.equal 103 (.agg e) (.agg f)) F c)/\Bb (c) (R (.tuple #[Sl.v b,(vi (i64.wrap (a+2)))]) F) (h (i64.wrap (a+1)) F)) (Bf b g R F)
def LY (a:Sl) (e:Γ) (R:VR) (F:PH):Prop:=Nb F (.cells e 103) λd F=>Li F (Am d 1) λf=>Li F (Am d 2) λb=>Bc (f=b) (Li F (Am d 1) λc=>R (.tuple #[Sl.v a,(vi c)]) F) (Lp 0 F λN g F=>Bg N a d R g F)
theorem Q6 {a:Sl} {b:Γ} (h:LY a b R F):ae prog 233 #[Sl.v a,.agg b] F R:=Rx.sxC (args:=[Sl.v a,.agg b]) (.T .N (.T .N (.J false [] (.T .N (.L [(6,.int .i64)] .N)) .N))) (by kernel_rfl) h
def FN (x:Θ) (b:Int) (R:VR) (F:PH):Prop:=Bc (b<2) (R (vi b) F) (∃a,x=some a/\Ls F (Addr.add a 1) λi=>Ix i (i64.wrap (b - 2)) λj=>∃e,F.cell (Addr.add j (Int.toNat (i64.wrap (b - 2))*1))=some (vi e)/\Bc (0<e) (Ls F (Addr.add a 1) λk=>Ix k (i64.wrap (b - 2)) λl=>∃f,F.cell (Addr.add l (Int.toNat (i64.wrap (b - 2))*1))=some (vi f)/\R (vi f) F) (Ls F a λm=>Ix m (i64.wrap (b - 2)) λn=>∃c,c.size=3/\F.row (Addr.add n (Int.toNat (i64.wrap (b - 2))*3)) c/\Nb F (.cells (#[vi 0,vi 0,vi 0]) 103) λo F=>aw F (Am o 0) 3 c λF=>Li F (Am o 1) λp=>Ci 234 #[.pointer (some a),(vi p)] F λg F=>Li F (Am o 2) λq=>Ci 234 #[.pointer (some a),(vi q)] F λh F=>Ls F (Addr.add a 2) λr=>Li F (Am o 0) λd=>(#[(vi d),(vi g),(vi h)]:Γ).size=3/\Nb F (.cells (#[(vi d),(vi g),(vi h)]:Γ) 103) λy F=>Ap 31 #[Sl.v r,Sl.v (Sb y 1)] F λs F=>F.cell (Am o 0)=some (vi d)/\sto F (Addr.add a 2) (Sl.v s) λF=>Ls F (Addr.add a 1) λt=>Ls F (Addr.add a 2) λu=>Ix t (i64.wrap (b - 2)) λv=>sto F (Addr.add v (Int.toNat (i64.wrap (b - 2))*1)) (vi (i64.wrap ((u.len:Int)+1))) λF=>Ls F (Addr.add a 2) λw=>R (vi (i64.wrap ((w.len:Int)+1))) F))
theorem LZ {a:Θ} {b:Int} (h:FN a b R F):ae prog 234 #[.pointer a,(vi b)] F R:=Rx.sxC (args:=[.pointer a,(vi b)]) .N (by kernel_rfl) h
def Bi (f:Nat) (R:VR) (F:PH):Prop:=Lr F 2 (Am f 0) λa=>Ls F (Am f 0) λb=>Li F (Am f 1) λc=>Ca 214 #[Sl.v b,(vi c)] F λd F=>F.row (Am f 0) a/\Cbo 242 #[.agg a,.agg d] F λe F=>R (.bool e) F
def Bj (f:Ω) (e:Nat) (R:VR) (a:Int) (F:PH):Prop:=Ls F (Am e 0) λb=>Bc (a<(b.len:Int)) (Lr F 2 (Am e 0) λc=>Cbo 241 #[.agg c,(vi a)] F λd F=>Bb ((!d)) (R (.bool false) F) (f (i64.wrap (a+1)) F)) (Bi e R F)
def L0 (c:Γ) (R:VR) (F:PH):Prop:=Nb F (.cells c 33) λb F=>Li F (Am b 1) λd=>Bc (d<0) (R (.bool false) F) (Li F (Am b 1) λe=>Ls F (Am b 0) λa=>Bc ((i64.wrap ((a.len:Int)+2))<=e) (R (.bool false) F) (Lp 0 F λN f F=>Bj N b R f F))
theorem Q7 {a:Γ} (h:L0 a R F):ae prog 235 #[.agg a] F R:=Rx.sxC (args:=[.agg a]) (.T .N (.T .N (.J false [] (.T .N (.L [(3,.int .i64)] .N)) .N))) (by kernel_rfl) h
def Bk (R:VR) (F:PH):Prop:=R (.bool true) F
def Bl (h:Ω) (g:Int) (i j:Nat) (R:VR) (a:Int) (F:PH):Prop:=Bc (a<g) (Ls F (Am i 0) λc=>Ix c a λd=>Lr F 3 (Addr.add d (Int.toNat a*3)) λe=>Lr F 3 (Am j 0) λf=>∃b,(∀F,rdo prog (Op.equal 103 (.agg e) (.agg f)) F b)/\Bb (b) (R (.bool false) F) (h (i64.wrap (a+1)) F)) (Bk R F)
def L3 (v:Γ) (b:Int) (R:VR) (F:PH):Prop:=Nb F (.cells v 33) λu F=>Ls F (Am u 0) λw=>Ix w b λe=>Lr F 3 (Addr.add e (Int.toNat b*3)) λf=>Nb F (.cells (#[vi 0,vi 0,vi 0]) 103) λa F=>aw F (Am a 0) 3 f λF=>Li F (Am a 0) λg=>Bc (g<0) (R (.bool false) F) (Li F (Am a 0) λh=>Bc (63<h) (R (.bool false) F) (Li F (Am a 1) λi=>Bc (i<0) (R (.bool false) F) (Li F (Am a 2) λj=>Bc (j<0) (R (.bool false) F) (Li F (Am a 1) λk=>Bc ((i64.wrap (b+2))<=k) (R (.bool false) F) (Li F (Am a 2) λl=>Bc ((i64.wrap (b+2))<=l) (R (.bool false) F) (Li F (Am a 1) λm=>Li F (Am a 2) λn=>Bc (m=n) (R (.bool false) F) (Lr F 2 (Am u 0) λo=>Li F (Am a 1) λp=>Li F (Am a 0) λc=>Ci 231 #[.agg o,(vi p)] F λq F=>F.cell (Am a 0)=some (vi c)/\Bc (q<=c) (R (.bool false) F) (Lr F 2 (Am u 0) λr=>Li F (Am a 2) λs=>Li F (Am a 0) λd=>Ci 231 #[.agg r,(vi s)] F λt F=>F.cell (Am a 0)=some (vi d)/\F.cell (Am a 0)=some (vi c)/\Bc (t<=d) (R (.bool false) F) (Lp 0 F λN x F=>Bl N b u a R x F)))))))))
theorem Q8 {a:Γ} {b:Int} (h:L3 a b R F):ae prog 241 #[.agg a,(vi b)] F R:=Rx.sxC (args:=[.agg a,(vi b)]) (.T .N (.T .N (.T .N (.T .N (.J false [] (.T .N (.L [(6,.int .i64)] .N)) .N))))) (by kernel_rfl) h
def JO (R:VR) (F:PH):Prop:=R (.bool true) F
def Bm (k:Ω) (j l:Nat) (R:VR) (a:Int) (F:PH):Prop:=Ls F (Am j 0) λc=>Bc (a<(c.len:Int)) (Ls F (Am j 0) λd=>Ix d a λe=>Lr F 3 (Addr.add e (Int.toNat a*3)) λf=>Ls F (Am l 0) λg=>Ix g a λh=>Lr F 3 (Addr.add h (Int.toNat a*3)) λi=>∃b,(∀F,rdo prog (Op.equal 103 (.agg f) (.agg i)) F b)/\Bb ((!b)) (R (.bool false) F) (k (i64.wrap (a+1)) F)) (JO R F)
def L4 (c d:Γ) (R:VR) (F:PH):Prop:=Nb F (.cells c 33) λe F=>Nb F (.cells d 33) λf F=>Li F (Am e 1) λg=>Li F (Am f 1) λh=>Bc (g≠h) (R (.bool false) F) (Ls F (Am e 0) λa=>Ls F (Am f 0) λb=>Bc ((a.len:Int)≠(b.len:Int)) (R (.bool false) F) (Lp 0 F λN i F=>Bm N e f R i F))
theorem Q9 {a:Γ} {b:Γ} (h:L4 a b R F):ae prog 242 #[.agg a,.agg b] F R:=Rx.sxC (args:=[.agg a,.agg b]) (.T .N (.T .N (.J false [] (.T .N (.L [(5,.int .i64)] .N)) .N))) (by kernel_rfl) h
theorem y9 {F:PH} {v w:Γ} {d e:Dia} (hd:DV F v d) (he:DV F w e) (hl:Fit d.1.length):ae prog 242 #[.agg v,.agg w] F λr F'=>r=.bool (decide (d=e))/\F.le F':=by
 obtain ⟨s,rfl,hr⟩:=hd;obtain ⟨t,rfl,ht⟩:=he;refine Q9 ?_;unfold L4;intro b2 hb2;refine atI ?_;have hle2:=ac (.cells #[s.v,vi d.2] 33) hb2;intro b3 hb3;refine atI ?_;have hle3:=ac (.cells #[t.v,vi e.2] 33) hb3;have hle:F.le _:=λb o h=>hle3 b o (hle2 b o h);have hc2:=hle3 _ _ (aq F b2 (.cells #[s.v,vi d.2] 33));have hc3:=aq (F.set b2 (.cells #[s.v,vi d.2] 33)) b3 (.cells #[t.v,vi e.2] 33);generalize (F.set b2 (.cells #[s.v,vi d.2] 33)).set b3 (.cells #[t.v,vi e.2] 33)=G at*;replace hr:=hr.le hle;replace ht:=ht.le hle;have lens:=hr.blen;have lent:=ht.blen;have cs:G.cell ⟨b2,0,none⟩=some s.v:=by rw [an hc2];rfl
 have ct:G.cell ⟨b3,0,none⟩=some t.v:=by rw [an hc3];rfl
 obtain ⟨x,d2⟩:=d;obtain ⟨y,e2⟩:=e;simp only at hl lens lent hr ht hc2 hc3;refine ⟨d2,by rw [an hc2];rfl,e2,by rw [an hc3];rfl,λh=> ?_,λh=> ?_⟩
 ·refine ⟨?_,hle⟩;simp [h]
 have h:d2=e2:=by omega
 subst h;refine ⟨s,cs,t,ct,λhn=> ?_,λhn=> ?_⟩
 ·refine ⟨?_,hle⟩;have:¬x=y:=λe=>by subst e;omega
  simp [this]
 have hlen:x.length=y.length:=by omega
 refine ⟨λm i F'=>∃k:Nat,i=k/\k<=x.length/\m=x.length - k/\F'=G/\x.take k=y.take k,x.length,⟨0,rfl,by omega,rfl,rfl,rfl⟩,?_⟩;rintro m i F' ⟨k,rfl,hk,rfl,rfl,htake⟩;unfold Bm;refine ⟨s,cs,λhlt=> ?_,λhge=> ?_⟩
 ·have hkx:k<x.length:=by omega
  have hky:k<y.length:=by omega
  obtain ⟨p,hp,hpr,_⟩:=rdb hr (N4 hkx);obtain ⟨q,hq,hqr,_⟩:=rdb ht (N4 hky);refine ⟨s,cs,p,hp,by omega,hlt,aR x[k],rfl,by simpa using hpr,t,ct,q,hq,by omega,by omega,aR y[k],rfl,by simpa using hqr,decide (x[k]=y[k]),λF=>FY x[k] y[k] F,λhne=> ?_,λheq=> ?_⟩
  ·refine ⟨?_,hle⟩;have:¬x=y:=by rintro rfl;simp at hne
   simp [this]
  ·refine ⟨x.length - (k+1),by omega,k+1,fC (by omega),by omega,rfl,rfl,?_⟩;rw [XR hkx,XR hky,htake];simp at heq;rw [heq]
 ·refine ⟨?_,hle⟩;have hk':k=x.length:=by omega
  rw [hk',XF,hlen,XF] at htake;simp [htake]
theorem JP {v:Nat} (h:v<64):sX v=(dia (tv v),0):=by unfold sX;rw [if_neg (by omega),N5]
section
variable {F:PH} {v:Γ} {d:Dia} {S:List Tr} {t:Tr}
theorem fq (hd:DV F v d) (hp:brs S<+:d.1) (ht:inn S t) (hf:Fit (d.1.length+2)):
  ae prog 231 #[.agg v,vi (num S t)] F λr F'=>r=vi t.top/\F.le F':=by
 obtain ⟨hfit,hlt⟩:=vk hp ht hf;obtain ⟨s,rfl,hr⟩:=hd;refine Q4 ?_;unfold LW;intro b2 hb2;refine atI ?_;have hle:=ac (.cells #[s.v,vi d.2] 33) hb2;refine ⟨λh=> ?_,λh=> ?_⟩
 ·have hl:=vG (S:=S) (t:=t) (by omega);cases t with
  |leaf b=>exact ⟨rfl,hle⟩
  |node _ _ _=>cases hl
 ·cases t with
  |leaf b=>have:=dx S b;omega
  |node w l r=>have hx:=je hp (gg (cR ht rfl) rfl);obtain ⟨a,h1,_,h2,_⟩:=rdb (hr.le hle) hx;have hw:=xI hfit (eX (S:=S) (t:=node w l r) rfl);have hg:=eX (S:=S) (t:=node w l r) rfl;refine ⟨s,by simp,a,h1,by rw [hw];omega,by rw [hw,hr.blen];omega,_,by rw [hw];exact h2,rfl,hle⟩
theorem nV (hd:DV F v d) (hp:brs S<+:d.1) (ht:inn S t) (hf:Fit (d.1.length+2)) {w:Nat} (hw:w<64):
  ae prog 232 #[.agg v,vi (num S t),vi w] F λr F'=>r=.tuple #[vi (num S (lo w t)),vi (num S (hi w t))]/\F.le F':=by
 obtain ⟨hfit,hlt⟩:=vk hp ht hf;have hd':=hd;obtain ⟨s,rfl,hr⟩:=hd;refine Q5 ?_;unfold LX;intro b3 hb3;refine atI ?_;have hle:=ac (.cells #[s.v,vi d.2] 33) hb3;refine ⟨_,rfl,aj (aq _ _ _),?_⟩;refine (fq (hd'.le hle) hp ht hf).mono ?_;rintro _ F2 ⟨rfl,hle2⟩;have hc:F2 b3=some _:=hle2 _ _ (aq _ _ _);have hle':F.le F2:=λb o h=>hle2 b o (hle b o h);refine ⟨_,rfl,λh=> ?_,λh=> ?_⟩
 ·refine ⟨?_,hle'⟩;cases t with
  |leaf b=>rfl
  |node w' l r=>have:¬w'=w:=λe=>h (by simp [Tr.top,e]);simp [lo,hi,this]
 ·cases t with
  |leaf b=>simp only [Tr.top] at h;omega
  |node w' l r=>
   have e:w'=w:=by simp only [Tr.top] at h;omega
   subst e;have hx:=je hp (gg (cR ht rfl) rfl);obtain ⟨a,h1,_,_,h3,h4⟩:=rdb (hr.le hle') hx;have hw:=xI hfit (eX (S:=S) (t:=node w' l r) rfl);have hg:=eX (S:=S) (t:=node w' l r) rfl
   refine ⟨s,by rw [an hc];rfl,a,h1,by rw [hw];omega,by rw [hw,hr.blen];omega,_,by rw [hw];exact h3,
    s,by rw [an hc];rfl,a,h1,by rw [hw];omega,by rw [hw,hr.blen];omega,_,by rw [hw];exact h4,?_,hle'⟩
   simp [lo,hi,br]
end
section
variable {F:PH}
theorem eP (x:Bool):ae prog 89 #[.bool x] F λr F'=>∃w,r=.agg w/\DV F' w (dia (leaf x))/\F.le F':=by
 refine Wg ?_;unfold QT;intro b2 hb2;refine atI ?_;have l2:=ac (.cells zD 33) hb2;have q2:=aq F b2 (.cells zD 33);refine ⟨λh=> ?_,λh=> ?_⟩
 ·subst h;have hd:∀G:PH,DV G #[Value.slice none 0 0,vi 1] (dia (leaf true)):=λG=>⟨Sl.nil,rfl,RdS.nil G 3⟩;exact gN (K:=λvres F'=>∃w,Value.agg vres=.agg w/\DV F' w (dia (leaf true))/\F.le F') (hd F) q2 rfl ⟨_,rfl,hd _,aA l2 hb2⟩
 ·subst h;have hd:∀G:PH,DV G zD (dia (leaf false)):=λG=>⟨Sl.nil,rfl,RdS.nil G 3⟩;exact gN (K:=λvres F'=>∃w,Value.agg vres=.agg w/\DV F' w (dia (leaf false))/\F.le F') (hd F) q2 rfl ⟨_,rfl,hd _,aA l2 hb2⟩
theorem tN (x:Int):ae prog 165 #[vi x] F λr F'=>DRV F' r (sX x)/\F.le F':=by
 refine QV ?_;unfold LJ;intro b2 hb2;refine atI ?_;have l2:=ac (.cells zD 33) hb2;have q2:=aq F b2 (.cells zD 33);generalize F.set b2 (.cells zD 33)=F2 at*;have bad:x<0\/63<x->ly x b2 true (λr F'=>DRV F' r (sX x)/\F.le F') F2:=λh=>by
  unfold ly;refine ⟨λ_=> ?_,λhc=>by cases hc⟩;have e:sX x=(i8,1):=by unfold sX;rw [if_pos h]
  rw [e];exact zd q2 rfl l2 hb2
 refine ⟨λh=>bad (.inl h),λh=> ?_⟩;by_cases h2:63<x
 ·rw [decide_eq_true h2];exact bad (.inr h2)
 ·rw [decide_eq_false h2];unfold ly;refine ⟨λhc=>(by cases hc),λ_=>⟨rfl,λb13 hb13=> ?_⟩⟩;refine atI ?_;have e:sX x=(dia (tv x.toNat),0):=by unfold sX;rw [if_neg (by omega)]
  have hx:((x.toNat:Nat):Int)=x:=by omega
  have lx:=ac (.cells #[vi x,vi 0,vi 1] 103) hb13;have q13:=aq F2 b13 (.cells #[vi x,vi 0,vi 1] 103);have n:b13≠b2:=(aJ hb13 q2).symm;replace q2:=lx _ _ q2;have l3:=l2.trans lx;rw [e];have hd:∀G:PH,G b13=some (.cells #[vi x,vi 0,vi 1] 103)->DV G #[(Sl.mk (some ⟨b13,0,none⟩) 1 1).v,vi 2] (dia (tv x.toNat)):=λG hG=>by rw [OL,hx];exact ⟨_,rfl,RdS.new hG rfl rfl (XA _)⟩
  exact gN (K:=λvres F'=>DRV F' (.tuple #[.agg vres,vi 0]) (dia (tv x.toNat),0)/\F.le F') (hd _ q13) q2 rfl ⟨⟨_,rfl,hd _ (by rw [aC _ _ n];exact q13)⟩,aA l3 hb2⟩
end
def rnS (S:List Tr) (t:Tr):Nat:=if t∈S then num S t else 0
def rnL (S0 S:List Tr):Ξ:=S0.map λt=>vi (rnS S t:Int)
structure WS (F0 F:PH) (bw g:Nat) (ns:Sl) (S0 S:List Tr):Prop where
 le:F0.le F
 cl:Cl S
 sub:∀x∈S,x∈S0
 nw:F0 bw=none
 ng:F0 g=none
 rd:RdS F0 ns 3 (aS (brs S0))
 ex:∃s:Sl,F bw=some (.cells #[ns.v,Sl.v ⟨some ⟨g,0,none⟩,S0.length,S0.length⟩,s.v] 313)/\bj F 103 3 s (aS (brs S))/\∀a,s.base=some a->F0 a.block=none
 hg:F g=some (.cells (rnL S0 S).toArray 3)
theorem FO {S0 S:List Tr} (h0:Cl S0) {t:Tr} (hS':Cl (S++[t])) (ht:t∈S0) (hl:t.isL=false):(rnL S0 S).set (num S0 t - 2) (vi ((S.length+2:Nat):Int))=rnL S0 (S++[t]):=by
 apply Yd;intro j;unfold rnL;rw [YL,XM,XM];have hg:=eX (S:=S0) hl;have hgt:=gg ht hl;by_cases hj:num S0 t - 2=j
 ·subst hj;have hlt:=(N6.1 hgt).1;rw [if_pos rfl,XH,if_pos hlt,hgt];simp only [Yj,rnS];rw [if_pos (by simp),eA hS' (k:=S.length) (by simp)]
 ·rw [if_neg hj];cases hx:S0[j]? with
  |none=>rfl
  |some u=>
   simp only [Yj,rnS];have hne:u≠t:=λe=>by subst e;have:=eA h0 hx;omega
   have hm:u∈S++[t]↔u∈S:=by simp [hne]
   by_cases hu:u∈S
   ·rw [if_pos hu,if_pos (hm.2 hu),bT (.inr hu)]
   ·rw [if_neg hu,if_neg (λh=>hu (hm.1 h))]
theorem xw {bw g:Nat} {ns:Sl} {S0:List Tr} (h0:Cl S0) (hf:Fit (S0.length+4)):∀(t:Tr),inn S0 t->∀(F0 F:PH) (S:List Tr),WS F0 F bw g ns S0 S->
  ae prog 234 #[.pointer (some ⟨bw,0,none⟩),vi (num S0 t)] F λr F'=>r=vi (num (vis t S) t)/\WS F0 F' bw g ns S0 (vis t S):=by
 intro t;induction t with
 |leaf x=>intro ht F0 F S hs;refine LZ ?_;unfold FN;have:=dx S0 x;exact ⟨λ_=>⟨rfl,hs⟩,λh=>by omega⟩
 |node v l h ihl ihh=>
  intro ht F0 F S hs;have hs':=hs;obtain ⟨hle,hS,hsub,hnw,hng,hrd,⟨s,hw,ho,hsb⟩,hg⟩:=hs;have htm:=cR ht rfl;obtain ⟨hil,hih⟩:=h0.inn_kids ht;have hok:=h0.inn_ok ht;have hge:=eX (S:=S0) (t:=node v l h) rfl;have hnl:=cS ht;have hgt:=gg htm rfl;have hlt:=(N6.1 hgt).1;have hw2:=xI (n:=num S0 (node v l h)) (by omega) hge;refine LZ ?_;unfold FN;refine ⟨λh=>by omega,λ_=> ?_⟩;rw [hw2];have cell0:F.cell ⟨bw,0,none⟩=some ns.v:=by rw [an hw];rfl
  have cell1:F.cell (Addr.add ⟨bw,0,none⟩ 1)=some (Sl.v ⟨some ⟨g,0,none⟩,S0.length,S0.length⟩):=by rw [av,an hw];rfl
  have cellg:F.cell (Addr.add ⟨g,0,none⟩ (Int.toNat ((num S0 (node v l h) - 2:Nat):Int)*1))=some (vi (rnS S (node v l h))):=by
   simp only [av];rw [an hg];have:(rnL S0 S)[num S0 (node v l h) - 2]? =some (vi (rnS S (node v l h))):=by unfold rnL;rw [XM,hgt];rfl
   simpa using this
  refine ⟨_,rfl,_,cell1,_,rfl,by omega,by simp only;omega,_,cellg,λhpos=> ?_,λhpos=> ?_⟩
  ·have hin:node v l h∈S:=by
    unfold rnS at hpos;split at hpos
    ·assumption
    ·omega
   have e:vis (node v l h) S=S:=jS (.inr hin);rw [e];have e2:rnS S (node v l h)=num S (node v l h):=by unfold rnS;rw [if_pos hin]
   rw [e2] at cellg;exact ⟨_,cell1,_,rfl,by omega,by simp only;omega,_,cellg,rfl,hs'⟩
  ·have hin:node v l h ∉ S:=λhin=>hpos (by
    have:=eX (S:=S) (t:=node v l h) rfl;unfold rnS;rw [if_pos hin]
    omega)
   obtain ⟨a,ha,hrow,_⟩:=rdb (hrd.le hle) (lW hgt);have hns:=hrd.blen;rw [aQ] at hns;refine ⟨ns,cell0,a,ha,by omega,by omega,aR (br S0 (node v l h)),rfl,by simpa using hrow,?_⟩;intro b5 hb5;refine atI ?_;refine stW (aq _ _ _) rfl rfl (jO _) ?_;rw [aU];have h50:F0 b5=none:=aY hle hb5;have n5w:bw≠b5:=aJ hb5 hw;have n5g:g≠b5:=aJ hb5 hg;have hs5:WS (F0.set b5 (.cells (aR (br S0 (node v l h))) 103)) (F.set b5 (.cells (aR (br S0 (node v l h))) 103)) bw g ns S0 S:=by
    refine ⟨λx ob hx=> ?_,hS,hsub,by rw [aC _ _ n5w];exact hnw,by rw [aC _ _ n5g];exact hng,hrd.le (ac _ h50),⟨s,by rw [aC _ _ n5w];exact hw,ho.upto (ac _ hb5),λa ha=> ?_⟩,by rw [aC _ _ n5g];exact hg⟩
    ·by_cases hxb:x=b5
     ·subst hxb;rw [aq] at hx ⊢;exact hx
     ·rw [aC _ _ hxb] at hx ⊢;exact hle _ _ hx
    ·obtain ⟨cur,hcur⟩:=ho.elem ha;rw [aC _ _ (aJ hb5 hcur)];exact hsb a ha
   have hle0:F0.le (F0.set b5 (.cells (aR (br S0 (node v l h))) 103)):=ac _ h50;have hc5:(F0.set b5 (.cells (aR (br S0 (node v l h))) 103)) b5=some (.cells (aR (br S0 (node v l h))) 103):=aq _ _ _;generalize F0.set b5 (.cells (aR (br S0 (node v l h))) 103)=G0 at*;generalize F.set b5 (.cells (aR (br S0 (node v l h))) 103)=F1 at*;refine ⟨_,by rw [an (hs5.le _ _ hc5)];rfl,?_⟩;refine (ihl hil G0 F1 S hs5).mono ?_;rintro _ F2 ⟨rfl,hs2⟩;refine ⟨_,rfl,_,by rw [an (hs2.le _ _ hc5)];rfl,?_⟩;refine (ihh hih G0 F2 _ hs2).mono ?_;rintro _ F3 ⟨rfl,hs3⟩;obtain ⟨hle3,hS3,hsub3,hnw3,hng3,hrd3,⟨s3,hw3,ho3,hsb3⟩,hg3⟩:=hs3;obtain ⟨fl1,fl2,X,fl3,fl4⟩:=bE l S hok.2.2.2.2.1 hS;obtain ⟨fh1,fh2,Y,fh3,fh4⟩:=bE h (vis l S) hok.2.2.2.2.2 fl1;have hnl':num (vis l S) l=num (vis h (vis l S)) l:=by rw [fh3,bT fl2]
   have evis:vis (node v l h) S=vis h (vis l S)++[node v l h]:=by
    conv=>lhs;unfold vis
    rw [if_neg hin]
   obtain ⟨hSv,_,_⟩:=bE (node v l h) S hok hS;rw [evis] at hSv ⊢;rw [hnl'];have hil3:inn (vis h (vis l S)) l:=by rw [fh3];exact bK fl2
   generalize vis h (vis l S)=T at*;refine ⟨_,rfl,s3,by rw [av,an hw3];rfl,_,by rw [an (hle3 _ _ hc5)];rfl,rfl,λb54 hb54=> ?_⟩;refine atI ?_;have hTl:T.length<=S0.length:=dG T S0 hS3.nodup hsub3;have hlen:=ho3.rd.blen;rw [aQ] at hlen;have hle54:=ac (.cells (aR ⟨(v:Int),(num T l:Int),(num T h:Int)⟩) 103) hb54;have h54:=aq F3 b54 (.cells (aR ⟨(v:Int),(num T l:Int),(num T h:Int)⟩) 103);show aG prog _ (F3.set b54 (.cells (aR ⟨(v:Int),(num T l:Int),(num T h:Int)⟩) 103)) _;replace hle3:G0.le (F3.set b54 (.cells (aR ⟨(v:Int),(num T l:Int),(num T h:Int)⟩) 103)):=λx ob hx=>hle54 _ _ (hle3 _ _ hx);replace ho3:=ho3.upto hle54;replace hw3:=hle54 _ _ hw3;replace hg3:=hle54 _ _ hg3;generalize F3.set b54 (.cells (aR ⟨(v:Int),(num T l:Int),(num T h:Int)⟩) 103)=F4 at*;refine iw underlying31 x7 x8 rfl (by decide) hle3 ho3 hsb3 (x:=⟨some ⟨b54,0,none⟩,1,1⟩) (news:=di ⟨(v:Int),(num T l:Int),(num T h:Int)⟩) (RdS.new h54 rfl rfl (XA _))
    (λx hx=>jd [⟨(v:Int),(num T l:Int),(num T h:Int)⟩] x (by simpa [aS] using hx)) (by simp only [hlen];omega) (by simp only [hlen];omega) ?_
   intro s5 F5 hle5 ho5 hlen5 hsb5 hk5 _;have new:∀a,s3.base=some a->a.block≠bw:=λa ha e=>by obtain ⟨cur,hcur⟩:=ho3.elem ha;rw [e,hw3] at hcur;simp at hcur
   have neg:∀a,s3.base=some a->a.block≠g:=λa ha e=>by obtain ⟨cur,hcur⟩:=ho3.elem ha;rw [e,hg3] at hcur;simp at hcur
   replace hw3:=hk5 _ _ hw3 (λ⟨a,ha,e⟩=>new a ha e);replace hg3:=hk5 _ _ hg3 (λ⟨a,ha,e⟩=>neg a ha e);have nwg:bw≠g:=λe=>by rw [e,hg3] at hw3;simp at hw3
   have hsb6:∀a,s5.base=some a->a.block≠bw/\a.block≠g:=λa ha=>by
    obtain ⟨cur,hcur⟩:=ho5.elem ha;refine ⟨λe=> ?_,λe=> ?_⟩
    ·rw [e,hw3] at hcur;simp at hcur
    ·rw [e,hg3] at hcur;simp at hcur
   refine ⟨s5,rfl,by rw [an (hle5 _ _ hc5)];rfl,?_⟩;refine qZ (b:=bw) (o:=2) (by simp) hw3 (by simp) ?_;rw [show (#[ns.v,Sl.v ⟨some ⟨g,0,none⟩,S0.length,S0.length⟩,s3.v].setIfInBounds 2 s5.v:Γ)= #[ns.v,Sl.v ⟨some ⟨g,0,none⟩,S0.length,S0.length⟩,s5.v] from rfl];have hle6:G0.le (F5.set bw (.cells #[ns.v,Sl.v ⟨some ⟨g,0,none⟩,S0.length,S0.length⟩,s5.v] 313)):=aA hle5 hnw3;have hw6:=aq F5 bw (.cells #[ns.v,Sl.v ⟨some ⟨g,0,none⟩,S0.length,S0.length⟩,s5.v] 313);have hg6:(F5.set bw (.cells #[ns.v,Sl.v ⟨some ⟨g,0,none⟩,S0.length,S0.length⟩,s5.v] 313)) g=some (.cells (rnL S0 T).toArray 3):=by rw [aC _ _ nwg.symm];exact hg3
   have ho6:bj (F5.set bw (.cells #[ns.v,Sl.v ⟨some ⟨g,0,none⟩,S0.length,S0.length⟩,s5.v] 313)) 103 3 s5 _:=ho5.keep λa ha=>aC _ _ (hsb6 a ha).1;generalize F5.set bw (.cells #[ns.v,Sl.v ⟨some ⟨g,0,none⟩,S0.length,S0.length⟩,s5.v] 313)=F6 at*;have hlen6:s5.len=T.length+1:=by rw [hlen5,hlen]
   have hw7:i64.wrap ((s5.len:Int)+1)=((T.length+2:Nat):Int):=by rw [hlen6,aH (by omega) (by omega)];omega
   refine ⟨_,by rw [av,an hw6];rfl,s5,by rw [av,an hw6];rfl,_,rfl,by omega,by simp only;omega,?_⟩;rw [hw7];refine qZ (b:=g) (o:=num S0 (node v l h) - 2) (by simp) hg6 (by simp [rnL];omega) ?_;rw [List.setIfInBounds_toArray,FO h0 hSv htm rfl];refine ⟨s5,by rw [av,an ((aC _ _ nwg).trans hw6)];rfl,?_⟩;dsimp only;rw [hw7];refine ⟨by rw [eA hSv (k:=T.length) (by simp)],λx ob hx=>aA hle6 hng3 _ _ (hle0 _ _ hx),hSv,λx hx=> ?_,hnw,hng,hrd,⟨s5,(aC _ _ nwg).trans hw6,?_,λa ha=>aY hle0 (hsb5 a ha)⟩,aq _ _ _⟩
   ·rcases XD.1 hx with hx|hx
    ·exact hsub3 x hx
    ·rw [XC.1 hx];exact htm
   ·have e3:aS (brs (T++[node v l h]))=aS (brs T)++di ⟨(v:Int),(num T l:Int),(num T h:Int)⟩:=by rw [eY hS3 hil3 fh2,eT];simp [aS]
    rw [e3];exact ho6.keep λa ha=>aC _ _ (hsb6 a ha).2
section
variable {F:PH} {ns:Sl} {S0:List Tr} {t:Tr}
theorem ke (hr:RdS F ns 3 (aS (brs S0))) (h0:Cl S0) (ht:inn S0 t) (hf:Fit (S0.length+4)):
  ae prog 214 #[ns.v,vi (num S0 t)] F λr F'=>∃v,r=.agg v/\DV F' v (dia t)/\F.le F':=by
 have hns:=hr.blen;rw [aQ] at hns;refine Q1 ?_;unfold LQ;intro b4 hb4;refine atI ?_;have l4:=ac (.cells zD 33) hb4;have q4:=aq F b4 (.cells zD 33);generalize F.set b4 (.cells zD 33)=F4 at*;refine cd underlying70 sz3 zr3 rfl (by omega) (Zc _) (by omega) (by omega) ?_;intro g hg;rw [zc1 _ rfl,N5,hns];refine ⟨_,rfl,?_⟩;have e0:List.replicate S0.length (vi 0)=rnL S0 []:=by
  apply Yd;intro j;unfold rnL;rw [List.getElem?_replicate,XM];by_cases hj:j<S0.length
  ·rw [if_pos hj,N4 hj];simp [rnS]
  ·rw [if_neg hj,X8 (by omega)];rfl
 rw [e0];have lg:=ac (.cells (rnL S0 []).toArray 3) hg;have qg:=aq F4 g (.cells (rnL S0 []).toArray 3);have q4g:=lg _ _ q4;have n4g:b4≠g:=aJ hg q4;generalize hG:F4.set g (.cells (rnL S0 []).toArray 3)=Fg at*;intro b12 hb12;refine atI ?_;have n12g:g≠b12:=aJ hb12 qg;have f12:F4 b12=none:=aY lg hb12;have lx:=ac (.cells #[ns.v,Sl.v ⟨some ⟨g,0,none⟩,S0.length,S0.length⟩,Value.slice none 0 0] 313) hb12;have hs:WS F4 (Fg.set b12 (.cells #[ns.v,Sl.v ⟨some ⟨g,0,none⟩,S0.length,S0.length⟩,Value.slice none 0 0] 313)) b12 g ns S0 []:=
  ⟨lg.trans lx,.nil,λx hx=>(by cases hx),f12,hg,hr.le l4,⟨Sl.nil,aq _ _ _,.inl ⟨rfl,rfl⟩,λa ha=>by cases ha⟩,lx _ _ qg⟩
 refine (xw h0 hf t ht F4 _ [] hs).mono ?_;rintro _ G ⟨rfl,hs'⟩;have ev:vis t []=aO t:=rfl;rw [ev] at*;obtain ⟨gle,gcl,_,_,_,_,⟨s,gw,go,gs⟩,_⟩:=hs';refine ⟨_,rfl,s,by rw [an gw];rfl,?_⟩;have h4:=gle _ _ q4;have hsb:∀a,s.base=some a->a.block≠b4:=λa ha e=>by obtain ⟨cur,hcur⟩:=go.elem ha;rw [e,h4] at hcur;simp at hcur
 have hd:DV (eH G b4) #[s.v,vi (num (aO t) t)] (dia t):=⟨s,rfl,(go.keep λa ha=>gc (hsb a ha)).rd⟩;exact gN (K:=λvres F'=>∃v,Value.agg vres=.agg v/\DV F' v (dia t)/\F.le F') hd h4 rfl ⟨_,rfl,hd.le (aA (Bo _ _) (zc _ _)),aA (l4.trans gle) hb4⟩
end
end Go.Proofs.YtenpmjhnhepfdaaGreatDoor
