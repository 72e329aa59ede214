/-
  What functions of the program do, in a clean form, each with the proof that its code does so. Printed by a program.
-/
import Derived.Test.YtcemhghkipgdiaaGreatDoorAt
import Derived.Test.YtcemhghkipgdiaaGreatDoorAm
import Derived.Test.YtcemhghkipgdiaaGreatDoorAb
import Derived.Test.YtcemhghkipgdiaaGreatDoorPhp
import Derived.Test.YtcemhghkipgdiaaGreatDoorGdiagram
namespace Go.Proofs.YtcemhghkipgdiaaGreatDoor
open Go.IntKind (i64 u8 u64)
open Go Go.Proofs.Tryz Tr
set_option maxRecDepth 10000
def mkC (nm:ByteArray) (left:Int) (right:List Sy) (d:Dia):Pr:=⟨nm,left,right,d,false,0,[],⟨false,0,0,0,0⟩⟩
def nST:List ByteArray:=[⟨#[83]⟩,⟨#[84]⟩]
def sgG (l:List Pr):Gr:={cC nST with prods:=l}
def sp1:List Pr:=[mkC ⟨#[115]⟩ 0 [⟨true,0⟩,⟨false,1⟩] aM,mkC ⟨#[116]⟩ 1 [] (dia (tv 0)),mkC ⟨#[117]⟩ 1 [⟨true,1⟩,⟨false,1⟩] (dia (tv 1))]
def sp2:List Pr:=[mkC ⟨#[115]⟩ 0 [⟨false,1⟩] aM,mkC ⟨#[116]⟩ 1 [⟨false,0⟩] (dia (tv 0)),mkC ⟨#[117]⟩ 1 [⟨true,0⟩] aM]
def sp3:List Pr:=[mkC ⟨#[115]⟩ 0 [⟨false,1⟩,⟨false,0⟩,⟨false,1⟩] (dia (tv 0)),mkC ⟨#[116]⟩ 0 [⟨true,0⟩] aM,mkC ⟨#[117]⟩ 1 [] aM]
theorem nA {α:Type} {a b d x:α} {i:Nat} (h:[a,b,d][i]? =some x):(i=0/\x=a)\/(i=1/\x=b)\/(i=2/\x=d):=by
 match i,h with
 |0,h=>cases h;exact .inl ⟨rfl,rfl⟩
 |1,h=>cases h;exact .inr (.inl ⟨rfl,rfl⟩)
 |2,h=>cases h;exact .inr (.inr ⟨rfl,rfl⟩)
 |i+3,h=>simp at h
theorem Gz {l:List Pr} (h3:(l.map Pr.name).Nodup) (h4:∀s∈l.map Pr.name,C5 s) (h5:∀p∈l,PrI 2 2 p):MG (sgG l):=
 nB (n:=2) (by decide) rfl rfl rfl rfl (by show bA nST;unfold bA;decide) (by show ∀s∈nST,s.size<=10;decide) h3 h4 h5 ⟨trivial,λ_ h=>(by cases h)⟩ λ_ h=>by cases h
theorem KP {l:List Pr} (h0:l.length≠0) (h1:l.length<=3):Bd (sgG l) 3 0:=
 ⟨by show 2<=3;decide,by show (2:Nat)≠0;decide,by show 2<=3;decide,h0,h1,rfl,by show 0<=0;decide,λ_ h=>(by cases h),by show 0<=0;decide⟩
theorem zR:MG (sgG sp1):=Gz (by decide) (by decide) λp hp=>by
 obtain ⟨i,hi⟩:=Vw hp;rcases nA hi with ⟨_,rfl⟩|⟨_,rfl⟩|⟨_,rfl⟩
 ·exact aZ (by decide) (aT _)
 ·exact aZ (by decide) (dN (by decide) (by decide))
 ·exact aZ (by decide) (dN (by decide) (by decide))
theorem zS:MG (sgG sp2):=Gz (by decide) (by decide) λp hp=>by
 obtain ⟨i,hi⟩:=Vw hp;rcases nA hi with ⟨_,rfl⟩|⟨_,rfl⟩|⟨_,rfl⟩
 ·exact aZ (by decide) (aT _)
 ·exact aZ (by decide) (dN (by decide) (by decide))
 ·exact aZ (by decide) (aT _)
theorem zU:MG (sgG sp3):=Gz (by decide) (by decide) λp hp=>by
 obtain ⟨i,hi⟩:=Vw hp;rcases nA hi with ⟨_,rfl⟩|⟨_,rfl⟩|⟨_,rfl⟩
 ·exact aZ (by decide) (dN (by decide) (by decide))
 ·exact aZ (by decide) (aT _)
 ·exact aZ (by decide) (aT _)
theorem GA {l:List Pr} (h:MG (sgG l)) (h0:l.length≠0) (h1:l.length<=3):OkK (sgG l) 2:=⟨h.ok (KP h0 h1) (by decide) (by decide),rfl,by decide⟩
theorem C4:∀t∈dV,t.cond=aM:=by intro t ht;have e:dV.map sD=dV:=rfl;rw [<- e] at ht;obtain ⟨u,_,rfl⟩:=T3.1 ht;rfl
theorem mw {l:List Pr} (h:OkK (sgG l) 2) {i:Nat} {x:Pr} {t:Tr} (hx:l[i]? =some x) (hc:x.cond=dia t) (ht:t.ok) (c:Cf):(aI (sgG l) i).ev c=t.ev c:=by
 have hx':(sgG l).prods[i]? =some x:=hx;have hm:=TU hx';have e1:tre (sgG l).fam=leaf true:=fE (t:=leaf true) trivial;rw [h.prs_ev hx',e1,hc,fE ht];have:(x.right.all λs=> !s.t || (iQ (sgG l) s.i).ev c)=true:=by
  rw [Uk];intro s hs;cases hst:s.t with
  |false=>rfl
  |true=>
   obtain ⟨u,hu,_⟩:=((h.prod hm).2.2.2 s hs).2.2 hst;have hu':dV[s.i.toNat]? =some u:=hu;have e2:=C4 u (TU hu');have e3:iQ (sgG l) s.i=leaf true:=by unfold iQ;rw [hu];dsimp only;rw [e2];exact fE (t:=leaf true) trivial
   rw [e3];rfl
 rw [this];show (true && t.ev c && true)=_;simp
theorem iF (v:Nat) (c:Cf):(tv v).ev c=c v:=by show (if c v=true then true else false)=c v;cases c v<;>rfl
structure Sg (l:List Pr) (f:Nat->Tr):Prop where
 mg:MG (sgG l)
 ok:OkK (sgG l) 2
 ev:∀i x,l[i]? =some x->∀c,(aI (sgG l) i).ev c=(f i).ev c
def sf1 (i:Nat):Tr:=if i=0 then leaf true else if i=1 then tv 0 else tv 1
def sf2 (i:Nat):Tr:=if i=1 then tv 0 else leaf true
def sf3 (i:Nat):Tr:=if i=0 then tv 0 else leaf true
theorem sg1:Sg sp1 sf1:=by
 have h:=GA zR (by decide) (by decide);refine ⟨zR,h,λi x hi c=> ?_⟩;rcases nA hi with ⟨rfl,rfl⟩|⟨rfl,rfl⟩|⟨rfl,rfl⟩
 ·exact mw h hi (t:=leaf true) rfl trivial c
 ·exact mw h hi (t:=tv 0) rfl (qM (by decide)) c
 ·exact mw h hi (t:=tv 1) rfl (qM (by decide)) c
theorem sg2:Sg sp2 sf2:=by
 have h:=GA zS (by decide) (by decide);refine ⟨zS,h,λi x hi c=> ?_⟩;rcases nA hi with ⟨rfl,rfl⟩|⟨rfl,rfl⟩|⟨rfl,rfl⟩
 ·exact mw h hi (t:=leaf true) rfl trivial c
 ·exact mw h hi (t:=tv 0) rfl (qM (by decide)) c
 ·exact mw h hi (t:=leaf true) rfl trivial c
theorem sg3:Sg sp3 sf3:=by
 have h:=GA zU (by decide) (by decide);refine ⟨zU,h,λi x hi c=> ?_⟩;rcases nA hi with ⟨rfl,rfl⟩|⟨rfl,rfl⟩|⟨rfl,rfl⟩
 ·exact mw h hi (t:=tv 0) rfl (qM (by decide)) c
 ·exact mw h hi (t:=leaf true) rfl trivial c
 ·exact mw h hi (t:=leaf true) rfl trivial c
section
variable {c:Cf} {st:Bool}
theorem Rb:(aI (sgG sp1) 0).ev c=true:=sg1.ev 0 _ rfl c
theorem Rc:(aI (sgG sp1) 1).ev c=c 0:=(sg1.ev 1 _ rfl c).trans (iF 0 c)
theorem IL:(aI (sgG sp1) 2).ev c=c 1:=(sg1.ev 2 _ rfl c).trans (iF 1 c)
theorem rR {n:Int} (d:Der sp1 (aI (sgG sp1)) st c n):c 0=true:=by
 induction d with
 |mk i x hi hp ht hd ih=>
  rcases nA hi with ⟨rfl,rfl⟩|⟨rfl,rfl⟩|⟨rfl,rfl⟩
  ·exact ih ⟨false,1⟩ (by decide) rfl
  ·rw [Rc] at hp;exact hp
  ·exact ih ⟨false,1⟩ (by decide) rfl
theorem jJ (h:c 0=true):Der sp1 (aI (sgG sp1)) true c 1:=.mk 1 (mkC ⟨#[116]⟩ 1 [] (dia (tv 0))) rfl (by rw [Rc];exact h) (λ_ h=>(by cases h)) λ_ h=>by cases h
theorem IM (h:c 0=true):Der sp1 (aI (sgG sp1)) false c 0:=.mk 0 (mkC ⟨#[115]⟩ 0 [⟨true,0⟩,⟨false,1⟩] aM) rfl Rb (λ_ _ _=>rfl) λs hs ht=>by
 rcases TN.1 hs with rfl|hs
 ·cases ht
 ·rw [TO.1 hs];exact (jJ h).up
theorem IN:¬Der sp1 (aI (sgG sp1)) true c 0:=by
 rw [Der.inv];rintro ⟨i,x,hi,hl,hp,ht,hd⟩;rcases nA hi with ⟨rfl,rfl⟩|⟨rfl,rfl⟩|⟨rfl,rfl⟩
 ·exact absurd (ht ⟨true,0⟩ (by decide) rfl) (by decide)
 ·exact absurd hl (by decide)
 ·exact absurd hl (by decide)
theorem MU:Fst sp1 (aI (sgG sp1)) c 1 1↔c 0=true/\c 1=true:=by
 constructor
 ·intro f;refine ⟨rR f.der,?_⟩;obtain ⟨i,x,hi,hl,hp,hr⟩:=f.pres;rcases nA hi with ⟨rfl,rfl⟩|⟨rfl,rfl⟩|⟨rfl,rfl⟩
  ·exact absurd hl (by decide)
  ·exact absurd rfl hr
  ·rw [IL] at hp;exact hp
 ·rintro ⟨h0,h1⟩;refine .tok 2 0 (mkC ⟨#[117]⟩ 1 [⟨true,1⟩,⟨false,1⟩] (dia (tv 1))) ⟨true,1⟩ rfl (by rw [IL];exact h1) (λy hy hyt=> ?_) rfl (λm y hm=>by omega) rfl;rcases TN.1 hy with rfl|hy
  ·cases hyt
  ·rw [TO.1 hy];exact (jJ h0).up
theorem MV:Use sp1 (aI (sgG sp1)) (leaf true) 0 c 2↔c 0=true/\c 1=true:=by
 constructor
 ·rintro ⟨x,hi,hp,_,hd⟩;cases hi;rw [IL] at hp;exact ⟨rR (hd ⟨false,1⟩ (by decide) rfl),hp⟩
 ·rintro ⟨h0,h1⟩;have hd:∀y∈([⟨true,0⟩,⟨false,1⟩]:List Sy),y.t=false->Der sp1 (aI (sgG sp1)) false c y.i:=λy hy hyt=>by
   rcases TN.1 hy with rfl|hy
   ·cases hyt
   ·rw [TO.1 hy];exact (jJ h0).up
  refine ⟨_,rfl,by rw [IL];exact h1,?_,λy hy hyt=> ?_⟩
  ·exact .step 0 (mkC ⟨#[115]⟩ 0 [⟨true,0⟩,⟨false,1⟩] aM) ⟨false,1⟩ rfl Rb (.start rfl) hd (by decide) rfl
  ·rcases TN.1 hy with rfl|hy
   ·cases hyt
   ·rw [TO.1 hy];exact (jJ h0).up
theorem MW {a b:Int}:¬Stp sp1 (aI (sgG sp1)) c a b:=by
 rintro ⟨i,j,x,s,hi,hj,hs,_,_,_,ho⟩;rcases nA hi with ⟨rfl,rfl⟩|⟨rfl,rfl⟩|⟨rfl,rfl⟩
 ·match j,hj with
  |0,hj=>cases hj;cases hs
  |j+1,_=>exact absurd (ho 0 ⟨true,0⟩ (by omega) rfl).1 (by decide)
 ·simp [mkC] at hj
 ·match j,hj with
  |0,hj=>cases hj;cases hs
  |j+1,_=>exact absurd (ho 0 ⟨true,1⟩ (by omega) rfl).1 (by decide)
theorem Rd:(aI (sgG sp2) 1).ev c=c 0:=(sg2.ev 1 _ rfl c).trans (iF 0 c)
theorem TB:(aI (sgG sp2) 0).ev c=true:=sg2.ev 0 _ rfl c
theorem tZ {r:Sy} {m:Nat} {y:Sy} {p:Prop} (hm:m≠0) (hy:[r][m]? =some y):p:=by
 match m,hm,hy with
 |0,hm,_=>exact absurd rfl hm
 |m+1,_,hy=>simp at hy
theorem zV {a b:Int} (h:Stp sp2 (aI (sgG sp2)) c a b):(a=0/\b=1)\/(a=1/\b=0/\c 0=true):=by
 obtain ⟨i,j,x,s,hi,hj,hs,ha,hb,hp,ho⟩:=h;rcases nA hi with ⟨rfl,rfl⟩|⟨rfl,rfl⟩|⟨rfl,rfl⟩
 ·match j,hj with
  |0,hj=>cases hj;exact .inl ⟨ha.symm,hb.symm⟩
  |j+1,hj=>simp [mkC] at hj
 ·match j,hj with
  |0,hj=>cases hj;rw [Rd] at hp;exact .inr ⟨ha.symm,hb.symm,hp⟩
  |j+1,hj=>simp [mkC] at hj
 ·match j,hj with
  |0,hj=>cases hj;cases hs
  |j+1,hj=>simp [mkC] at hj
theorem GB:Stp sp2 (aI (sgG sp2)) c 0 1:=⟨0,0,_,⟨false,1⟩,rfl,rfl,rfl,rfl,rfl,TB,λ_ _ hm hy=>tZ hm hy⟩
theorem BM (h:c 0=true):Stp sp2 (aI (sgG sp2)) c 1 0:=⟨1,0,_,⟨false,0⟩,rfl,rfl,rfl,rfl,rfl,by rw [Rd];exact h,λ_ _ hm hy=>tZ hm hy⟩
theorem zW {n:Int} (hn:n=0\/n=1):Tg (Stp sp2 (aI (sgG sp2)) c) n n↔c 0=true:=by
 constructor
 ·intro h;rcases hn with rfl|rfl
  ·generalize hb:(0:Int)=b at h;cases h with
   |one h=>
    subst hb;rcases zV h with ⟨_,h⟩|⟨_,_,h⟩
    ·exact absurd h (by decide)
    ·exact h
   |snoc _ h=>
    subst hb;rcases zV h with ⟨_,h⟩|⟨_,_,h⟩
    ·exact absurd h (by decide)
    ·exact h
  ·obtain ⟨d,h⟩:=h.head;rcases zV h with ⟨h,_⟩|⟨_,_,h⟩
   ·exact absurd h (by decide)
   ·exact h
 ·intro h;rcases hn with rfl|rfl
  ·exact .snoc (.one GB) (BM h)
  ·exact .snoc (.one (BM h)) GB
theorem Re:(aI (sgG sp3) 0).ev c=c 0:=(sg3.ev 0 _ rfl c).trans (iF 0 c)
theorem TC:(aI (sgG sp3) 2).ev c=true:=sg3.ev 2 _ rfl c
theorem GC {n:Int} (d:Der sp3 (aI (sgG sp3)) true c n):n≠0:=by
 induction d with
 |mk i x hi hp ht hd ih=>
  rcases nA hi with ⟨rfl,rfl⟩|⟨rfl,rfl⟩|⟨rfl,rfl⟩
  ·exact absurd rfl (ih ⟨false,0⟩ (by decide) rfl)
  ·exact absurd (ht ⟨true,0⟩ (by decide) rfl) (by decide)
  ·decide
theorem GD:Der sp3 (aI (sgG sp3)) true c 1:=.mk 2 (mkC ⟨#[117]⟩ 1 [] aM) rfl TC (λ_ h=>(by cases h)) λ_ h=>by cases h
theorem GE {a b:Int} (h:Stp sp3 (aI (sgG sp3)) c a b):a=0/\b=0/\c 0=true:=by
 obtain ⟨i,j,x,s,hi,hj,hs,ha,hb,hp,ho⟩:=h;rcases nA hi with ⟨rfl,rfl⟩|⟨rfl,rfl⟩|⟨rfl,rfl⟩
 ·match j,hj with
  |0,hj=>exact absurd rfl (GC (ho 1 ⟨false,0⟩ (by decide) rfl).2)
  |1,hj=>cases hj;rw [Re] at hp;exact ⟨ha.symm,hb.symm,hp⟩
  |j+2,hj=>exact absurd rfl (GC (ho 1 ⟨false,0⟩ (by omega) rfl).2)
 ·match j,hj with
  |0,hj=>cases hj;cases hs
  |j+1,hj=>simp [mkC] at hj
 ·simp [mkC] at hj
theorem IP:Tg (Stp sp3 (aI (sgG sp3)) c) 0 0↔c 0=true:=by
 constructor
 ·intro h;obtain ⟨d,h⟩:=h.head;exact (GE h).2.2
 ·intro h;refine .one ⟨0,1,_,⟨false,0⟩,rfl,rfl,rfl,rfl,rfl,by rw [Re];exact h,λm y hm hy=> ?_⟩
  match m,hm,hy with
  |0,_,hy=>cases hy;exact ⟨rfl,GD⟩
  |1,hm,_=>exact absurd rfl hm
  |2,_,hy=>cases hy;exact ⟨rfl,GD⟩
  |m+3,_,hy=>simp [mkC] at hy
theorem IQ:¬Tg (Stp sp3 (aI (sgG sp3)) c) 1 1:=λh=>by obtain ⟨d,h⟩:=h.head;exact absurd (GE h).1 (by decide)
end
theorem iz {k:Nat} {t u:Tr} (ht:Sx k t) (hu:u.ok) (h:∀c,t.ev c=true↔u.ev c=true):t=u:=
 eB ht.1 hu λc=>TW.2 (h c)
theorem t4 {k:Nat} {t:Tr} (ht:Sx k t) (h:∀c,t.ev c≠true):t=leaf false:=iz ht trivial λc=>⟨λh'=>absurd h' (h c),λh'=>by cases h'⟩
noncomputable abbrev rS:Tr:=ap2 be (tv 0) (tv 1)
theorem pG:Sx 2 rS:=(Sx.tv (by decide) (by decide)).ap2 (o:=be) (Sx.tv (by decide) (by decide))
theorem BN (c:Cf):rS.ev c=true↔c 0=true/\c 1=true:=by rw [(bq (qM (by decide)) (qM (by decide))).2,iF,iF];exact Uc
variable {R:VR} {F:PH}
set_option maxRecDepth 10000
set_option maxHeartbeats 4000000
def vS (b c:Nat) (R:VR) (F:PH):Prop:=Lr F 9 (Am c 0) λa=>az F (Am b 0) 9 a λF=>Rr 9 (Am b 0) R F
def vT (c:Ω) (_:Sl) (_ _:Nat) (b:Int) (_:VR) (F:PH):Prop:=c (i64.wrap (b+1)) F
def vU (u:Ω) (a:Sl) (v f:Nat) (d:Int) (w:Θ) (R:VR) (F:PH):Prop:=Ix a d λo=>Lk F .u8 (Addr.add (Addr.add o (Int.toNat d*4)) 2) λp=>Ls F (Am f 0) λk=>Ca 33 #[.int .u8 p,(vi (k.len:Int))] F λq F=>F.cell (Am f 0)=some (Sl.v k)/\∃c,w=some c/\az F (Addr.add c 3) 2 q λF=>Ls F (Am f 5) λe=>Lr F 13 c λb=>((Nb F (.cells #[] 55) λr F=>((Ap 33 #[Sl.v (Sb r 0),Sl.v e] F λs F=>F.row c b/\b.size=13/\Nb F (.cells b 55) λx F=>Ap 33 #[Sl.v s,Sl.v (Sb x 1)] F λt F=>sto F (Am f 5) (Sl.v t) λF=>vT u a v f d R F)/\(b.size=13/\Nb F (.cells b 55) λl F=>Ap 33 #[Sl.v (Sb r 0),Sl.v e] F λg F=>Ap 33 #[Sl.v g,Sl.v (Sb l 1)] F λh F=>sto F (Am f 5) (Sl.v h) λF=>vT u a v f d R F)))/\(b.size=13/\Nb F (.cells b 55) λm F=>Nb F (.cells #[] 55) λn F=>Ap 33 #[Sl.v (Sb n 0),Sl.v e] F λi F=>Ap 33 #[Sl.v i,Sl.v (Sb m 1)] F λj F=>sto F (Am f 5) (Sl.v j) λF=>vT u a v f d R F))
def vV (_ k:Ω) (_:Sl) (_ _:Nat) (_:Int) (f:Θ) (_:Sl) (g:Int) (h:Nat) (_:VR) (F:PH):Prop:=∃a,f=some a/\Ls F (Addr.add a 2) λc=>Lr F 2 (Am h 0) λb=>b.size=2/\Nb F (.cells b 63) λi F=>Ap 50 #[Sl.v c,Sl.v (Sb i 1)] F λd F=>sto F (Addr.add a 2) (Sl.v d) λF=>k (i64.wrap (g+1)) F
def zX (o q:Ω) (a:Sl) (p h:Nat) (d:Int) (e:Θ) (c:Sl) (R:VR) (b:Int) (F:PH):Prop:=Bc (b<(c.len:Int)) (Bc (b<3) (Ix c b λi=>Lk F .u8 (Addr.add i (Int.toNat b*1)) λj=>Ls F (Am h 4) λg=>(g.len:Int)≠0/\Nb F (.cells (#[.bool false,vi 0]) 63) λf F=>az F (Am f 0) 2 (#[.bool false,(vi (Int.tmod (i64.wrap j) (g.len:Int)))]:Γ) λF=>Ix c b λk=>Lk F .u8 (Addr.add k (Int.toNat b*1)) λl=>Bc (200<l) (Ix c b λm=>Lk F .u8 (Addr.add m (Int.toNat b*1)) λn=>az F (Am f 0) 2 (#[.bool true,(vi (Int.tmod (i64.wrap n) 9))]:Γ) λF=>vV o q a p h d e c b f R F) (vV o q a p h d e c b f R F)) (vU o a p h d e R F)) (vU o a p h d e R F)
def vW (i:Ω) (a:Sl) (j k:Nat) (b:Int) (g:Θ) (R:VR) (F:PH):Prop:=Ix a b λc=>Ls F (Addr.add (Addr.add c (Int.toNat b*4)) 1) λd=>(∃(h:Nat->Ω) (f:Nat),h f 0 F/\∀f e F,h f e F-> zX i (nx1 h f) a j k b g d R e F)
def zY (m:Ω) (a:Sl) (k i:Nat) (R:VR) (c:Int) (F:PH):Prop:=Bc (c<(a.len:Int)) (Bc (c<4) (Ix a c λj=>Lk F .u8 (Addr.add j (Int.toNat c*4)) λf=>Ls F (Am i 4) λd=>(d.len:Int)≠0/\((Nb F (.cells #[.int .u8 (u8.wrap (i64.wrap (97+c)))] 5) λl F=>∃e,rdo prog (Conv.bytesToString (Sl.v (Sb l 1))) F (.string e)/\(ByteArray.mk #[113]).size+e.size<=9223372036854775807/\Nb F (.cells zP 55) λn F=>az F (Am n 0) 13 (#[.string ((ByteArray.mk #[113])++e),(vi (Int.tmod (i64.wrap f) (d.len:Int))),.slice none 0 0,.slice none 0 0,vi 0,.bool false,vi 0,.slice none 0 0,.bool false,vi 0,vi 0,vi 0,vi 0]:Γ) λF=>vW m a k i c (some (Am n 0)) R F)/\(Nb F (.cells zP 55) λg F=>Nb F (.cells #[.int .u8 (u8.wrap (i64.wrap (97+c)))] 5) λh F=>∃b,rdo prog (Conv.bytesToString (Sl.v (Sb h 1))) F (.string b)/\(ByteArray.mk #[113]).size+b.size<=9223372036854775807/\az F (Am g 0) 13 (#[.string ((ByteArray.mk #[113])++b),(vi (Int.tmod (i64.wrap f) (d.len:Int))),.slice none 0 0,.slice none 0 0,vi 0,.bool false,vi 0,.slice none 0 0,.bool false,vi 0,vi 0,vi 0,vi 0]:Γ) λF=>vW m a k i c (some (Am g 0)) R F))) (vS k i R F)) (vS k i R F)
def Rf (d:Γ) (a:Sl) (R:VR) (F:PH):Prop:=Nb F (.cells d 26) λg F=>Nb F (.cells zG 37) λh F=>Lr F 5 (Am g 0) λb=>Ca 32 #[.agg b] F λc F=>Nb F (.cells zG 37) λf F=>az F (Am f 0) 9 c λF=>Lp 0 F λN e F=>zY N a h f R e F
theorem TD {b:Γ} {a:Sl} (h:Rf b a R F):aj prog 13 #[.agg b,Sl.v a] F R:=Rx.sxC (args:=[.agg b,Sl.v a]) (.T .N (.T .N (.J false [] (.T .N (.L [(6,.int .i64)] (.T .N (.J false [] (.J false [(7,.ptr)] .N (.T .N (.J false [] (.T .N (.L [(9,.int .i64)] (.T .N (.T (.T .N (.J false [] .N .N)) .N)))) .N))) .N)))) .N))) (by kernel_rfl) h
def GF (R:VR) (F:PH):Prop:=R (.bool true) F
def zZ (i:Ω) (b h:Sl) (R:VR) (a:Int) (F:PH):Prop:=Bc (a<(b.len:Int)) (Ix b a λc=>Lr F 2 (Addr.add c (Int.toNat a*2)) λd=>Ix h a λe=>Lr F 2 (Addr.add e (Int.toNat a*2)) λf=>Cbo 50 #[.agg d,.agg f] F λg F=>Bb ((!g)) (R (.bool false) F) (i (i64.wrap (a+1)) F)) (GF R F)
def Rg (a b:Sl) (R:VR) (F:PH):Prop:=Bc ((a.len:Int)≠(b.len:Int)) (R (.bool false) F) (Lp 0 F λN c F=>zZ N a b R c F)
theorem TE {a:Sl} {b:Sl} (h:Rg a b R F):aj prog 18 #[Sl.v a,Sl.v b] F R:=Rx.sxC (args:=[Sl.v a,Sl.v b]) (.T .N (.T .N (.J false [] (.T .N (.L [(5,.int .i64)] .N)) .N))) (by kernel_rfl) h
def GG (a b:Sl) (R:VR) (F:PH):Prop:=R (.tuple #[Sl.v a,Sl.v b,.bool true]) F
def GH (s:Sl->Sl->Sl->Ω) (_:Int) (m:Sl) (u:Nat) (a c e:Sl) (d:Int) (b:Sl) (R:VR) (F:PH):Prop:=Bc ((b.len:Int)=0) (R (.tuple #[Sl.v Sl.nil,Sl.v Sl.nil,.bool false]) F) (Bc (d=(m.len:Int)) (R (.tuple #[Sl.v Sl.nil,Sl.v Sl.nil,.bool false]) F) (Bc (d=40) (R (.tuple #[Sl.v Sl.nil,Sl.v Sl.nil,.bool false]) F) (Bc ((60:Int)<((Sl.cut a 2 1 a.len a.cap).len:Int)) (R (.tuple #[Sl.v Sl.nil,Sl.v Sl.nil,.bool false]) F) (Ix m d λn=>Lk F .u8 (Addr.add n (Int.toNat d*1)) λg=>(b.len:Int)≠0/\Ix b (Int.tmod (i64.wrap g) (b.len:Int)) λo=>∃f,F.cell (Addr.add o (Int.toNat (Int.tmod (i64.wrap g) (b.len:Int))*1))=some (vi f)/\Nb F (.cells #[(vi f)] 3) λq F=>Ap 67 #[Sl.v e,Sl.v (Sb q 1)] F λp F=>Nb F (.cells #[] 63) λr F=>Ls F (Am u 5) λh=>Ix h f λi=>Ls F (Addr.add (Addr.add i (Int.toNat f*13)) 2) λj=>Ap 50 #[Sl.v (Sb r 0),Sl.v j] F λk F=>Ap 50 #[Sl.v k,Sl.v (Sl.cut a 2 1 a.len a.cap)] F λl F=>s l c p (i64.wrap (d+1)) F))))
def rT (_:Sl->Sl->Sl->Ω) (g:Sl->Ω) (_:Int) (_:Sl) (_:Nat) (_ _ _:Sl) (_:Int) (_:Nat) (e:Int) (a:Sl) (_:VR) (F:PH):Prop:=g a (i64.wrap (e+1)) F
def vX (m:Sl->Sl->Sl->Ω) (n:Sl->Ω) (g:Int) (h:Sl) (o:Nat) (d a b:Sl) (f:Int) (i:Nat) (c:Sl) (e:Int) (j:Bool) (R:VR) (F:PH):Prop:=Bb (j) (Nb F (.cells #[(vi e)] 3) λl F=>Ap 67 #[Sl.v c,Sl.v (Sb l 1)] F λk F=>rT m n g h o d a b f i e k R F) (rT m n g h o d a b f i e c R F)
def GI (r:Sl->Sl->Sl->Ω) (s:Sl->Ω) (g:Int) (m:Sl) (n:Nat) (d a b:Sl) (f:Int) (h:Nat) (R:VR) (c:Sl) (e:Int) (F:PH):Prop:=Ls F (Am n 5) λo=>Bc (e<(o.len:Int)) (Ls F (Am n 5) λi=>Ix i e λj=>Li F (Addr.add (Addr.add j (Int.toNat e*13)) 1) λk=>Li F (Am h 1) λl=>Bc (k=l) (Lr F 9 (Am n 0) λp=>Cbo 99 #[.agg p,.int .u64 g,(vi e)] F λq F=>F.cell (Am h 1)=some (vi l)/\F.cell (Addr.add (Addr.add j (Int.toNat e*13)) 1)=some (vi k)/\F.cell (Am n 5)=some (Sl.v i)/\vX r s g m n d a b f h c e q R F) (vX r s g m n d a b f h c e false R F)) (GH r g m n d a b f c R F)
def GJ (r:Sl->Sl->Sl->Ω) (n:Int) (o:Sl) (s:Nat) (R:VR) (a b c:Sl) (f:Int) (F:PH):Prop:=Bc ((0:Int)<(a.len:Int)) (Ix a 0 λh=>Lr F 2 (Addr.add h (Int.toNat 0*2)) λi=>Nb F (.cells (#[.bool false,vi 0]) 63) λe F=>az F (Am e 0) 2 i λF=>1<=a.len/\a.len<=a.cap/\Lb F (Am e 0) λj=>Bb (j) (Li F (Am e 1) λk=>Nb F (.cells #[(vi k)] 3) λp F=>Ap 67 #[Sl.v b,Sl.v (Sb p 1)] F λl F=>r (Sl.cut a 2 1 a.len a.cap) l c f F) ((∃(q:Nat->Sl->Ω) (m:Nat),q m Sl.nil 0 F/\∀m d g F,q m d g F-> GI r (nx2 q m) n o s a b c f e R d g F))) (GG b c R F)
def Rh (k:Γ) (l d:Int) (m:Sl) (R:VR) (F:PH):Prop:=Nb F (.cells k 37) λq F=>(#[.bool false,(vi d)]:Γ).size=2/\Nb F (.cells (#[.bool false,(vi d)]:Γ) 63) λn F=>(∃(o:Nat->Sl->Sl->Sl->Ω) (j:Nat),o j (Sb n 1) Sl.nil Sl.nil 0 F/\∀j c a b e F,o j c a b e F-> GJ (λf g h i F=>∃p,p<j/\o p f g h i F) l m q R c a b e F)
theorem TF {b:Γ} {c:Int} {a:Int} {d:Sl} (h:Rh b c a d R F):aj prog 40 #[.agg b,.int .u64 c,(vi a),Sl.v d] F R:=Rx.sxC (args:=[.agg b,.int .u64 c,(vi a),Sl.v d]) (.T .N (.T .N (.T .N (.J false [(12,.sl),(13,.sl)] (.T .N (.L [(11,.sl),(12,.sl),(13,.sl),(14,.int .i64)] (.T .N (.T .N (.T .N (.T .N (.T .N (.J false [(16,.sl)] (.T .N (.L [(16,.sl),(17,.int .i64)] (.T .N (.J false [(16,.sl)] (.J false [(58,.bool)] .N .N) .N)))) .N)))))))) .N)))) (by kernel_rfl) h
variable {R:VR} {F:PH}
set_option maxRecDepth 10000
set_option maxHeartbeats 4000000
def vY (a:Bool) (R:VR) (F:PH):Prop:=R (.bool a) F
def z6 (n:Ω) (d:Bool) (o:Nat) (j:Int) (k:Sl) (l:Int) (a m:Sl) (R:VR) (b:Int) (F:PH):Prop:=Bc (b<(a.len:Int)) (Li F (Am o 6) λe=>Bc ((Int.tmod (i64.wrap j) (k.len:Int))=e) (Ix a b λf=>Li F (Addr.add f (Int.toNat b*1)) λc=>Ix m c λg=>Lr F 2 (Addr.add g (Int.toNat c*2)) λh=>Cbo 41 #[.agg h,.int .u64 l] F λi F=>Bb ((!i)) (R (.bool false) F) (n (i64.wrap (b+1)) F)) (vY d R F)) (vY d R F)
def kH (b:Bool) (h:Nat) (c:Int) (d:Sl) (e:Int) (a f:Sl) (R:VR) (F:PH):Prop:=Lp 0 F λN g F=>z6 N b h c d e a f R g F
def Ri (Z:Γ) (R:VR) (F:PH):Prop:=Nb F (.cells Z 72) λb1 F=>Cbo 12 #[] F λl F=>Lr F 5 (Am b1 0) λab=>Ls F (Am b1 5) λac=>Ca 13 #[.agg ab,Sl.v ac] F λad F=>Nb F (.cells zG 37) λy F=>az F (Am y 0) 9 ad λF=>Lk F .u8 (Am b1 6) λb=>Ls F (Am y 4) λa=>(a.len:Int)≠0/\Lr F 9 (Am y 0) λae=>aj prog 39 #[.agg ae,(vi 16)] F λv F=>∃i,∃K,v=(.tuple #[Sl.v i,.bool K])/\Bc ((i.len:Int)=0) (R (.bool false) F) (Lk F .u8 (Am b1 7) λP=>(i.len:Int)≠0/\Ix i (Int.tmod (i64.wrap P) (i.len:Int)) λaf=>∃c,F.cell (Addr.add af (Int.toNat (Int.tmod (i64.wrap P) (i.len:Int))*1))=some (.int .u64 c)/\Lr F 9 (Am y 0) λag=>Ls F (Am b1 8) λah=>aj prog 40 #[.agg ag,.int .u64 c,(vi (Int.tmod (i64.wrap b) (a.len:Int))),Sl.v ah] F λv F=>∃e,∃d,∃x,v=(.tuple #[Sl.v e,Sl.v d,.bool x])/\Bb ((!x)) (R (.bool l) F) (Lr F 9 (Am y 0) λai=>aj prog 14 #[.agg ai] F λv F=>∃z,∃L,v=(.tuple #[Sl.v z,(vi L)])/\Lr F 9 (Am y 0) λak=>aj prog 16 #[.agg ak] F λv F=>∃A,∃M,v=(.tuple #[Sl.v A,(vi M)])/\Lr F 9 (Am y 0) λal=>aj prog 25 #[.agg al] F λv F=>∃j,∃N,v=(.tuple #[Sl.v j,(vi N)])/\Lr F 9 (Am y 0) λam=>aj prog 21 #[.agg am] F λv F=>∃k,∃O,v=(.tuple #[Sl.v k,(vi O)])/\Bc ((z.len:Int)<=(Int.tmod (i64.wrap b) (a.len:Int))) (R (.bool false) F) (Bc ((A.len:Int)<=(Int.tmod (i64.wrap b) (a.len:Int))) (R (.bool false) F) (Bc ((j.len:Int)<=(Int.tmod (i64.wrap b) (a.len:Int))) (R (.bool false) F) (Ls F (Am y 5) λQ=>Bc ((k.len:Int)≠(Q.len:Int)) (R (.bool false) F) (Ix A (Int.tmod (i64.wrap b) (a.len:Int)) λS=>∃r,r.size=2/\F.row (Addr.add S (Int.toNat (Int.tmod (i64.wrap b) (a.len:Int))*2)) r/\Cbo 41 #[.agg r,.int .u64 c] F λT F=>Bb ((!T)) (R (.bool false) F) (Bc ((e.len:Int)=0) (Ix z (Int.tmod (i64.wrap b) (a.len:Int)) λU=>∃s,s.size=2/\F.row (Addr.add U (Int.toNat (Int.tmod (i64.wrap b) (a.len:Int))*2)) s/\Cbo 41 #[.agg s,.int .u64 c] F λV F=>Bb ((!V)) (R (.bool false) F) (Bc ((0:Int)<(e.len:Int)) (Ix j (Int.tmod (i64.wrap b) (a.len:Int)) λB=>∃t,F.cell (Addr.add B (Int.toNat (Int.tmod (i64.wrap b) (a.len:Int))*1))=some (Sl.v t)/\Ix e 0 λC=>Li F (Addr.add C (Int.toNat 0*1)) λD=>Bc ((t.len:Int)<=D) (R (.bool false) F) (Ix j (Int.tmod (i64.wrap b) (a.len:Int)) λE=>∃u,F.cell (Addr.add E (Int.toNat (Int.tmod (i64.wrap b) (a.len:Int))*1))=some (Sl.v u)/\Ix e 0 λG=>Li F (Addr.add G (Int.toNat 0*1)) λw=>Ix u w λW=>Lr F 2 (Addr.add W (Int.toNat w*2)) λX=>Cbo 41 #[.agg X,.int .u64 c] F λY F=>F.cell (Addr.add G (Int.toNat 0*1))=some (vi w)/\F.cell (Addr.add E (Int.toNat (Int.tmod (i64.wrap b) (a.len:Int))*1))=some (Sl.v u)/\F.cell (Addr.add C (Int.toNat 0*1))=some (vi D)/\F.cell (Addr.add B (Int.toNat (Int.tmod (i64.wrap b) (a.len:Int))*1))=some (Sl.v t)/\Bb ((!Y)) (R (.bool false) F) (kH l y b a c d k R F))) (kH l y b a c d k R F))) (Bc ((0:Int)<(e.len:Int)) (Ix j (Int.tmod (i64.wrap b) (a.len:Int)) λm=>∃f,F.cell (Addr.add m (Int.toNat (Int.tmod (i64.wrap b) (a.len:Int))*1))=some (Sl.v f)/\Ix e 0 λn=>Li F (Addr.add n (Int.toNat 0*1)) λo=>Bc ((f.len:Int)<=o) (R (.bool false) F) (Ix j (Int.tmod (i64.wrap b) (a.len:Int)) λp=>∃g,F.cell (Addr.add p (Int.toNat (Int.tmod (i64.wrap b) (a.len:Int))*1))=some (Sl.v g)/\Ix e 0 λq=>Li F (Addr.add q (Int.toNat 0*1)) λh=>Ix g h λH=>Lr F 2 (Addr.add H (Int.toNat h*2)) λI=>Cbo 41 #[.agg I,.int .u64 c] F λJ F=>F.cell (Addr.add q (Int.toNat 0*1))=some (vi h)/\F.cell (Addr.add p (Int.toNat (Int.tmod (i64.wrap b) (a.len:Int))*1))=some (Sl.v g)/\F.cell (Addr.add n (Int.toNat 0*1))=some (vi o)/\F.cell (Addr.add m (Int.toNat (Int.tmod (i64.wrap b) (a.len:Int))*1))=some (Sl.v f)/\Bb ((!J)) (R (.bool false) F) (kH l y b a c d k R F))) (kH l y b a c d k R F)))))))))
theorem TG {a:Γ} (h:Ri a R F):aj prog 10 #[.agg a] F R:=Rx.sxC (args:=[.agg a]) (.T .N (.T .N (.T .N (.T .N (.T .N (.T .N (.T .N (.T .N (.T .N (.T .N (.T .N (.T .N (.T .N (.T .N (.J false [] .N (.J false [] (.T .N (.L [(20,.int .i64)] .N)) .N)))))))))))))))) (by kernel_rfl) h
def rU (e t A z:Nat) (p q:Bool) (R:VR) (F:PH):Prop:=Lr F 2 (Am t 0) λc=>Lr F 2 (Am e 0) λb=>Lr F 2 (Am e 0) λa=>Ca 49 #[(vi 1)] F λf F=>F.row (Am e 0) a/\F.row (Am e 0) b/\F.row (Am t 0) c/\Ca 49 #[(vi 0)] F λg F=>F.row (Am e 0) a/\F.row (Am e 0) b/\F.row (Am t 0) c/\Ca 49 #[(vi 1)] F λh F=>F.row (Am e 0) a/\F.row (Am e 0) b/\F.row (Am t 0) c/\f.size=2/\g.size=2/\h.size=2/\Nb F (.cells (wr (wr (wr (#[.bool false,vi 0,.bool false,vi 0,.bool false,vi 0]:Γ) 0 f.toList) 2 g.toList) 4 h.toList) 63) λu F=>Ca 47 #[.string ⟨#[115]⟩,(vi 0),.agg c,Sl.v (Sb u 3)] F λi F=>F.row (Am e 0) a/\F.row (Am e 0) b/\Ca 48 #[(vi 0)] F λj F=>F.row (Am e 0) a/\F.row (Am e 0) b/\j.size=2/\Nb F (.cells j 63) λw F=>Ca 47 #[.string ⟨#[116]⟩,(vi 0),.agg b,Sl.v (Sb w 1)] F λk F=>F.row (Am e 0) a/\Ca 47 #[.string ⟨#[117]⟩,(vi 1),.agg a,Sl.v Sl.nil] F λl F=>i.size=13/\k.size=13/\l.size=13/\Nb F (.cells (wr (wr (wr (#[.string ⟨#[]⟩,vi 0,.slice none 0 0,.slice none 0 0,vi 0,.bool false,vi 0,.slice none 0 0,.bool false,vi 0,vi 0,vi 0,vi 0,.string ⟨#[]⟩,vi 0,.slice none 0 0,.slice none 0 0,vi 0,.bool false,vi 0,.slice none 0 0,.bool false,vi 0,vi 0,vi 0,vi 0,.string ⟨#[]⟩,vi 0,.slice none 0 0,.slice none 0 0,vi 0,.bool false,vi 0,.slice none 0 0,.bool false,vi 0,vi 0,vi 0,vi 0]:Γ) 0 i.toList) 13 k.toList) 26 l.toList) 55) λx F=>sto F (Am z 5) (Sl.v (Sb x 3)) λF=>Lr F 9 (Am z 0) λr=>aj prog 19 #[.agg r] F λv F=>∃m,∃d,v=(.tuple #[Sl.v m,(vi d)])/\Bb (p) (Bb (q) (Bc (d=0) (Lr F 2 (Am t 0) λn=>Lr F 2 (Am A 0) λo=>n.size=2/\o.size=2/\Nb F (.cells (wr (wr zL 0 n.toList) 2 o.toList) 31) λy F=>Cbo 18 #[Sl.v m,Sl.v (Sb y 2)] F λs F=>R (.bool s) F) (R (.bool false) F)) (R (.bool false) F)) (R (.bool false) F)
def kI (e p B u:Nat) (b:Bool) (R:VR) (F:PH):Prop:=Lr F 2 (Am e 0) λf=>Lr F 2 (Am p 0) λc=>Lr F 2 (Am e 0) λa=>Ca 49 #[(vi 1)] F λg F=>F.row (Am e 0) a/\F.row (Am p 0) c/\F.row (Am e 0) f/\g.size=2/\Nb F (.cells g 63) λw F=>Ca 47 #[.string ⟨#[115]⟩,(vi 0),.agg f,Sl.v (Sb w 1)] F λh F=>F.row (Am e 0) a/\F.row (Am p 0) c/\Ca 49 #[(vi 0)] F λi F=>F.row (Am e 0) a/\F.row (Am p 0) c/\i.size=2/\Nb F (.cells i 63) λx F=>Ca 47 #[.string ⟨#[116]⟩,(vi 1),.agg c,Sl.v (Sb x 1)] F λj F=>F.row (Am e 0) a/\Ca 48 #[(vi 0)] F λk F=>F.row (Am e 0) a/\k.size=2/\Nb F (.cells k 63) λy F=>Ca 47 #[.string ⟨#[117]⟩,(vi 1),.agg a,Sl.v (Sb y 1)] F λl F=>h.size=13/\j.size=13/\l.size=13/\Nb F (.cells (wr (wr (wr (#[.string ⟨#[]⟩,vi 0,.slice none 0 0,.slice none 0 0,vi 0,.bool false,vi 0,.slice none 0 0,.bool false,vi 0,vi 0,vi 0,vi 0,.string ⟨#[]⟩,vi 0,.slice none 0 0,.slice none 0 0,vi 0,.bool false,vi 0,.slice none 0 0,.bool false,vi 0,vi 0,vi 0,vi 0,.string ⟨#[]⟩,vi 0,.slice none 0 0,.slice none 0 0,vi 0,.bool false,vi 0,.slice none 0 0,.bool false,vi 0,vi 0,vi 0,vi 0]:Γ) 0 h.toList) 13 j.toList) 26 l.toList) 55) λz F=>sto F (Am u 5) (Sl.v (Sb z 3)) λF=>Lr F 9 (Am u 0) λq=>aj prog 19 #[.agg q] F λv F=>∃m,∃d,v=(.tuple #[Sl.v m,(vi d)])/\Bc (d=0) (Lr F 2 (Am p 0) λn=>Lr F 2 (Am p 0) λo=>n.size=2/\o.size=2/\Nb F (.cells (wr (wr zL 0 n.toList) 2 o.toList) 31) λA F=>Cbo 18 #[Sl.v m,Sl.v (Sb A 2)] F λr F=>Bb (r) (Lr F 9 (Am u 0) λs=>Ci 23 #[.agg s] F λt F=>rU e p B u b (decide (t=60)) R F) (rU e p B u b false R F)) (rU e p B u b false R F)
def Rj (R:VR) (F:PH):Prop:=Ca 34 #[.bool true] F λS F=>Nb F (.cells zD 31) λp F=>az F (Am p 0) 2 S λF=>Ca 44 #[(vi 0)] F λT F=>Nb F (.cells zD 31) λd F=>az F (Am d 0) 2 T λF=>Ca 44 #[(vi 1)] F λU F=>Nb F (.cells zD 31) λq F=>az F (Am q 0) 2 U λF=>Lr F 2 (Am d 0) λV=>Lr F 2 (Am q 0) λW=>Ca 45 #[.agg V,.agg W] F λX F=>Nb F (.cells zD 31) λb4 F=>az F (Am b4 0) 2 X λF=>Ca 34 #[.bool false] F λY F=>Nb F (.cells zD 31) λD F=>az F (Am D 0) 2 Y λF=>Nb F (.cells #[.string ⟨#[83]⟩,.string ⟨#[84]⟩] 9) λak F=>Ca 46 #[Sl.v (Sb ak 2)] F λZ F=>Nb F (.cells zG 37) λk F=>az F (Am k 0) 9 Z λF=>Lr F 2 (Am p 0) λl=>Lr F 2 (Am d 0) λe=>Lr F 2 (Am q 0) λa=>Ca 48 #[(vi 0)] F λr F=>F.row (Am q 0) a/\F.row (Am d 0) e/\F.row (Am p 0) l/\Ca 49 #[(vi 1)] F λs F=>F.row (Am q 0) a/\F.row (Am d 0) e/\F.row (Am p 0) l/\r.size=2/\s.size=2/\Nb F (.cells (wr (wr (#[.bool false,vi 0,.bool false,vi 0]:Γ) 0 r.toList) 2 s.toList) 63) λal F=>Ca 47 #[.string ⟨#[115]⟩,(vi 0),.agg l,Sl.v (Sb al 2)] F λt F=>F.row (Am q 0) a/\F.row (Am d 0) e/\Ca 47 #[.string ⟨#[116]⟩,(vi 1),.agg e,Sl.v Sl.nil] F λu F=>F.row (Am q 0) a/\Ca 48 #[(vi 1)] F λw F=>F.row (Am q 0) a/\Ca 49 #[(vi 1)] F λx F=>F.row (Am q 0) a/\w.size=2/\x.size=2/\Nb F (.cells (wr (wr (#[.bool false,vi 0,.bool false,vi 0]:Γ) 0 w.toList) 2 x.toList) 63) λam F=>Ca 47 #[.string ⟨#[117]⟩,(vi 1),.agg a,Sl.v (Sb am 2)] F λy F=>t.size=13/\u.size=13/\y.size=13/\Nb F (.cells (wr (wr (wr (#[.string ⟨#[]⟩,vi 0,.slice none 0 0,.slice none 0 0,vi 0,.bool false,vi 0,.slice none 0 0,.bool false,vi 0,vi 0,vi 0,vi 0,.string ⟨#[]⟩,vi 0,.slice none 0 0,.slice none 0 0,vi 0,.bool false,vi 0,.slice none 0 0,.bool false,vi 0,vi 0,vi 0,vi 0,.string ⟨#[]⟩,vi 0,.slice none 0 0,.slice none 0 0,vi 0,.bool false,vi 0,.slice none 0 0,.bool false,vi 0,vi 0,vi 0,vi 0]:Γ) 0 t.toList) 13 u.toList) 26 y.toList) 55) λan F=>sto F (Am k 5) (Sl.v (Sb an 3)) λF=>Lr F 9 (Am k 0) λaa=>aj prog 14 #[.agg aa] F λv F=>∃z,∃f,v=(.tuple #[Sl.v z,(vi f)])/\Lr F 9 (Am k 0) λab=>aj prog 16 #[.agg ab] F λv F=>∃A,∃g,v=(.tuple #[Sl.v A,(vi g)])/\Lr F 9 (Am k 0) λac=>aj prog 25 #[.agg ac] F λv F=>∃h,∃i,v=(.tuple #[Sl.v h,(vi i)])/\Lr F 9 (Am k 0) λad=>aj prog 21 #[.agg ad] F λv F=>∃m,∃j,v=(.tuple #[Sl.v m,(vi j)])/\Bc (f≠0) (R (.bool false) F) (Bc (g≠0) (R (.bool false) F) (Bc (i≠0) (R (.bool false) F) (Bc (j≠0) (R (.bool false) F) (Bc ((h.len:Int)≠2) (R (.bool false) F) (Ix h 1 λae=>Ls F (Addr.add ae (Int.toNat 1*1)) λaf=>Ls F (Am k 3) λag=>Bc ((af.len:Int)≠(ag.len:Int)) (R (.bool false) F) (Bc ((m.len:Int)≠3) (R (.bool false) F) (Lr F 2 (Am D 0) λB=>Lr F 2 (Am d 0) λC=>B.size=2/\C.size=2/\Nb F (.cells (wr (wr zL 0 B.toList) 2 C.toList) 31) λao F=>Cbo 18 #[Sl.v z,Sl.v (Sb ao 2)] F λE F=>Bb (E) (Lr F 2 (Am d 0) λn=>Lr F 2 (Am d 0) λo=>n.size=2/\o.size=2/\Nb F (.cells (wr (wr zL 0 n.toList) 2 o.toList) 31) λah F=>Cbo 18 #[Sl.v A,Sl.v (Sb ah 2)] F λG F=>Bb (G) (Ix h 1 λb=>Ls F (Addr.add b (Int.toNat 1*1)) λc=>Ix c 1 λH=>Lr F 2 (Addr.add H (Int.toNat 1*2)) λI=>Lr F 2 (Am b4 0) λJ=>Cbo 50 #[.agg I,.agg J] F λK F=>F.cell (Addr.add b (Int.toNat 1*1))=some (Sl.v c)/\Bb (K) (Ix m 2 λL=>Lr F 2 (Addr.add L (Int.toNat 2*2)) λM=>Lr F 2 (Am b4 0) λN=>Cbo 50 #[.agg M,.agg N] F λO F=>F.cell (Addr.add b (Int.toNat 1*1))=some (Sl.v c)/\Bb (O) (Lr F 9 (Am k 0) λP=>Ci 23 #[.agg P] F λQ F=>F.cell (Addr.add b (Int.toNat 1*1))=some (Sl.v c)/\kI p d D k (decide (Q=0)) R F) (kI p d D k false R F)) (kI p d D k false R F)) (kI p d D k false R F)) (kI p d D k false R F))))))))
theorem TH (h:Rj R F):aj prog 12 #[] F R:=Rx.sxC (args:=[]) (.T .N (.T .N (.T .N (.T .N (.T .N (.T .N (.T .N (.T .N (.T .N (.T .N (.T .N (.T .N (.T .N (.J false [(15,.bool)] .N (.T .N (.T .N (.J false [(18,.bool)] .N .N))))))))))))))))) (by kernel_rfl) h
def Rk (d:Int) (R:VR) (F:PH):Prop:=Nb F (.cells zD 31) λe F=>aj prog 109 #[(vi d)] F λv F=>∃b,∃a,v=(.tuple #[.agg b,(vi a)])/\Nb F (.cells zD 31) λf F=>az F (Am f 0) 2 b λF=>Lr F 2 (Am f 0) λc=>az F (Am e 0) 2 c λF=>Rr 2 (Am e 0) R F
theorem TJ {a:Int} (h:Rk a R F):aj prog 44 #[(vi a)] F R:=Rx.sxC (args:=[(vi a)]) .N (by kernel_rfl) h
def Rl (b:ByteArray) (c:Int) (e:Γ) (a:Sl) (R:VR) (F:PH):Prop:=Nb F (.cells e 31) λg F=>Nb F (.cells zP 55) λf F=>Lr F 2 (Am g 0) λd=>d.size=2/\az F (Am f 0) 13 (wr (Array.setIfInBounds (Array.setIfInBounds (Array.setIfInBounds zP 0 (.string b)) 1 (vi c)) 2 (Sl.v a)) 3 d.toList) λF=>Rr 13 (Am f 0) R F
theorem TK {b:ByteArray} {c:Int} {d:Γ} {a:Sl} (h:Rl b c d a R F):aj prog 47 #[.string b,(vi c),.agg d,Sl.v a] F R:=Rx.sxC (args:=[.string b,(vi c),.agg d,Sl.v a]) .N (by kernel_rfl) h
end Go.Proofs.YtcemhghkipgdiaaGreatDoor
