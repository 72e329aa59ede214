/-
  Small functions of the laws: productions, conditions, lists of sets that are compared; literals of lists.
-/
import Derived.Test.YtcemhghkipgdiaaGreatDoorAt
import Derived.Test.YtcemhghkipgdiaaGreatDoorAm
import Derived.Test.YtcemhghkipgdiaaGreatDoorAc
import Derived.Test.YtcemhghkipgdiaaGreatDoorPhp
import Derived.Test.YtcemhghkipgdiaaGreatDoorGdiagram
import Derived.Test.YtcemhghkipgdiaaGreatDoorCc
namespace Go.Proofs.YtcemhghkipgdiaaGreatDoor
open Go.IntKind (i64 u8 u64)
open Go Go.Proofs.Tryz Tr
set_option maxRecDepth 10000
def mkC (nm:ByteArray) (left:Int) (right:List Sy) (d:Dia):Pr:=⟨nm,left,right,d,false,0,[],⟨false,0,0,0,0⟩⟩
def nST:List ByteArray:=[⟨#[83]⟩,⟨#[84]⟩]
def sgG (l:List Pr):Gr:={cI nST with prods:=l}
def sp1:List Pr:=[mkC ⟨#[115]⟩ 0 [⟨true,0⟩,⟨false,1⟩] aP,mkC ⟨#[116]⟩ 1 [] (dia (tv 0)),mkC ⟨#[117]⟩ 1 [⟨true,1⟩,⟨false,1⟩] (dia (tv 1))]
def sp2:List Pr:=[mkC ⟨#[115]⟩ 0 [⟨false,1⟩] aP,mkC ⟨#[116]⟩ 1 [⟨false,0⟩] (dia (tv 0)),mkC ⟨#[117]⟩ 1 [⟨true,0⟩] aP]
def sp3:List Pr:=[mkC ⟨#[115]⟩ 0 [⟨false,1⟩,⟨false,0⟩,⟨false,1⟩] (dia (tv 0)),mkC ⟨#[116]⟩ 0 [⟨true,0⟩] aP,mkC ⟨#[117]⟩ 1 [] aP]
theorem nN {α:Type} {a b d x:α} {i:Nat} (h:[a,b,d][i]? =some x):(i=0/\x=a)\/(i=1/\x=b)\/(i=2/\x=d):=by
 match i,h with
 |0,h=>cases h;exact .inl ⟨rfl,rfl⟩
 |1,h=>cases h;exact .inr (.inl ⟨rfl,rfl⟩)
 |2,h=>cases h;exact .inr (.inr ⟨rfl,rfl⟩)
 |i+3,h=>simp at h
theorem Gy {l:List Pr} (h3:(l.map Pr.name).Nodup) (h4:∀s∈l.map Pr.name,Dv s) (h5:∀p∈l,PrI 2 2 p):MG (sgG l):=
 nW (n:=2) (by decide) rfl rfl rfl rfl (by show bE nST;unfold bE;decide) (by show ∀s∈nST,s.size<=10;decide) h3 h4 h5 ⟨trivial,λ_ h=>(by cases h)⟩ λ_ h=>by cases h
theorem LC {l:List Pr} (h0:l.length≠0) (h1:l.length<=3):Bd (sgG l) 3 0:=
 ⟨by show 2<=3;decide,by show (2:Nat)≠0;decide,by show 2<=3;decide,h0,h1,rfl,by show 0<=0;decide,λ_ h=>(by cases h),by show 0<=0;decide⟩
theorem z7:MG (sgG sp1):=Gy (by decide) (by decide) λp hp=>by
 obtain ⟨i,hi⟩:=List.getElem?_of_mem hp;rcases nN hi with ⟨_,rfl⟩|⟨_,rfl⟩|⟨_,rfl⟩
 ·exact ba (by decide) (aW _)
 ·exact ba (by decide) (dZ (by decide) (by decide))
 ·exact ba (by decide) (dZ (by decide) (by decide))
theorem z8:MG (sgG sp2):=Gy (by decide) (by decide) λp hp=>by
 obtain ⟨i,hi⟩:=List.getElem?_of_mem hp;rcases nN hi with ⟨_,rfl⟩|⟨_,rfl⟩|⟨_,rfl⟩
 ·exact ba (by decide) (aW _)
 ·exact ba (by decide) (dZ (by decide) (by decide))
 ·exact ba (by decide) (aW _)
theorem z9:MG (sgG sp3):=Gy (by decide) (by decide) λp hp=>by
 obtain ⟨i,hi⟩:=List.getElem?_of_mem hp;rcases nN hi with ⟨_,rfl⟩|⟨_,rfl⟩|⟨_,rfl⟩
 ·exact ba (by decide) (dZ (by decide) (by decide))
 ·exact ba (by decide) (aW _)
 ·exact ba (by decide) (aW _)
theorem Gz {l:List Pr} (h:MG (sgG l)) (h0:l.length≠0) (h1:l.length<=3):OkK (sgG l) 2:=⟨h.ok (LC h0 h1) (by decide) (by decide),rfl,by decide⟩
theorem Dl:∀t∈dL,t.cond=aP:=by intro t ht;have e:dL.map qh=dL:=rfl;rw [<- e] at ht;obtain ⟨u,_,rfl⟩:=U8.1 ht;rfl
theorem mQ {l:List Pr} (h:OkK (sgG l) 2) {i:Nat} {x:Pr} {t:Tr} (hx:l[i]? =some x) (hc:x.cond=dia t) (ht:t.ok) (c:Cf):(aK (sgG l) i).ev c=t.ev c:=by
 have hx':(sgG l).prods[i]? =some x:=hx;have hm:=UY hx';have e1:tre (sgG l).fam=leaf true:=dJ (t:=leaf true) trivial;rw [h.prs_ev hx',e1,hc,dJ ht];have:(x.right.all λs=> !s.t || (ja (sgG l) s.i).ev c)=true:=by
  rw [Vv];intro s hs;cases hst:s.t with
  |false=>rfl
  |true=>
   obtain ⟨u,hu,_⟩:=((h.prod hm).2.2.2 s hs).2.2 hst;have hu':dL[s.i.toNat]? =some u:=hu;have e2:=Dl u (UY hu');have e3:ja (sgG l) s.i=leaf true:=by unfold ja;rw [hu];dsimp only;rw [e2];exact dJ (t:=leaf true) trivial
   rw [e3];rfl
 rw [this];show (true && t.ev c && true)=_;simp
theorem iV (v:Nat) (c:Cf):(tv v).ev c=c v:=by show (if c v=true then true else false)=c v;cases c v<;>rfl
structure Sg (l:List Pr) (f:Nat->Tr):Prop where
 mg:MG (sgG l)
 ok:OkK (sgG l) 2
 ev:∀i x,l[i]? =some x->∀c,(aK (sgG l) i).ev c=(f i).ev c
def sf1 (i:Nat):Tr:=if i=0 then leaf true else if i=1 then tv 0 else tv 1
def sf2 (i:Nat):Tr:=if i=1 then tv 0 else leaf true
def sf3 (i:Nat):Tr:=if i=0 then tv 0 else leaf true
theorem sg1:Sg sp1 sf1:=by
 have h:=Gz z7 (by decide) (by decide);refine ⟨z7,h,λi x hi c=> ?_⟩;rcases nN hi with ⟨rfl,rfl⟩|⟨rfl,rfl⟩|⟨rfl,rfl⟩
 ·exact mQ h hi (t:=leaf true) rfl trivial c
 ·exact mQ h hi (t:=tv 0) rfl (rn (by decide)) c
 ·exact mQ h hi (t:=tv 1) rfl (rn (by decide)) c
theorem sg2:Sg sp2 sf2:=by
 have h:=Gz z8 (by decide) (by decide);refine ⟨z8,h,λi x hi c=> ?_⟩;rcases nN hi with ⟨rfl,rfl⟩|⟨rfl,rfl⟩|⟨rfl,rfl⟩
 ·exact mQ h hi (t:=leaf true) rfl trivial c
 ·exact mQ h hi (t:=tv 0) rfl (rn (by decide)) c
 ·exact mQ h hi (t:=leaf true) rfl trivial c
theorem sg3:Sg sp3 sf3:=by
 have h:=Gz z9 (by decide) (by decide);refine ⟨z9,h,λi x hi c=> ?_⟩;rcases nN hi with ⟨rfl,rfl⟩|⟨rfl,rfl⟩|⟨rfl,rfl⟩
 ·exact mQ h hi (t:=tv 0) rfl (rn (by decide)) c
 ·exact mQ h hi (t:=leaf true) rfl trivial c
 ·exact mQ h hi (t:=leaf true) rfl trivial c
section
variable {c:Cf} {st:Bool}
theorem RC:(aK (sgG sp1) 0).ev c=true:=sg1.ev 0 _ rfl c
theorem RI:(aK (sgG sp1) 1).ev c=c 0:=(sg1.ev 1 _ rfl c).trans (iV 0 c)
theorem IZ:(aK (sgG sp1) 2).ev c=c 1:=(sg1.ev 2 _ rfl c).trans (iV 1 c)
theorem rZ {n:Int} (d:Der sp1 (aK (sgG sp1)) st c n):c 0=true:=by
 induction d with
 |mk i x hi hp ht hd ih=>
  rcases nN hi with ⟨rfl,rfl⟩|⟨rfl,rfl⟩|⟨rfl,rfl⟩
  ·exact ih ⟨false,1⟩ (by decide) rfl
  ·rw [RI] at hp;exact hp
  ·exact ih ⟨false,1⟩ (by decide) rfl
theorem jY (h:c 0=true):Der sp1 (aK (sgG sp1)) true c 1:=.mk 1 (mkC ⟨#[116]⟩ 1 [] (dia (tv 0))) rfl (by rw [RI];exact h) (λ_ h=>(by cases h)) λ_ h=>by cases h
theorem I0 (h:c 0=true):Der sp1 (aK (sgG sp1)) false c 0:=.mk 0 (mkC ⟨#[115]⟩ 0 [⟨true,0⟩,⟨false,1⟩] aP) rfl RC (λ_ _ _=>rfl) λs hs ht=>by
 rcases UT.1 hs with rfl|hs
 ·cases ht
 ·rw [UU.1 hs];exact (jY h).up
theorem Ja:¬Der sp1 (aK (sgG sp1)) true c 0:=by
 rw [Der.inv];rintro ⟨i,x,hi,hl,hp,ht,hd⟩;rcases nN hi with ⟨rfl,rfl⟩|⟨rfl,rfl⟩|⟨rfl,rfl⟩
 ·exact absurd (ht ⟨true,0⟩ (by decide) rfl) (by decide)
 ·exact absurd hl (by decide)
 ·exact absurd hl (by decide)
theorem Nk:Fst sp1 (aK (sgG sp1)) c 1 1↔c 0=true/\c 1=true:=by
 constructor
 ·intro f;refine ⟨rZ f.der,?_⟩;obtain ⟨i,x,hi,hl,hp,hr⟩:=f.pres;rcases nN hi with ⟨rfl,rfl⟩|⟨rfl,rfl⟩|⟨rfl,rfl⟩
  ·exact absurd hl (by decide)
  ·exact absurd rfl hr
  ·rw [IZ] at hp;exact hp
 ·rintro ⟨h0,h1⟩;refine .tok 2 0 (mkC ⟨#[117]⟩ 1 [⟨true,1⟩,⟨false,1⟩] (dia (tv 1))) ⟨true,1⟩ rfl (by rw [IZ];exact h1) (λy hy hyt=> ?_) rfl (λm y hm=>by omega) rfl;rcases UT.1 hy with rfl|hy
  ·cases hyt
  ·rw [UU.1 hy];exact (jY h0).up
theorem Nl:Use sp1 (aK (sgG sp1)) (leaf true) 0 c 2↔c 0=true/\c 1=true:=by
 constructor
 ·rintro ⟨x,hi,hp,_,hd⟩;cases hi;rw [IZ] at hp;exact ⟨rZ (hd ⟨false,1⟩ (by decide) rfl),hp⟩
 ·rintro ⟨h0,h1⟩;have hd:∀y∈([⟨true,0⟩,⟨false,1⟩]:List Sy),y.t=false->Der sp1 (aK (sgG sp1)) false c y.i:=λy hy hyt=>by
   rcases UT.1 hy with rfl|hy
   ·cases hyt
   ·rw [UU.1 hy];exact (jY h0).up
  refine ⟨_,rfl,by rw [IZ];exact h1,?_,λy hy hyt=> ?_⟩
  ·exact .step 0 (mkC ⟨#[115]⟩ 0 [⟨true,0⟩,⟨false,1⟩] aP) ⟨false,1⟩ rfl RC (.start rfl) hd (by decide) rfl
  ·rcases UT.1 hy with rfl|hy
   ·cases hyt
   ·rw [UU.1 hy];exact (jY h0).up
theorem Nm {a b:Int}:¬Stp sp1 (aK (sgG sp1)) c a b:=by
 rintro ⟨i,j,x,s,hi,hj,hs,_,_,_,ho⟩;rcases nN hi with ⟨rfl,rfl⟩|⟨rfl,rfl⟩|⟨rfl,rfl⟩
 ·match j,hj with
  |0,hj=>cases hj;cases hs
  |j+1,_=>exact absurd (ho 0 ⟨true,0⟩ (by omega) rfl).1 (by decide)
 ·simp [mkC] at hj
 ·match j,hj with
  |0,hj=>cases hj;cases hs
  |j+1,_=>exact absurd (ho 0 ⟨true,1⟩ (by omega) rfl).1 (by decide)
theorem RJ:(aK (sgG sp2) 1).ev c=c 0:=(sg2.ev 1 _ rfl c).trans (iV 0 c)
theorem Uf:(aK (sgG sp2) 0).ev c=true:=sg2.ev 0 _ rfl c
theorem ug {r:Sy} {m:Nat} {y:Sy} {p:Prop} (hm:m≠0) (hy:[r][m]? =some y):p:=by
 match m,hm,hy with
 |0,hm,_=>exact absurd rfl hm
 |m+1,_,hy=>simp at hy
theorem Aa {a b:Int} (h:Stp sp2 (aK (sgG sp2)) c a b):(a=0/\b=1)\/(a=1/\b=0/\c 0=true):=by
 obtain ⟨i,j,x,s,hi,hj,hs,ha,hb,hp,ho⟩:=h;rcases nN hi with ⟨rfl,rfl⟩|⟨rfl,rfl⟩|⟨rfl,rfl⟩
 ·match j,hj with
  |0,hj=>cases hj;exact .inl ⟨ha.symm,hb.symm⟩
  |j+1,hj=>simp [mkC] at hj
 ·match j,hj with
  |0,hj=>cases hj;rw [RJ] at hp;exact .inr ⟨ha.symm,hb.symm,hp⟩
  |j+1,hj=>simp [mkC] at hj
 ·match j,hj with
  |0,hj=>cases hj;cases hs
  |j+1,hj=>simp [mkC] at hj
theorem GA:Stp sp2 (aK (sgG sp2)) c 0 1:=⟨0,0,_,⟨false,1⟩,rfl,rfl,rfl,rfl,rfl,Uf,λ_ _ hm hy=>ug hm hy⟩
theorem B3 (h:c 0=true):Stp sp2 (aK (sgG sp2)) c 1 0:=⟨1,0,_,⟨false,0⟩,rfl,rfl,rfl,rfl,rfl,by rw [RJ];exact h,λ_ _ hm hy=>ug hm hy⟩
theorem Ab {n:Int} (hn:n=0\/n=1):Tg (Stp sp2 (aK (sgG sp2)) c) n n↔c 0=true:=by
 constructor
 ·intro h;rcases hn with rfl|rfl
  ·generalize hb:(0:Int)=b at h;cases h with
   |one h=>
    subst hb;rcases Aa h with ⟨_,h⟩|⟨_,_,h⟩
    ·exact absurd h (by decide)
    ·exact h
   |snoc _ h=>
    subst hb;rcases Aa h with ⟨_,h⟩|⟨_,_,h⟩
    ·exact absurd h (by decide)
    ·exact h
  ·obtain ⟨d,h⟩:=h.head;rcases Aa h with ⟨h,_⟩|⟨_,_,h⟩
   ·exact absurd h (by decide)
   ·exact h
 ·intro h;rcases hn with rfl|rfl
  ·exact .snoc (.one GA) (B3 h)
  ·exact .snoc (.one (B3 h)) GA
theorem RM:(aK (sgG sp3) 0).ev c=c 0:=(sg3.ev 0 _ rfl c).trans (iV 0 c)
theorem Ug:(aK (sgG sp3) 2).ev c=true:=sg3.ev 2 _ rfl c
theorem GB {n:Int} (d:Der sp3 (aK (sgG sp3)) true c n):n≠0:=by
 induction d with
 |mk i x hi hp ht hd ih=>
  rcases nN hi with ⟨rfl,rfl⟩|⟨rfl,rfl⟩|⟨rfl,rfl⟩
  ·exact absurd rfl (ih ⟨false,0⟩ (by decide) rfl)
  ·exact absurd (ht ⟨true,0⟩ (by decide) rfl) (by decide)
  ·decide
theorem GC:Der sp3 (aK (sgG sp3)) true c 1:=.mk 2 (mkC ⟨#[117]⟩ 1 [] aP) rfl Ug (λ_ h=>(by cases h)) λ_ h=>by cases h
theorem GD {a b:Int} (h:Stp sp3 (aK (sgG sp3)) c a b):a=0/\b=0/\c 0=true:=by
 obtain ⟨i,j,x,s,hi,hj,hs,ha,hb,hp,ho⟩:=h;rcases nN hi with ⟨rfl,rfl⟩|⟨rfl,rfl⟩|⟨rfl,rfl⟩
 ·match j,hj with
  |0,hj=>exact absurd rfl (GB (ho 1 ⟨false,0⟩ (by decide) rfl).2)
  |1,hj=>cases hj;rw [RM] at hp;exact ⟨ha.symm,hb.symm,hp⟩
  |j+2,hj=>exact absurd rfl (GB (ho 1 ⟨false,0⟩ (by omega) rfl).2)
 ·match j,hj with
  |0,hj=>cases hj;cases hs
  |j+1,hj=>simp [mkC] at hj
 ·simp [mkC] at hj
theorem Jb:Tg (Stp sp3 (aK (sgG sp3)) c) 0 0↔c 0=true:=by
 constructor
 ·intro h;obtain ⟨d,h⟩:=h.head;exact (GD h).2.2
 ·intro h;refine .one ⟨0,1,_,⟨false,0⟩,rfl,rfl,rfl,rfl,rfl,by rw [RM];exact h,λm y hm hy=> ?_⟩
  match m,hm,hy with
  |0,_,hy=>cases hy;exact ⟨rfl,GC⟩
  |1,hm,_=>exact absurd rfl hm
  |2,_,hy=>cases hy;exact ⟨rfl,GC⟩
  |m+3,_,hy=>simp [mkC] at hy
theorem Jc:¬Tg (Stp sp3 (aK (sgG sp3)) c) 1 1:=λh=>by obtain ⟨d,h⟩:=h.head;exact absurd (GD h).1 (by decide)
end
theorem iI {k:Nat} {t u:Tr} (ht:Sx k t) (hu:u.ok) (h:∀c,t.ev c=true↔u.ev c=true):t=u:=
 eL ht.1 hu λc=>U3.2 (h c)
theorem ui {k:Nat} {t:Tr} (ht:Sx k t) (h:∀c,t.ev c≠true):t=leaf false:=iI ht trivial λc=>⟨λh'=>absurd h' (h c),λh'=>by cases h'⟩
noncomputable abbrev r5:Tr:=ap2 bj (tv 0) (tv 1)
theorem pU:Sx 2 r5:=(Sx.tv (by decide) (by decide)).ap2 (o:=bj) (Sx.tv (by decide) (by decide))
theorem B4 (c:Cf):r5.ev c=true↔c 0=true/\c 1=true:=by rw [(bA (rn (by decide)) (rn (by decide))).2,iV,iV];exact Vj
variable {R:VR} {F:PH}
set_option maxRecDepth 10000
set_option maxHeartbeats 4000000
def wa (b c:Nat) (R:VR) (F:PH):Prop:=Lr F 9 (Am c 0) λa=>au F (Am b 0) 9 a λF=>Rr 9 (Am b 0) R F
def wb (c:Ω) (a:Sl) (d e:Nat) (b:Int) (R:VR) (F:PH):Prop:=c (i64.wrap (b+1)) F
def wc (u:Ω) (a:Sl) (v f:Nat) (d:Int) (w:Θ) (R:VR) (F:PH):Prop:=Ix a d λo=>Lk F .u8 (Addr.add (Addr.add o (Int.toNat d*4)) 2) λp=>Ls F (Am f 0) λk=>Ca 33 #[.int .u8 p,(vi (k.len:Int))] F λq F=>F.cell (Am f 0)=some (Sl.v k)/\∃c,w=some c/\au F (Addr.add c 3) 2 q λF=>Ls F (Am f 5) λe=>Lr F 13 c λb=>((Nb F (.cells #[] 55) λr F=>((Ap 33 #[Sl.v (Sb r 0),Sl.v e] F λs F=>F.row c b/\b.size=13/\Nb F (.cells b 55) λx F=>Ap 33 #[Sl.v s,Sl.v (Sb x 1)] F λt F=>sto F (Am f 5) (Sl.v t) λF=>wb u a v f d R F)/\(b.size=13/\Nb F (.cells b 55) λl F=>Ap 33 #[Sl.v (Sb r 0),Sl.v e] F λg F=>Ap 33 #[Sl.v g,Sl.v (Sb l 1)] F λh F=>sto F (Am f 5) (Sl.v h) λF=>wb u a v f d R F)))/\(b.size=13/\Nb F (.cells b 55) λm F=>Nb F (.cells #[] 55) λn F=>Ap 33 #[Sl.v (Sb n 0),Sl.v e] F λi F=>Ap 33 #[Sl.v i,Sl.v (Sb m 1)] F λj F=>sto F (Am f 5) (Sl.v j) λF=>wb u a v f d R F))
def we (m k:Ω) (e:Sl) (n o:Nat) (l:Int) (f:Θ) (j:Sl) (g:Int) (h:Nat) (R:VR) (F:PH):Prop:=∃a,f=some a/\Ls F (Addr.add a 2) λc=>Lr F 2 (Am h 0) λb=>b.size=2/\Nb F (.cells b 63) λi F=>Ap 50 #[Sl.v c,Sl.v (Sb i 1)] F λd F=>sto F (Addr.add a 2) (Sl.v d) λF=>k (i64.wrap (g+1)) F
def Ac (o q:Ω) (a:Sl) (p h:Nat) (d:Int) (e:Θ) (c:Sl) (R:VR) (b:Int) (F:PH):Prop:=Bc (b<(c.len:Int)) (Bc (b<3) (Ix c b λi=>Lk F .u8 (Addr.add i (Int.toNat b*1)) λj=>Ls F (Am h 4) λg=>(g.len:Int)≠0/\Nb F (.cells (#[.bool false,vi 0]) 63) λf F=>au F (Am f 0) 2 (#[.bool false,(vi (Int.tmod (i64.wrap j) (g.len:Int)))]:Γ) λF=>Ix c b λk=>Lk F .u8 (Addr.add k (Int.toNat b*1)) λl=>Bc (200<l) (Ix c b λm=>Lk F .u8 (Addr.add m (Int.toNat b*1)) λn=>au F (Am f 0) 2 (#[.bool true,(vi (Int.tmod (i64.wrap n) 9))]:Γ) λF=>we o q a p h d e c b f R F) (we o q a p h d e c b f R F)) (wc o a p h d e R F)) (wc o a p h d e R F)
def wg (i:Ω) (a:Sl) (j k:Nat) (b:Int) (g:Θ) (R:VR) (F:PH):Prop:=Ix a b λc=>Ls F (Addr.add (Addr.add c (Int.toNat b*4)) 1) λd=>(∃(h:Nat->Ω) (f:Nat),h f 0 F/\∀f e F,h f e F-> Ac i (nx1 h f) a j k b g d R e F)
def Ad (m:Ω) (a:Sl) (k i:Nat) (R:VR) (c:Int) (F:PH):Prop:=Bc (c<(a.len:Int)) (Bc (c<4) (Ix a c λj=>Lk F .u8 (Addr.add j (Int.toNat c*4)) λf=>Ls F (Am i 4) λd=>(d.len:Int)≠0/\((Nb F (.cells #[.int .u8 (u8.wrap (i64.wrap (97+c)))] 5) λl F=>∃e,rdo prog (Conv.bytesToString (Sl.v (Sb l 1))) F (.string e)/\(ByteArray.mk #[113]).size+e.size<=9223372036854775807/\Nb F (.cells zP 55) λn F=>au F (Am n 0) 13 (#[.string ((ByteArray.mk #[113])++e),(vi (Int.tmod (i64.wrap f) (d.len:Int))),.slice none 0 0,.slice none 0 0,vi 0,.bool false,vi 0,.slice none 0 0,.bool false,vi 0,vi 0,vi 0,vi 0]:Γ) λF=>wg m a k i c (some (Am n 0)) R F)/\(Nb F (.cells zP 55) λg F=>Nb F (.cells #[.int .u8 (u8.wrap (i64.wrap (97+c)))] 5) λh F=>∃b,rdo prog (Conv.bytesToString (Sl.v (Sb h 1))) F (.string b)/\(ByteArray.mk #[113]).size+b.size<=9223372036854775807/\au F (Am g 0) 13 (#[.string ((ByteArray.mk #[113])++b),(vi (Int.tmod (i64.wrap f) (d.len:Int))),.slice none 0 0,.slice none 0 0,vi 0,.bool false,vi 0,.slice none 0 0,.bool false,vi 0,vi 0,vi 0,vi 0]:Γ) λF=>wg m a k i c (some (Am g 0)) R F))) (wa k i R F)) (wa k i R F)
def RN (d:Γ) (a:Sl) (R:VR) (F:PH):Prop:=Nb F (.cells d 26) λg F=>Nb F (.cells zG 37) λh F=>Lr F 5 (Am g 0) λb=>Ca 32 #[.agg b] F λc F=>Nb F (.cells zG 37) λf F=>au F (Am f 0) 9 c λF=>Lp 0 F λN e F=>Ad N a h f R e F
theorem Uh {b:Γ} {a:Sl} (h:RN b a R F):ai prog 13 #[.agg b,Sl.v a] F R:=Rx.sxC (args:=[.agg b,Sl.v a]) (.T .N (.T .N (.J false [] (.T .N (.L [(6,.int .i64)] (.T .N (.J false [] (.J false [(7,.ptr)] .N (.T .N (.J false [] (.T .N (.L [(9,.int .i64)] (.T .N (.T (.T .N (.J false [] .N .N)) .N)))) .N))) .N)))) .N))) (by kernel_rfl) h
def GE (R:VR) (F:PH):Prop:=R (.bool true) F
def Ae (i:Ω) (b h:Sl) (R:VR) (a:Int) (F:PH):Prop:=Bc (a<(b.len:Int)) (Ix b a λc=>Lr F 2 (Addr.add c (Int.toNat a*2)) λd=>Ix h a λe=>Lr F 2 (Addr.add e (Int.toNat a*2)) λf=>Cbo 50 #[.agg d,.agg f] F λg F=>Bb ((!g)) (R (.bool false) F) (i (i64.wrap (a+1)) F)) (GE R F)
def RO (a b:Sl) (R:VR) (F:PH):Prop:=Bc ((a.len:Int)≠(b.len:Int)) (R (.bool false) F) (Lp 0 F λN c F=>Ae N a b R c F)
theorem Ui {a:Sl} {b:Sl} (h:RO a b R F):ai prog 18 #[Sl.v a,Sl.v b] F R:=Rx.sxC (args:=[Sl.v a,Sl.v b]) (.T .N (.T .N (.J false [] (.T .N (.L [(5,.int .i64)] .N)) .N))) (by kernel_rfl) h
variable {R:VR} {F:PH}
set_option maxRecDepth 10000
set_option maxHeartbeats 4000000
def GF (a:Bool) (R:VR) (F:PH):Prop:=R (.bool a) F
def wh (l:Ω) (k:Bool) (m:Nat) (d:Sl) (b:Int) (c:Θ) (e:Int) (R:VR) (F:PH):Prop:=Bc (e≠0) (R (.bool false) F) (Lr F 9 (Am m 0) λf=>∃a,c=some a/\Lr F 9 a λg=>Ix d b λh=>Lk F .u64 (Addr.add h (Int.toNat b*1)) λi=>Cbo 43 #[.agg f,.agg g,.int .u64 i] F λj F=>Bb ((!j)) (R (.bool false) F) (l (i64.wrap (b+1)) F))
def Af (n:Ω) (e:Bool) (m:Nat) (a:Sl) (R:VR) (f:Int) (F:PH):Prop:=Bc (f<(a.len:Int)) (Lr F 9 (Am m 0) λh=>Ix a f λk=>Lk F .u64 (Addr.add k (Int.toNat f*1)) λi=>((ai prog 42 #[.agg h,.int .u64 i] F λv F=>∃j,∃b,v=(.tuple #[.agg j,(vi b)])/\Nb F (.cells zG 37) λl F=>au F (Am l 0) 9 j λF=>wh n e m a f (some (Am l 0)) b R F)/\(Nb F (.cells zG 37) λg F=>ai prog 42 #[.agg h,.int .u64 i] F λv F=>∃c,∃d,v=(.tuple #[.agg c,(vi d)])/\au F (Am g 0) 9 c λF=>wh n e m a f (some (Am g 0)) d R F))) (GF e R F)
def RQ (h:Γ) (b:Sl) (R:VR) (F:PH):Prop:=Nb F (.cells h 26) λk F=>Cbo 12 #[] F λd F=>Lr F 5 (Am k 0) λe=>Ca 13 #[.agg e,Sl.v b] F λf F=>Nb F (.cells zG 37) λi F=>au F (Am i 0) 9 f λF=>Lr F 9 (Am i 0) λg=>ai prog 39 #[.agg g,(vi 16)] F λv F=>∃c,∃a,v=(.tuple #[Sl.v c,.bool a])/\Bb ((!a)) (R (.bool false) F) (Lp 0 F λN j F=>Af N d i c R j F)
theorem Uj {b:Γ} {a:Sl} (h:RQ b a R F):ai prog 11 #[.agg b,Sl.v a] F R:=Rx.sxC (args:=[.agg b,Sl.v a]) (.T .N (.T .N (.T .N (.T .N (.T .N (.J false [] (.T .N (.L [(9,.int .i64)] (.T .N (.T (.J false [(10,.ptr),(11,.int .i64)] .N .N) .N)))) .N)))))) (by kernel_rfl) h
def r7 (e t A z:Nat) (p q:Bool) (R:VR) (F:PH):Prop:=Lr F 2 (Am t 0) λc=>Lr F 2 (Am e 0) λb=>Lr F 2 (Am e 0) λa=>Ca 49 #[(vi 1)] F λf F=>F.row (Am e 0) a/\F.row (Am e 0) b/\F.row (Am t 0) c/\Ca 49 #[(vi 0)] F λg F=>F.row (Am e 0) a/\F.row (Am e 0) b/\F.row (Am t 0) c/\Ca 49 #[(vi 1)] F λh F=>F.row (Am e 0) a/\F.row (Am e 0) b/\F.row (Am t 0) c/\f.size=2/\g.size=2/\h.size=2/\Nb F (.cells (wr (wr (wr (#[.bool false,vi 0,.bool false,vi 0,.bool false,vi 0]:Γ) 0 f.toList) 2 g.toList) 4 h.toList) 63) λu F=>Ca 47 #[.string ⟨#[115]⟩,(vi 0),.agg c,Sl.v (Sb u 3)] F λi F=>F.row (Am e 0) a/\F.row (Am e 0) b/\Ca 48 #[(vi 0)] F λj F=>F.row (Am e 0) a/\F.row (Am e 0) b/\j.size=2/\Nb F (.cells j 63) λw F=>Ca 47 #[.string ⟨#[116]⟩,(vi 0),.agg b,Sl.v (Sb w 1)] F λk F=>F.row (Am e 0) a/\Ca 47 #[.string ⟨#[117]⟩,(vi 1),.agg a,Sl.v Sl.nil] F λl F=>i.size=13/\k.size=13/\l.size=13/\Nb F (.cells (wr (wr (wr (#[.string ⟨#[]⟩,vi 0,.slice none 0 0,.slice none 0 0,vi 0,.bool false,vi 0,.slice none 0 0,.bool false,vi 0,vi 0,vi 0,vi 0,.string ⟨#[]⟩,vi 0,.slice none 0 0,.slice none 0 0,vi 0,.bool false,vi 0,.slice none 0 0,.bool false,vi 0,vi 0,vi 0,vi 0,.string ⟨#[]⟩,vi 0,.slice none 0 0,.slice none 0 0,vi 0,.bool false,vi 0,.slice none 0 0,.bool false,vi 0,vi 0,vi 0,vi 0]:Γ) 0 i.toList) 13 k.toList) 26 l.toList) 55) λx F=>sto F (Am z 5) (Sl.v (Sb x 3)) λF=>Lr F 9 (Am z 0) λr=>ai prog 19 #[.agg r] F λv F=>∃m,∃d,v=(.tuple #[Sl.v m,(vi d)])/\Bb (p) (Bb (q) (Bc (d=0) (Lr F 2 (Am t 0) λn=>Lr F 2 (Am A 0) λo=>n.size=2/\o.size=2/\Nb F (.cells (wr (wr zL 0 n.toList) 2 o.toList) 31) λy F=>Cbo 18 #[Sl.v m,Sl.v (Sb y 2)] F λs F=>R (.bool s) F) (R (.bool false) F)) (R (.bool false) F)) (R (.bool false) F)
def kS (e p B u:Nat) (b:Bool) (R:VR) (F:PH):Prop:=Lr F 2 (Am e 0) λf=>Lr F 2 (Am p 0) λc=>Lr F 2 (Am e 0) λa=>Ca 49 #[(vi 1)] F λg F=>F.row (Am e 0) a/\F.row (Am p 0) c/\F.row (Am e 0) f/\g.size=2/\Nb F (.cells g 63) λw F=>Ca 47 #[.string ⟨#[115]⟩,(vi 0),.agg f,Sl.v (Sb w 1)] F λh F=>F.row (Am e 0) a/\F.row (Am p 0) c/\Ca 49 #[(vi 0)] F λi F=>F.row (Am e 0) a/\F.row (Am p 0) c/\i.size=2/\Nb F (.cells i 63) λx F=>Ca 47 #[.string ⟨#[116]⟩,(vi 1),.agg c,Sl.v (Sb x 1)] F λj F=>F.row (Am e 0) a/\Ca 48 #[(vi 0)] F λk F=>F.row (Am e 0) a/\k.size=2/\Nb F (.cells k 63) λy F=>Ca 47 #[.string ⟨#[117]⟩,(vi 1),.agg a,Sl.v (Sb y 1)] F λl F=>h.size=13/\j.size=13/\l.size=13/\Nb F (.cells (wr (wr (wr (#[.string ⟨#[]⟩,vi 0,.slice none 0 0,.slice none 0 0,vi 0,.bool false,vi 0,.slice none 0 0,.bool false,vi 0,vi 0,vi 0,vi 0,.string ⟨#[]⟩,vi 0,.slice none 0 0,.slice none 0 0,vi 0,.bool false,vi 0,.slice none 0 0,.bool false,vi 0,vi 0,vi 0,vi 0,.string ⟨#[]⟩,vi 0,.slice none 0 0,.slice none 0 0,vi 0,.bool false,vi 0,.slice none 0 0,.bool false,vi 0,vi 0,vi 0,vi 0]:Γ) 0 h.toList) 13 j.toList) 26 l.toList) 55) λz F=>sto F (Am u 5) (Sl.v (Sb z 3)) λF=>Lr F 9 (Am u 0) λq=>ai prog 19 #[.agg q] F λv F=>∃m,∃d,v=(.tuple #[Sl.v m,(vi d)])/\Bc (d=0) (Lr F 2 (Am p 0) λn=>Lr F 2 (Am p 0) λo=>n.size=2/\o.size=2/\Nb F (.cells (wr (wr zL 0 n.toList) 2 o.toList) 31) λA F=>Cbo 18 #[Sl.v m,Sl.v (Sb A 2)] F λr F=>Bb (r) (Lr F 9 (Am u 0) λs=>Ci 23 #[.agg s] F λt F=>r7 e p B u b (decide (t=60)) R F) (r7 e p B u b false R F)) (r7 e p B u b false R F)
def RR (R:VR) (F:PH):Prop:=Ca 34 #[.bool true] F λS F=>Nb F (.cells zD 31) λp F=>au F (Am p 0) 2 S λF=>Ca 44 #[(vi 0)] F λT F=>Nb F (.cells zD 31) λd F=>au F (Am d 0) 2 T λF=>Ca 44 #[(vi 1)] F λU F=>Nb F (.cells zD 31) λq F=>au F (Am q 0) 2 U λF=>Lr F 2 (Am d 0) λV=>Lr F 2 (Am q 0) λW=>Ca 45 #[.agg V,.agg W] F λX F=>Nb F (.cells zD 31) λb4 F=>au F (Am b4 0) 2 X λF=>Ca 34 #[.bool false] F λY F=>Nb F (.cells zD 31) λD F=>au F (Am D 0) 2 Y λF=>Nb F (.cells #[.string ⟨#[83]⟩,.string ⟨#[84]⟩] 9) λak F=>Ca 46 #[Sl.v (Sb ak 2)] F λZ F=>Nb F (.cells zG 37) λk F=>au F (Am k 0) 9 Z λF=>Lr F 2 (Am p 0) λl=>Lr F 2 (Am d 0) λe=>Lr F 2 (Am q 0) λa=>Ca 48 #[(vi 0)] F λr F=>F.row (Am q 0) a/\F.row (Am d 0) e/\F.row (Am p 0) l/\Ca 49 #[(vi 1)] F λs F=>F.row (Am q 0) a/\F.row (Am d 0) e/\F.row (Am p 0) l/\r.size=2/\s.size=2/\Nb F (.cells (wr (wr (#[.bool false,vi 0,.bool false,vi 0]:Γ) 0 r.toList) 2 s.toList) 63) λal F=>Ca 47 #[.string ⟨#[115]⟩,(vi 0),.agg l,Sl.v (Sb al 2)] F λt F=>F.row (Am q 0) a/\F.row (Am d 0) e/\Ca 47 #[.string ⟨#[116]⟩,(vi 1),.agg e,Sl.v Sl.nil] F λu F=>F.row (Am q 0) a/\Ca 48 #[(vi 1)] F λw F=>F.row (Am q 0) a/\Ca 49 #[(vi 1)] F λx F=>F.row (Am q 0) a/\w.size=2/\x.size=2/\Nb F (.cells (wr (wr (#[.bool false,vi 0,.bool false,vi 0]:Γ) 0 w.toList) 2 x.toList) 63) λam F=>Ca 47 #[.string ⟨#[117]⟩,(vi 1),.agg a,Sl.v (Sb am 2)] F λy F=>t.size=13/\u.size=13/\y.size=13/\Nb F (.cells (wr (wr (wr (#[.string ⟨#[]⟩,vi 0,.slice none 0 0,.slice none 0 0,vi 0,.bool false,vi 0,.slice none 0 0,.bool false,vi 0,vi 0,vi 0,vi 0,.string ⟨#[]⟩,vi 0,.slice none 0 0,.slice none 0 0,vi 0,.bool false,vi 0,.slice none 0 0,.bool false,vi 0,vi 0,vi 0,vi 0,.string ⟨#[]⟩,vi 0,.slice none 0 0,.slice none 0 0,vi 0,.bool false,vi 0,.slice none 0 0,.bool false,vi 0,vi 0,vi 0,vi 0]:Γ) 0 t.toList) 13 u.toList) 26 y.toList) 55) λan F=>sto F (Am k 5) (Sl.v (Sb an 3)) λF=>Lr F 9 (Am k 0) λaa=>ai prog 14 #[.agg aa] F λv F=>∃z,∃f,v=(.tuple #[Sl.v z,(vi f)])/\Lr F 9 (Am k 0) λab=>ai prog 16 #[.agg ab] F λv F=>∃A,∃g,v=(.tuple #[Sl.v A,(vi g)])/\Lr F 9 (Am k 0) λac=>ai prog 25 #[.agg ac] F λv F=>∃h,∃i,v=(.tuple #[Sl.v h,(vi i)])/\Lr F 9 (Am k 0) λad=>ai prog 21 #[.agg ad] F λv F=>∃m,∃j,v=(.tuple #[Sl.v m,(vi j)])/\Bc (f≠0) (R (.bool false) F) (Bc (g≠0) (R (.bool false) F) (Bc (i≠0) (R (.bool false) F) (Bc (j≠0) (R (.bool false) F) (Bc ((h.len:Int)≠2) (R (.bool false) F) (Ix h 1 λae=>Ls F (Addr.add ae (Int.toNat 1*1)) λaf=>Ls F (Am k 3) λag=>Bc ((af.len:Int)≠(ag.len:Int)) (R (.bool false) F) (Bc ((m.len:Int)≠3) (R (.bool false) F) (Lr F 2 (Am D 0) λB=>Lr F 2 (Am d 0) λC=>B.size=2/\C.size=2/\Nb F (.cells (wr (wr zL 0 B.toList) 2 C.toList) 31) λao F=>Cbo 18 #[Sl.v z,Sl.v (Sb ao 2)] F λE F=>Bb (E) (Lr F 2 (Am d 0) λn=>Lr F 2 (Am d 0) λo=>n.size=2/\o.size=2/\Nb F (.cells (wr (wr zL 0 n.toList) 2 o.toList) 31) λah F=>Cbo 18 #[Sl.v A,Sl.v (Sb ah 2)] F λG F=>Bb (G) (Ix h 1 λb=>Ls F (Addr.add b (Int.toNat 1*1)) λc=>Ix c 1 λH=>Lr F 2 (Addr.add H (Int.toNat 1*2)) λI=>Lr F 2 (Am b4 0) λJ=>Cbo 50 #[.agg I,.agg J] F λK F=>F.cell (Addr.add b (Int.toNat 1*1))=some (Sl.v c)/\Bb (K) (Ix m 2 λL=>Lr F 2 (Addr.add L (Int.toNat 2*2)) λM=>Lr F 2 (Am b4 0) λN=>Cbo 50 #[.agg M,.agg N] F λO F=>F.cell (Addr.add b (Int.toNat 1*1))=some (Sl.v c)/\Bb (O) (Lr F 9 (Am k 0) λP=>Ci 23 #[.agg P] F λQ F=>F.cell (Addr.add b (Int.toNat 1*1))=some (Sl.v c)/\kS p d D k (decide (Q=0)) R F) (kS p d D k false R F)) (kS p d D k false R F)) (kS p d D k false R F)) (kS p d D k false R F))))))))
theorem Uk (h:RR R F):ai prog 12 #[] F R:=Rx.sxC (args:=[]) (.T .N (.T .N (.T .N (.T .N (.T .N (.T .N (.T .N (.T .N (.T .N (.T .N (.T .N (.T .N (.T .N (.J false [(15,.bool)] .N (.T .N (.T .N (.J false [(18,.bool)] .N .N))))))))))))))))) (by kernel_rfl) h
def GG (a:Int) (o:Nat) (b h i j k l m n:Sl) (R:VR) (F:PH):Prop:=Cbo 108 #[Sl.v b,Sl.v h,.int .u64 a] F λc F=>Bb (c) (Cbo 108 #[Sl.v i,Sl.v j,.int .u64 a] F λd F=>Bb (d) (Cbo 108 #[Sl.v k,Sl.v l,.int .u64 a] F λe F=>Bb (e) (Cbo 108 #[Sl.v m,Sl.v n,.int .u64 a] F λf F=>Bb (f) (Ls F (Am o 4) λg=>R (.bool (decide ((b.len:Int)=(g.len:Int)))) F) (R (.bool false) F)) (R (.bool false) F)) (R (.bool false) F)) (R (.bool false) F)
def Ah (r:Ω) (g:Int) (s:Nat) (h i j k l m n o b p:Sl) (R:VR) (a:Int) (F:PH):Prop:=Bc (a<(b.len:Int)) (Ix b a λq=>Ls F (Addr.add q (Int.toNat a*1)) λc=>Ix p a λd=>Ls F (Addr.add d (Int.toNat a*1)) λe=>Cbo 108 #[Sl.v c,Sl.v e,.int .u64 g] F λf F=>Bb ((!f)) (R (.bool false) F) (r (i64.wrap (a+1)) F)) (GG g s h i j k l m n o R F)
def RT (L w:Γ) (M:Int) (R:VR) (F:PH):Prop:=Nb F (.cells L 37) λu F=>Nb F (.cells w 37) λx F=>Lr F 9 (Am u 0) λy=>ai prog 14 #[.agg y] F λv F=>∃m,∃c,v=(.tuple #[Sl.v m,(vi c)])/\Lr F 9 (Am x 0) λz=>ai prog 14 #[.agg z] F λv F=>∃n,∃d,v=(.tuple #[Sl.v n,(vi d)])/\Lr F 9 (Am u 0) λA=>ai prog 16 #[.agg A] F λv F=>∃o,∃e,v=(.tuple #[Sl.v o,(vi e)])/\Lr F 9 (Am x 0) λB=>ai prog 16 #[.agg B] F λv F=>∃p,∃f,v=(.tuple #[Sl.v p,(vi f)])/\Lr F 9 (Am u 0) λC=>ai prog 19 #[.agg C] F λv F=>∃q,∃g,v=(.tuple #[Sl.v q,(vi g)])/\Lr F 9 (Am x 0) λD=>ai prog 19 #[.agg D] F λv F=>∃r,∃h,v=(.tuple #[Sl.v r,(vi h)])/\Lr F 9 (Am u 0) λE=>ai prog 21 #[.agg E] F λv F=>∃s,∃i,v=(.tuple #[Sl.v s,(vi i)])/\Lr F 9 (Am x 0) λG=>ai prog 21 #[.agg G] F λv F=>∃t,∃j,v=(.tuple #[Sl.v t,(vi j)])/\Lr F 9 (Am u 0) λH=>ai prog 25 #[.agg H] F λv F=>∃a,∃k,v=(.tuple #[Sl.v a,(vi k)])/\Lr F 9 (Am x 0) λI=>ai prog 25 #[.agg I] F λv F=>∃b,∃l,v=(.tuple #[Sl.v b,(vi l)])/\Ls F (Am u 4) λJ=>Bc ((a.len:Int)≠(J.len:Int)) (R (.bool false) F) (Bc ((b.len:Int)≠(a.len:Int)) (R (.bool false) F) (Lp 0 F λN K F=>Ah N M u m n o p q r s t a b R K F))
theorem Ul {b:Γ} {a:Γ} {c:Int} (h:RT b a c R F):ai prog 43 #[.agg b,.agg a,.int .u64 c] F R:=Rx.sxC (args:=[.agg b,.agg a,.int .u64 c]) (.T .N (.T .N (.T .N (.T .N (.T .N (.T .N (.T .N (.T .N (.T .N (.T .N (.T .N (.T .N (.J false [] (.T .N (.L [(27,.int .i64)] .N)) .N))))))))))))) (by kernel_rfl) h
def RU (d:Int) (R:VR) (F:PH):Prop:=Nb F (.cells zD 31) λe F=>ai prog 109 #[(vi d)] F λv F=>∃b,∃a,v=(.tuple #[.agg b,(vi a)])/\Nb F (.cells zD 31) λf F=>au F (Am f 0) 2 b λF=>Lr F 2 (Am f 0) λc=>au F (Am e 0) 2 c λF=>Rr 2 (Am e 0) R F
theorem Um {a:Int} (h:RU a R F):ai prog 44 #[(vi a)] F R:=Rx.sxC (args:=[(vi a)]) .N (by kernel_rfl) h
def RV (b:ByteArray) (c:Int) (e:Γ) (a:Sl) (R:VR) (F:PH):Prop:=Nb F (.cells e 31) λg F=>Nb F (.cells zP 55) λf F=>Lr F 2 (Am g 0) λd=>d.size=2/\au F (Am f 0) 13 (wr (Array.setIfInBounds (Array.setIfInBounds (Array.setIfInBounds zP 0 (.string b)) 1 (vi c)) 2 (Sl.v a)) 3 d.toList) λF=>Rr 13 (Am f 0) R F
theorem Un {b:ByteArray} {c:Int} {d:Γ} {a:Sl} (h:RV b c d a R F):ai prog 47 #[.string b,(vi c),.agg d,Sl.v a] F R:=Rx.sxC (args:=[.string b,(vi c),.agg d,Sl.v a]) .N (by kernel_rfl) h
def Jd (R:VR) (F:PH):Prop:=R (.bool true) F
def wi (j:Ω) (d h:Sl) (i:Int) (R:VR) (a:Int) (F:PH):Prop:=Bc (a<(d.len:Int)) (Ix d a λe=>Lr F 2 (Addr.add e (Int.toNat a*2)) λf=>Ix h a λb=>Li F (Addr.add (Addr.add b (Int.toNat a*2)) 1) λc=>Cbo 41 #[.agg f,.int .u64 i] F λg F=>F.cell (Addr.add (Addr.add b (Int.toNat a*2)) 1)=some (vi c)/\Bb ((!(g==(decide (c≠0))))) (R (.bool false) F) (j (i64.wrap (a+1)) F)) (Jd R F)
def LD (a b:Sl) (c:Int) (R:VR) (F:PH):Prop:=Bc ((a.len:Int)≠(b.len:Int)) (R (.bool false) F) (Lp 0 F λN d F=>wi N a b c R d F)
theorem RW {a:Sl} {b:Sl} {c:Int} (h:LD a b c R F):ai prog 108 #[Sl.v a,Sl.v b,.int .u64 c] F R:=Rx.sxC (args:=[Sl.v a,Sl.v b,.int .u64 c]) (.T .N (.T .N (.J false [] (.T .N (.L [(7,.int .i64)] .N)) .N))) (by kernel_rfl) h
theorem jw (v:Nat) (hv:v<=63) (F:PH):ai prog 44 #[vi v] F λr F'=>wZ (dia (tv v)) r F'/\F.le F':=by refine Um ?_;unfold RU;refine (St.start F).new λb2 F1 h=> ?_;refine h.run (nA (v:Int)) λr G2 F2 hr l2 h=> ?_;rw [BN (show v<64 by omega)] at hr;obtain ⟨w,rfl,hw⟩:=hr;refine ⟨w,_,rfl,?_⟩;refine h.var hw.st (λb3 G3 F3 l3 q3 h=> ?_) rfl hw.size;refine ⟨w,hw.size,ac (h.le _ _ q3),?_⟩;refine h.put0 (w':=w) hw.size rfl hw.st λF4 h=> ?_;exact ⟨w,hw.size,h.whole0,⟨w,rfl,(hw.le l3).le h.le⟩,aa l2 (aa l3 h.le)⟩
theorem cZ (nm:ByteArray) (left:Int) {s:Sl} {right:List Sy} {w:Γ} {d:Dia} {F:PH} (hs:RL F s right) (hd:DV F w d):ai prog 47 #[.string nm,vi left,.agg w,s.v] F λr F'=>(∃w,r=.agg w/\Mem.rep F' (mkC nm left right d) w)/\F.le F':=by refine Un ?_;unfold RV;refine (St.start F).newG λb6 G1 F1 l1 q6 _ h=> ?_;refine h.new λb8 F2 h=> ?_;obtain ⟨n,rfl,hn⟩:=hd.out;refine ⟨_,rfl,ac (h.le _ _ q6),rfl,?_⟩;refine h.put0 (w':=(mkC nm left right d).arr s n Sl.nil) rfl rfl (by simp [ak,Sl.v]) λF3 h=> ?_;have l:=aa l1 h.le;exact ⟨_,rfl,h.whole0,⟨_,rfl,s,n,Sl.nil,rfl,hs.le l,hn.le l,RL.nil _⟩,l⟩
theorem fj {F:PH} {a b:Sl} {x y:List Dia} (ha:RL F a x) (hb:RL F b y) (hx:∀d∈x,Fit d.1.length) (hl:x.length<=1000000):ai prog 18 #[a.v,b.v] F λr F'=>r=.bool (decide (x=y))/\F.le F':=by
 have ea:=ha.len (by decide);have eb:=hb.len (by decide);refine Ui ?_;unfold RO;refine ⟨λhne=>⟨?_,aq _⟩,λhe=> ?_⟩
 ·rw [decide_eq_false];intro e;rw [e] at ea;omega
 ·have hll:x.length=y.length:=by omega
  refine bz (Ae · a b _) x.length (λi F'=>F.le F'/\x.take i=y.take i) ⟨aq _,by simp⟩ ?_;rintro i F1 N hi ⟨l1,het⟩ next;unfold Ae;refine ⟨λhlt=> ?_,λhge=> ?_⟩
  ·have hlt:i<x.length:=by omega
   refine ixc (ha.le l1) (by decide) (by omega) (by omega) λa1 c1 d hd hrow1 hc1=>⟨c1,Mem.len hc1,hrow1,?_⟩;refine ixc (hb.le l1) (by decide) (by omega) (by omega) λa2 c2 e he2 hrow2 hc2=>⟨c2,Mem.len hc2,hrow2,?_⟩;rw [N4] at hd he2;refine (iD (show DV F1 c1 d from hc1) (show DV F1 c2 e from hc2) (hx d (UY hd))).mono ?_;rintro _ F2 ⟨rfl,l2⟩;refine ⟨_,rfl,λhn=> ?_,λhy=> ?_⟩
   ·refine ⟨?_,aa l1 l2⟩;rw [decide_eq_false];intro e';rw [e'] at hd;rw [hd] at he2;cases he2;simp at hn
   ·have e':d=e:=by simpa using hy
    subst e';rw [aI hlt (by omega)];exact next _ hlt ⟨aa l1 l2,by rw [fb hd,fb he2,het]⟩
  ·have e:i=x.length:=by omega
   subst e;unfold GE;refine ⟨?_,l1⟩;rw [U7,hll,U7] at het;rw [decide_eq_true het]
theorem Uo {n:Nat} {z v w:Γ} (h1:v.size=n) (h2:w.size=n) (hz:z.size=n+n):(wr (wr z 0 v.toList) n w.toList).toList=v.toList++w.toList:=by have e1:=dV v.toList z.toList 0 (by rw [U4,U4];omega);rw [show z.toList.toArray=z by simp] at e1;rw [e1];have e2:=dV w.toList (z.toList.take 0++v.toList++z.toList.drop (0+v.toList.length)) n (by simp;omega);rw [e2];simp only [Wi,Vt,Vd,U4,h1,h2];rw [Vg (by simp [h1]),UZ (by simp [h1]),List.drop_of_length_le (by simp;omega),Vx]
theorem Uq {n:Nat} {z v w u:Γ} (h1:v.size=n) (h2:w.size=n) (h3:u.size=n) (hz:z.size=n+n+n):(wr (wr (wr z 0 v.toList) n w.toList) (n+n) u.toList).toList=v.toList++w.toList++u.toList:=by have e1:=dV v.toList z.toList 0 (by rw [U4,U4];omega);rw [show z.toList.toArray=z by simp] at e1;rw [e1];have e2:=dV w.toList (z.toList.take 0++v.toList++z.toList.drop (0+v.toList.length)) n (by simp;omega);rw [e2];simp only [Wi,Vt,Vd,U4,h1,h2];rw [Vg (by simp [h1]),UZ (by simp [h1])];have e3:=dV u.toList (v.toList++w.toList++List.drop (n+n) (v.toList++List.drop n z.toList)) (n+n) (by simp;omega);rw [e3];simp only [U4,h3];rw [Vg (by simp;omega),UZ (by simp;omega),List.drop_of_length_le (by simp;omega),Vx]
section
variable {α:Type} [Mem α] {b e n:Nat} {G:PH} {x y u:α} {v w t z:Γ}
theorem B5 (q:G b=some (.cells v e)) (h1:Mem.rep G x v):RL G (Sl.mk (some (Addr.mk b 0 none)) 1 1) [x]:=by have:=Mem.len h1;exact ⟨[v],.cons h1 .nil,RdS.new q (by rw [bV,UZ];rw [U4,this,Wp];exact UW _) (by rw [bV,U4,this,Wp]) (UW _)⟩
theorem uj (q:G b=some (.cells (wr (wr z 0 v.toList) n w.toList) e)) (hn:Mem.n α=n) (hz:z.size=n+n) (h1:Mem.rep G x v) (h2:Mem.rep G y w):RL G (Sl.mk (some (Addr.mk b 0 none)) 2 2) [x,y]:=by
 subst hn;have s1:=Mem.len h1;have s2:=Mem.len h2;refine ⟨[v,w],.cons h1 (.cons h2 .nil),RdS.new q ?_ ?_ (UW _)⟩
 ·rw [Uo s1 s2 hz,bR,bV,UZ];rw [UV,U4,U4];omega
 ·rw [bR,bV,UV,U4,U4];omega
theorem B6 (q:G b=some (.cells (wr (wr (wr z 0 v.toList) n w.toList) (n+n) t.toList) e)) (hn:Mem.n α=n) (hz:z.size=n+n+n) (h1:Mem.rep G x v) (h2:Mem.rep G y w) (h3:Mem.rep G u t):RL G (Sl.mk (some (Addr.mk b 0 none)) 3 3) [x,y,u]:=by
 subst hn;have s1:=Mem.len h1;have s2:=Mem.len h2;have s3:=Mem.len h3;refine ⟨[v,w,t],.cons h1 (.cons h2 (.cons h3 .nil)),RdS.new q ?_ ?_ (UW _)⟩
 ·rw [Uq s1 s2 s3 hz,bR,bR,bV,<- Vo,UZ];rw [UV,UV,U4,U4,U4];omega
 ·rw [bR,bR,bV,UV,UV,U4,U4,U4];omega
end
theorem pV {k:Nat} {t:Tr} (h:Sx k t) (hk:k<=6):Fit (dia t).1.length:=pF (h.small hk)
end Go.Proofs.YtcemhghkipgdiaaGreatDoor
