/-
  Made grammars with further productions: they are valid; which productions a made grammar has.
-/
import Derived.Test.YtcemhghkipgdiaaGreatDoorCc
set_option maxRecDepth 10000
open Option renaming some->Y3,none->Y5
open Go.Obj renaming cells->Y4
open Bool renaming false->Y6,true->Y8
open Go.Value renaming agg->Y9,bool->Za,int->Zf,string->Zg,tuple->Zh,slice->Zm
open Go.Addr renaming add->Zb,mk->Zc
open Int renaming toNat->Zd,tmod->Zk
open Array renaming setIfInBounds->Zl
noncomputable section
namespace Go.Proofs.YtcemhghkipgdiaaGreatDoor
open Go.IntKind (i64 u8 u64)
open Sl renaming v->Y7,nil->Zi,mk->Zj
open Go Go.Proofs.Tryz Tr
section
def mkC (nm:ο) (left:Int) (right:List Sy) (d:Dia):Pr:=⟨nm,left,right,d,Y6,0,[],⟨Y6,0,0,0,0⟩⟩
def nST:List ο:=[⟨#[83]⟩,⟨#[84]⟩]
def sgG (l:List Pr):Gr:={cM nST with YV:=l}
def sp1:List Pr:=[mkC ⟨#[115]⟩ 0 [⟨Y8,0⟩,⟨Y6,1⟩] aK,mkC ⟨#[116]⟩ 1 [] (dia (tv 0)),mkC ⟨#[117]⟩ 1 [⟨Y8,1⟩,⟨Y6,1⟩] (dia (tv 1))]
def sp2:List Pr:=[mkC ⟨#[115]⟩ 0 [⟨Y6,1⟩] aK,mkC ⟨#[116]⟩ 1 [⟨Y6,0⟩] (dia (tv 0)),mkC ⟨#[117]⟩ 1 [⟨Y8,0⟩] aK]
def sp3:List Pr:=[mkC ⟨#[115]⟩ 0 [⟨Y6,1⟩,⟨Y6,0⟩,⟨Y6,1⟩] (dia (tv 0)),mkC ⟨#[116]⟩ 0 [⟨Y8,0⟩] aK,mkC ⟨#[117]⟩ 1 [] aK]
theorem nK {α:Type} {a b d x:α} {i:Nat} (h:[a,b,d][i]? =Y3 x):(i=0/\x=a)\/(i=1/\x=b)\/(i=2/\x=d):=by
 match i,h with
 |0,h=>cases h;exact .inl ⟨rfl,rfl⟩
 |1,h=>cases h;exact .inr (.inl ⟨rfl,rfl⟩)
 |2,h=>cases h;exact .inr (.inr ⟨rfl,rfl⟩)
 |i+3,h=>simp at h
theorem If {l:List Pr} (h3:(l.map Pr.name).Nodup) (h4:∀s∈l.map Pr.name,ES s) (h5:∀p∈l,PrI 2 2 p):MG (sgG l):=
 nX (n:=2) (by decide) rfl rfl rfl rfl (by show bv nST;unfold bv;decide) (by show ∀s∈nST,s.size<=10;decide) h3 h4 h5 ⟨trivial,λ_ h=>(by cases h)⟩ λ_ h=>by cases h
theorem NR {l:List Pr} (h0:l.length≠0) (h1:l.length<=3):Bd (sgG l) 3 0:=
 ⟨by show 2<=3;decide,by show (2:Nat)≠0;decide,by show 2<=3;decide,h0,h1,rfl,by show 0<=0;decide,λ_ h=>(by cases h),by show 0<=0;decide⟩
theorem AR:MG (sgG sp1):=If (by decide) (by decide) λp hp=>by
 obtain ⟨i,hi⟩:=List.getElem?_of_mem hp;rcases nK hi with ⟨_,rfl⟩|⟨_,rfl⟩|⟨_,rfl⟩
 ·exact ba (by decide) (aR _)
 ·exact ba (by decide) (d9 (by decide) (by decide))
 ·exact ba (by decide) (d9 (by decide) (by decide))
theorem AT:MG (sgG sp2):=If (by decide) (by decide) λp hp=>by
 obtain ⟨i,hi⟩:=List.getElem?_of_mem hp;rcases nK hi with ⟨_,rfl⟩|⟨_,rfl⟩|⟨_,rfl⟩
 ·exact ba (by decide) (aR _)
 ·exact ba (by decide) (d9 (by decide) (by decide))
 ·exact ba (by decide) (aR _)
theorem AU:MG (sgG sp3):=If (by decide) (by decide) λp hp=>by
 obtain ⟨i,hi⟩:=List.getElem?_of_mem hp;rcases nK hi with ⟨_,rfl⟩|⟨_,rfl⟩|⟨_,rfl⟩
 ·exact ba (by decide) (d9 (by decide) (by decide))
 ·exact ba (by decide) (aR _)
 ·exact ba (by decide) (aR _)
theorem Ig {l:List Pr} (h:MG (sgG l)) (h0:l.length≠0) (h1:l.length<=3):OkK (sgG l) 2:=⟨h.ok (NR h0 h1) (by decide) (by decide),rfl,by decide⟩
theorem Et:∀t∈dN,t.cond=aK:=by intro t ht;have e:dN.map qx=dN:=rfl;rw [<- e] at ht;obtain ⟨u,_,rfl⟩:=Xi.1 ht;rfl
theorem mO {l:List Pr} (h:OkK (sgG l) 2) {i:Nat} {x:Pr} {t:Tr} (hx:l[i]? =Y3 x) (hc:x.cond=dia t) (ht:t.ok) (c:Cf):(aD (sgG l) i).ev c=t.ev c:=by
 have hx':(sgG l).YV[i]? =Y3 x:=hx;have hm:=W7 hx';have e1:tre (sgG l).fam=Y0 Y8:=iE (t:=Y0 Y8) trivial;rw [h.prs_ev hx',e1,hc,iE ht];have:(x.right.all λs=> !s.t || (kf (sgG l) s.i).ev c)=Y8:=by
  rw [XD];intro s hs;cases hst:s.t with
  |false=>rfl
  |true=>
   obtain ⟨u,hu,_⟩:=((h.prod hm).2.2.2 s hs).2.2 hst;have hu':dN[s.i.toNat]? =Y3 u:=hu;have e2:=Et u (W7 hu');have e3:kf (sgG l) s.i=Y0 Y8:=by unfold kf;rw [hu];dsimp only;rw [e2];exact iE (t:=Y0 Y8) trivial
   rw [e3];rfl
 rw [this];show (Y8 && t.ev c && Y8)=_;simp
theorem i9 (v:Nat) (c:Cf):(tv v).ev c=c v:=by show (if c v=Y8 then Y8 else Y6)=c v;cases c v<;>rfl
structure Sg (l:List Pr) (f:Nat->Tr):Prop where
 mg:MG (sgG l)
 ok:OkK (sgG l) 2
 ev:∀i x,l[i]? =Y3 x->∀c,(aD (sgG l) i).ev c=(f i).ev c
def sf1 (i:Nat):Tr:=if i=0 then Y0 Y8 else if i=1 then tv 0 else tv 1
def sf2 (i:Nat):Tr:=if i=1 then tv 0 else Y0 Y8
def sf3 (i:Nat):Tr:=if i=0 then tv 0 else Y0 Y8
theorem sg1:Sg sp1 sf1:=by
 have h:=Ig AR (by decide) (by decide);refine ⟨AR,h,λi x hi c=> ?_⟩;rcases nK hi with ⟨rfl,rfl⟩|⟨rfl,rfl⟩|⟨rfl,rfl⟩
 ·exact mO h hi (t:=Y0 Y8) rfl trivial c
 ·exact mO h hi (t:=tv 0) rfl (rL (by decide)) c
 ·exact mO h hi (t:=tv 1) rfl (rL (by decide)) c
theorem sg2:Sg sp2 sf2:=by
 have h:=Ig AT (by decide) (by decide);refine ⟨AT,h,λi x hi c=> ?_⟩;rcases nK hi with ⟨rfl,rfl⟩|⟨rfl,rfl⟩|⟨rfl,rfl⟩
 ·exact mO h hi (t:=Y0 Y8) rfl trivial c
 ·exact mO h hi (t:=tv 0) rfl (rL (by decide)) c
 ·exact mO h hi (t:=Y0 Y8) rfl trivial c
theorem sg3:Sg sp3 sf3:=by
 have h:=Ig AU (by decide) (by decide);refine ⟨AU,h,λi x hi c=> ?_⟩;rcases nK hi with ⟨rfl,rfl⟩|⟨rfl,rfl⟩|⟨rfl,rfl⟩
 ·exact mO h hi (t:=tv 0) rfl (rL (by decide)) c
 ·exact mO h hi (t:=Y0 Y8) rfl trivial c
 ·exact mO h hi (t:=Y0 Y8) rfl trivial c
section
variable {c:Cf} {st:Bool}
theorem UL:(aD (sgG sp1) 0).ev c=Y8:=sg1.ev 0 _ rfl c
theorem UM:(aD (sgG sp1) 1).ev c=c 0:=(sg1.ev 1 _ rfl c).trans (i9 0 c)
theorem KI:(aD (sgG sp1) 2).ev c=c 1:=(sg1.ev 2 _ rfl c).trans (i9 1 c)
theorem sM {n:Int} (d:Der sp1 (aD (sgG sp1)) st c n):c 0=Y8:=by
 induction d with
 |mk i x hi hp ht hd ih=>
  rcases nK hi with ⟨rfl,rfl⟩|⟨rfl,rfl⟩|⟨rfl,rfl⟩
  ·exact ih ⟨Y6,1⟩ (by decide) rfl
  ·rw [UM] at hp;exact hp
  ·exact ih ⟨Y6,1⟩ (by decide) rfl
theorem j0 (h:c 0=Y8):Der sp1 (aD (sgG sp1)) Y8 c 1:=.mk 1 (mkC ⟨#[116]⟩ 1 [] (dia (tv 0))) rfl (by rw [UM];exact h) (λ_ h=>(by cases h)) λ_ h=>by cases h
theorem KJ (h:c 0=Y8):Der sp1 (aD (sgG sp1)) Y6 c 0:=.mk 0 (mkC ⟨#[115]⟩ 0 [⟨Y8,0⟩,⟨Y6,1⟩] aK) rfl UL (λ_ _ _=>rfl) λs hs ht=>by
 rcases W6.1 hs with rfl|hs
 ·cases ht
 ·rw [W5.1 hs];exact (j0 h).up
theorem KL:¬Der sp1 (aD (sgG sp1)) Y8 c 0:=by
 rw [Der.inv];rintro ⟨i,x,hi,hl,hp,ht,hd⟩;rcases nK hi with ⟨rfl,rfl⟩|⟨rfl,rfl⟩|⟨rfl,rfl⟩
 ·exact absurd (ht ⟨Y8,0⟩ (by decide) rfl) (by decide)
 ·exact absurd hl (by decide)
 ·exact absurd hl (by decide)
theorem Px:Fst sp1 (aD (sgG sp1)) c 1 1↔c 0=Y8/\c 1=Y8:=by
 constructor
 ·intro f;refine ⟨sM f.der,?_⟩;obtain ⟨i,x,hi,hl,hp,hr⟩:=f.pres;rcases nK hi with ⟨rfl,rfl⟩|⟨rfl,rfl⟩|⟨rfl,rfl⟩
  ·exact absurd hl (by decide)
  ·exact absurd rfl hr
  ·rw [KI] at hp;exact hp
 ·rintro ⟨h0,h1⟩;refine .tok 2 0 (mkC ⟨#[117]⟩ 1 [⟨Y8,1⟩,⟨Y6,1⟩] (dia (tv 1))) ⟨Y8,1⟩ rfl (by rw [KI];exact h1) (λy hy hyt=> ?_) rfl (λm y hm=>by omega) rfl;rcases W6.1 hy with rfl|hy
  ·cases hyt
  ·rw [W5.1 hy];exact (j0 h0).up
theorem Py:Use sp1 (aD (sgG sp1)) (Y0 Y8) 0 c 2↔c 0=Y8/\c 1=Y8:=by
 constructor
 ·rintro ⟨x,hi,hp,_,hd⟩;cases hi;rw [KI] at hp;exact ⟨sM (hd ⟨Y6,1⟩ (by decide) rfl),hp⟩
 ·rintro ⟨h0,h1⟩;have hd:∀y∈([⟨Y8,0⟩,⟨Y6,1⟩]:List Sy),y.t=Y6->Der sp1 (aD (sgG sp1)) Y6 c y.i:=λy hy hyt=>by
   rcases W6.1 hy with rfl|hy
   ·cases hyt
   ·rw [W5.1 hy];exact (j0 h0).up
  refine ⟨_,rfl,by rw [KI];exact h1,?_,λy hy hyt=> ?_⟩
  ·exact .step 0 (mkC ⟨#[115]⟩ 0 [⟨Y8,0⟩,⟨Y6,1⟩] aK) ⟨Y6,1⟩ rfl UL (.start rfl) hd (by decide) rfl
  ·rcases W6.1 hy with rfl|hy
   ·cases hyt
   ·rw [W5.1 hy];exact (j0 h0).up
theorem Pz {a b:Int}:¬Stp sp1 (aD (sgG sp1)) c a b:=by
 rintro ⟨i,j,x,s,hi,hj,hs,_,_,_,ho⟩;rcases nK hi with ⟨rfl,rfl⟩|⟨rfl,rfl⟩|⟨rfl,rfl⟩
 ·match j,hj with
  |0,hj=>cases hj;cases hs
  |j+1,_=>exact absurd (ho 0 ⟨Y8,0⟩ (by omega) rfl).1 (by decide)
 ·simp [mkC] at hj
 ·match j,hj with
  |0,hj=>cases hj;cases hs
  |j+1,_=>exact absurd (ho 0 ⟨Y8,1⟩ (by omega) rfl).1 (by decide)
theorem UN:(aD (sgG sp2) 1).ev c=c 0:=(sg2.ev 1 _ rfl c).trans (i9 0 c)
theorem WH:(aD (sgG sp2) 0).ev c=Y8:=sg2.ev 0 _ rfl c
theorem uE {r:Sy} {m:Nat} {y:Sy} {p:Prop} (hm:m≠0) (hy:[r][m]? =Y3 y):p:=by
 match m,hm,hy with
 |0,hm,_=>exact absurd rfl hm
 |m+1,_,hy=>simp at hy
theorem AV {a b:Int} (h:Stp sp2 (aD (sgG sp2)) c a b):(a=0/\b=1)\/(a=1/\b=0/\c 0=Y8):=by
 obtain ⟨i,j,x,s,hi,hj,hs,ha,hb,hp,ho⟩:=h;rcases nK hi with ⟨rfl,rfl⟩|⟨rfl,rfl⟩|⟨rfl,rfl⟩
 ·match j,hj with
  |0,hj=>cases hj;exact .inl ⟨ha.symm,hb.symm⟩
  |j+1,hj=>simp [mkC] at hj
 ·match j,hj with
  |0,hj=>cases hj;rw [UN] at hp;exact .inr ⟨ha.symm,hb.symm,hp⟩
  |j+1,hj=>simp [mkC] at hj
 ·match j,hj with
  |0,hj=>cases hj;cases hs
  |j+1,hj=>simp [mkC] at hj
theorem Ih:Stp sp2 (aD (sgG sp2)) c 0 1:=⟨0,0,_,⟨Y6,1⟩,rfl,rfl,rfl,rfl,rfl,WH,λ_ _ hm hy=>uE hm hy⟩
theorem Dg (h:c 0=Y8):Stp sp2 (aD (sgG sp2)) c 1 0:=⟨1,0,_,⟨Y6,0⟩,rfl,rfl,rfl,rfl,rfl,by rw [UN];exact h,λ_ _ hm hy=>uE hm hy⟩
theorem AW {n:Int} (hn:n=0\/n=1):Tg (Stp sp2 (aD (sgG sp2)) c) n n↔c 0=Y8:=by
 constructor
 ·intro h;rcases hn with rfl|rfl
  ·generalize hb:(0:Int)=b at h;cases h with
   |one h=>
    subst hb;rcases AV h with ⟨_,h⟩|⟨_,_,h⟩
    ·exact absurd h (by decide)
    ·exact h
   |snoc _ h=>
    subst hb;rcases AV h with ⟨_,h⟩|⟨_,_,h⟩
    ·exact absurd h (by decide)
    ·exact h
  ·obtain ⟨d,h⟩:=h.head;rcases AV h with ⟨h,_⟩|⟨_,_,h⟩
   ·exact absurd h (by decide)
   ·exact h
 ·intro h;rcases hn with rfl|rfl
  ·exact .snoc (.one Ih) (Dg h)
  ·exact .snoc (.one (Dg h)) Ih
theorem UO:(aD (sgG sp3) 0).ev c=c 0:=(sg3.ev 0 _ rfl c).trans (i9 0 c)
theorem WI:(aD (sgG sp3) 2).ev c=Y8:=sg3.ev 2 _ rfl c
theorem Ii {n:Int} (d:Der sp3 (aD (sgG sp3)) Y8 c n):n≠0:=by
 induction d with
 |mk i x hi hp ht hd ih=>
  rcases nK hi with ⟨rfl,rfl⟩|⟨rfl,rfl⟩|⟨rfl,rfl⟩
  ·exact absurd rfl (ih ⟨Y6,0⟩ (by decide) rfl)
  ·exact absurd (ht ⟨Y8,0⟩ (by decide) rfl) (by decide)
  ·decide
theorem Ij:Der sp3 (aD (sgG sp3)) Y8 c 1:=.mk 2 (mkC ⟨#[117]⟩ 1 [] aK) rfl WI (λ_ h=>(by cases h)) λ_ h=>by cases h
theorem Ik {a b:Int} (h:Stp sp3 (aD (sgG sp3)) c a b):a=0/\b=0/\c 0=Y8:=by
 obtain ⟨i,j,x,s,hi,hj,hs,ha,hb,hp,ho⟩:=h;rcases nK hi with ⟨rfl,rfl⟩|⟨rfl,rfl⟩|⟨rfl,rfl⟩
 ·match j,hj with
  |0,hj=>exact absurd rfl (Ii (ho 1 ⟨Y6,0⟩ (by decide) rfl).2)
  |1,hj=>cases hj;rw [UO] at hp;exact ⟨ha.symm,hb.symm,hp⟩
  |j+2,hj=>exact absurd rfl (Ii (ho 1 ⟨Y6,0⟩ (by omega) rfl).2)
 ·match j,hj with
  |0,hj=>cases hj;cases hs
  |j+1,hj=>simp [mkC] at hj
 ·simp [mkC] at hj
theorem KM:Tg (Stp sp3 (aD (sgG sp3)) c) 0 0↔c 0=Y8:=by
 constructor
 ·intro h;obtain ⟨d,h⟩:=h.head;exact (Ik h).2.2
 ·intro h;refine .one ⟨0,1,_,⟨Y6,0⟩,rfl,rfl,rfl,rfl,rfl,by rw [UO];exact h,λm y hm hy=> ?_⟩
  match m,hm,hy with
  |0,_,hy=>cases hy;exact ⟨rfl,Ij⟩
  |1,hm,_=>exact absurd rfl hm
  |2,_,hy=>cases hy;exact ⟨rfl,Ij⟩
  |m+3,_,hy=>simp [mkC] at hy
theorem KN:¬Tg (Stp sp3 (aD (sgG sp3)) c) 1 1:=λh=>by obtain ⟨d,h⟩:=h.head;exact absurd (Ik h).1 (by decide)
end
theorem iT {k:Nat} {t u:Tr} (ht:Sx k t) (hu:u.ok) (h:∀c,t.ev c=Y8↔u.ev c=Y8):t=u:=
 eQ ht.1 hu λc=>Xc.2 (h c)
theorem uF {k:Nat} {t:Tr} (ht:Sx k t) (h:∀c,t.ev c≠Y8):t=Y0 Y6:=iT ht trivial λc=>⟨λh'=>absurd h' (h c),λh'=>by cases h'⟩
abbrev sO:Tr:=ap2 aY (tv 0) (tv 1)
theorem qw:Sx 2 sO:=(Sx.tv (by decide) (by decide)).ap2 (o:=aY) (Sx.tv (by decide) (by decide))
theorem Dh (c:Cf):sO.ev c=Y8↔c 0=Y8/\c 1=Y8:=by rw [(bq (rL (by decide)) (rL (by decide))).2,i9,i9];exact Xq
variable {R:VR} {F:PH}
set_option maxHeartbeats 4000000
def wU (b c:Nat) (R:VR) (F:PH):Prop:=Lr F 9 (Am c 0) λa=>au F (Am b 0) 9 a λF=>Rr 9 (Am b 0) R F
def wV (c:Ω) (_:Sl) (_ _:Nat) (b:Int) (_:VR) (F:PH):Prop:=c (i64.wrap (b+1)) F
def wW (u:Ω) (a:Sl) (v f:Nat) (d:Int) (w:Θ) (R:VR) (F:PH):Prop:=Ix a d λo=>Lk F .u8 (Zb (Zb o (Zd d*4)) 2) λp=>Ls F (Am f 0) λk=>Ca 33 #[Zf .u8 p,(vi (k.len:Int))] F λq F=>F.cell (Am f 0)=Y3 (Y7 k)/\∃c,w=Y3 c/\au F (Zb c 3) 2 q λF=>Ls F (Am f 5) λe=>Lr F 13 c λb=>((Nb F (Y4 #[] 55) λr F=>((Ap 33 #[Y7 (Sb r 0),Y7 e] F λs F=>F.row c b/\b.size=13/\Nb F (Y4 b 55) λx F=>Ap 33 #[Y7 s,Y7 (Sb x 1)] F λt F=>sto F (Am f 5) (Y7 t) λF=>wV u a v f d R F)/\(b.size=13/\Nb F (Y4 b 55) λl F=>Ap 33 #[Y7 (Sb r 0),Y7 e] F λg F=>Ap 33 #[Y7 g,Y7 (Sb l 1)] F λh F=>sto F (Am f 5) (Y7 h) λF=>wV u a v f d R F)))/\(b.size=13/\Nb F (Y4 b 55) λm F=>Nb F (Y4 #[] 55) λn F=>Ap 33 #[Y7 (Sb n 0),Y7 e] F λi F=>Ap 33 #[Y7 i,Y7 (Sb m 1)] F λj F=>sto F (Am f 5) (Y7 j) λF=>wV u a v f d R F))
def wX (_ k:Ω) (_:Sl) (_ _:Nat) (_:Int) (f:Θ) (_:Sl) (g:Int) (h:Nat) (_:VR) (F:PH):Prop:=∃a,f=Y3 a/\Ls F (Zb a 2) λc=>Lr F 2 (Am h 0) λb=>b.size=2/\Nb F (Y4 b 63) λi F=>Ap 50 #[Y7 c,Y7 (Sb i 1)] F λd F=>sto F (Zb a 2) (Y7 d) λF=>k (i64.wrap (g+1)) F
def AX (o q:Ω) (a:Sl) (p h:Nat) (d:Int) (e:Θ) (c:Sl) (R:VR) (b:Int) (F:PH):Prop:=Bc (b<(c.len:Int)) (Bc (b<3) (Ix c b λi=>Lk F .u8 (Zb i (Zd b*1)) λj=>Ls F (Am h 4) λg=>(g.len:Int)≠0/\Nb F (Y4 (#[Za Y6,vi 0]) 63) λf F=>au F (Am f 0) 2 (#[Za Y6,(vi (Zk (i64.wrap j) (g.len:Int)))]:Γ) λF=>Ix c b λk=>Lk F .u8 (Zb k (Zd b*1)) λl=>Bc (200<l) (Ix c b λm=>Lk F .u8 (Zb m (Zd b*1)) λn=>au F (Am f 0) 2 (#[Za Y8,(vi (Zk (i64.wrap n) 9))]:Γ) λF=>wX o q a p h d e c b f R F) (wX o q a p h d e c b f R F)) (wW o a p h d e R F)) (wW o a p h d e R F)
def wY (i:Ω) (a:Sl) (j k:Nat) (b:Int) (g:Θ) (R:VR) (F:PH):Prop:=Ix a b λc=>Ls F (Zb (Zb c (Zd b*4)) 1) λd=>(∃(h:Nat->Ω) (f:Nat),h f 0 F/\∀f e F,h f e F-> AX i (nx1 h f) a j k b g d R e F)
def AY (m:Ω) (a:Sl) (k i:Nat) (R:VR) (c:Int) (F:PH):Prop:=Bc (c<(a.len:Int)) (Bc (c<4) (Ix a c λj=>Lk F .u8 (Zb j (Zd c*4)) λf=>Ls F (Am i 4) λd=>(d.len:Int)≠0/\((Nb F (Y4 #[Zf .u8 (u8.wrap (i64.wrap (97+c)))] 5) λl F=>∃e,rdo prog (Conv.bytesToString (Y7 (Sb l 1))) F (Zg e)/\(ByteArray.mk #[113]).size+e.size<=9223372036854775807/\Nb F (Y4 zP 55) λn F=>au F (Am n 0) 13 (#[Zg ((ByteArray.mk #[113])++e),(vi (Zk (i64.wrap f) (d.len:Int))),Zm Y5 0 0,.slice Y5 0 0,vi 0,.bool Y6,vi 0,.slice Y5 0 0,.bool Y6,vi 0,vi 0,vi 0,vi 0]:Γ) λF=>wY m a k i c (Y3 (Am n 0)) R F)/\(Nb F (Y4 zP 55) λg F=>Nb F (Y4 #[Zf .u8 (u8.wrap (i64.wrap (97+c)))] 5) λh F=>∃b,rdo prog (Conv.bytesToString (Y7 (Sb h 1))) F (Zg b)/\(ByteArray.mk #[113]).size+b.size<=9223372036854775807/\au F (Am g 0) 13 (#[Zg ((ByteArray.mk #[113])++b),(vi (Zk (i64.wrap f) (d.len:Int))),Zm Y5 0 0,.slice Y5 0 0,vi 0,.bool Y6,vi 0,.slice Y5 0 0,.bool Y6,vi 0,vi 0,vi 0,vi 0]:Γ) λF=>wY m a k i c (Y3 (Am g 0)) R F))) (wU k i R F)) (wU k i R F)
def UP (d:Γ) (a:Sl) (R:VR) (F:PH):Prop:=Nb F (Y4 d 26) λg F=>Nb F (Y4 zG 37) λh F=>Lr F 5 (Am g 0) λb=>Ca 32 #[Y9 b] F λc F=>Nb F (Y4 zG 37) λf F=>au F (Am f 0) 9 c λF=>Lp 0 F λN e F=>AY N a h f R e F
theorem WJ {b:Γ} {a:Sl} (h:UP b a R F):ν 13 #[Y9 b,Y7 a] F R:=Rx.Λ (.Y2 (.Y2 (.J Y6 [] (.Y2 (.L [(6,.int .i64)] (.Y2 (.J Y6 [] (.J Y6 [(7,.ptr)] .N (.Y2 (.J Y6 [] (.Y2 (.L [(9,.int .i64)] (.Y2 (.T (.Y2 (.J Y6 [] .N .N)) .N)))) .N))) .N)))) .N))) h
def Il (R:VR) (F:PH):Prop:=R (Za Y8) F
def AZ (i:Ω) (b h:Sl) (R:VR) (a:Int) (F:PH):Prop:=Bc (a<(b.len:Int)) (Ix b a λc=>Lr F 2 (Zb c (Zd a*2)) λd=>Ix h a λe=>Lr F 2 (Zb e (Zd a*2)) λf=>Cbo 50 #[Y9 d,Y9 f] F λg F=>Bb ((!g)) (R (Za Y6) F) (i (i64.wrap (a+1)) F)) (Il R F)
def UQ (a b:Sl) (R:VR) (F:PH):Prop:=Bc ((a.len:Int)≠(b.len:Int)) (R (Za Y6) F) (Lp 0 F λN c F=>AZ N a b R c F)
theorem WL {a:Sl} {b:Sl} (h:UQ a b R F):ν 18 #[Y7 a,Y7 b] F R:=Rx.Λ (.Y2 (.Y2 (.J Y6 [] (.Y2 (.L [(5,.int .i64)] .N)) .N))) h
def Im (a:Sl) (R:VR) (F:PH):Prop:=R (Zh #[Y7 a,(vi 0)]) F
def A0 (_:Bool->Ψ) (f:Bool->Ω) (_:Nat) (_ _ _:Sl) (b:Int) (a:Bool) (_:VR) (F:PH):Prop:=f a (i64.wrap (b+1)) F
def In (p:Bool->Ψ) (q:Bool->Ω) (e:Nat) (f g c:Sl) (R:VR) (a:Bool) (b:Int) (F:PH):Prop:=Ls F (Am e 5) λk=>Bc (b<(k.len:Int)) (Lr F 9 (Am e 0) λh=>Lr F 9 (Am e 0) λl=>Ls F (Am e 5) λd=>Ix d b λi=>Ls F (Zb (Zb i (Zd b*13)) 2) λj=>Ca 70 #[Y9 l,(vi b)] F λm F=>F.cell (Zb (Zb i (Zd b*13)) 2)=Y3 (Y7 j)/\F.cell (Am e 5)=Y3 (Y7 d)/\F.row (Am e 0) h/\Ca 69 #[Y9 m,Y7 j,Y7 g,Za Y6] F λn F=>F.cell (Am e 5)=Y3 (Y7 d)/\F.row (Am e 0) h/\Cbo 76 #[Y9 h,(vi b),Y9 n,Y7 f,Y7 c] F λo F=>F.cell (Am e 5)=Y3 (Y7 d)/\Bb (a) (A0 p q e f g c b Y8 R F) (A0 p q e f g c b o R F)) (p a F)
def Io (i:Bool->Ψ) (j:Nat) (e f c:Sl) (R:VR) (b:Bool) (F:PH):Prop:=Bb (b) ((∃(h:Nat->Bool->Ω) (g:Nat),h g Y6 0 F/\∀g a d F,h g a d F-> In i (nx2 h g) j e f c R a d F)) (Im c R F)
def A1 (e:Nat) (c d b:Sl) (R:VR) (F:PH):Prop:=Lp Y8 F λN a F=>Io N e c d b R a F
def Ip (k:Sl->Ω) (i:Nat) (b c:Sl) (R:VR) (a:Sl) (d:Int) (F:PH):Prop:=Ls F (Am i 4) λe=>Bc (d<(e.len:Int)) (Ls F (Am i 3) λf=>Cs 68 #[(vi (f.len:Int))] F λg F=>Nb F (Y4 #[Y7 g] 39) λj F=>Ap 46 #[Y7 a,Y7 (Sb j 1)] F λh F=>k h (i64.wrap (d+1)) F) (A1 i b c a R F)
def UR (k:Γ) (R:VR) (F:PH):Prop:=Nb F (Y4 k 37) λi F=>Lr F 9 (Am i 0) λc=>Ci 55 #[Y9 c] F λb F=>Bc (b≠0) (R (Zh #[Y7 Zi,(vi b)]) F) (Lr F 9 (Am i 0) λd=>Cs 56 #[Y9 d,Za Y8] F λe F=>Lr F 9 (Am i 0) λf=>Cs 56 #[Y9 f,Za Y6] F λg F=>(∃(l:Nat->Sl->Ω) (j:Nat),l j Zi 0 F/\∀j a h F,l j a h F-> Ip (nx2 l j) i e g R a h F))
theorem WM {a:Γ} (h:UR a R F):ν 26 #[Y9 a] F R:=Rx.Λ (.Y2 (.Y2 (.Y2 (.Y2 (.Y2 (.Y2 (.J Y6 [(7,.sl)] (.Y2 (.L [(7,.sl),(8,.int .i64)] .N)) (.J Y6 [] (.Y2 (.L [(9,.bool)] (.Y2 (.Y2 (.Y2 (.L [(9,.bool),(10,.int .i64)] (.Y2 (.J Y6 [(9,.bool)] .N .N)))))))) .N)))))))) h
def Iq (a:Sl) (R:VR) (F:PH):Prop:=R (Y7 a) F
def A2 (_:Bool->Ψ) (e:Bool->Ω) (_:Bool) (_:Nat) (_:Sl) (c:Int) (a:Bool) (_:VR) (F:PH):Prop:=e a (i64.wrap (c+1)) F
def sP (m:Bool->Ψ) (n:Bool->Ω) (a:Bool) (k:Nat) (c:Sl) (b:Bool) (d:Int) (l:Θ) (R:VR) (F:PH):Prop:=Ls F (Am k 5) λe=>Ix e d λg=>Li F (Zb (Zb g (Zd d*13)) 1) λh=>∃f,l=Y3 f/\Lr F 2 f λi=>Cbo 61 #[Y7 c,(vi h),Y9 i] F λj F=>F.cell (Am k 5)=Y3 (Y7 e)/\Bb (b) (A2 m n a k c d Y8 R F) (A2 m n a k c d j R F)
def Ir (r:Bool->Ψ) (s:Bool->Ω) (b:Bool) (g:Nat) (d:Sl) (R:VR) (a:Bool) (c:Int) (F:PH):Prop:=Ls F (Am g 5) λp=>Bc (c<(p.len:Int)) (Lr F 9 (Am g 0) λl=>Ls F (Am g 5) λe=>Ix e c λh=>Ls F (Zb (Zb h (Zd c*13)) 2) λf=>((Ca 70 #[Y9 l,(vi c)] F λm F=>F.cell (Zb (Zb h (Zd c*13)) 2)=Y3 (Y7 f)/\F.cell (Am g 5)=Y3 (Y7 e)/\((Ca 69 #[Y9 m,Y7 f,Y7 d,Za b] F λq F=>F.cell (Am g 5)=Y3 (Y7 e)/\Nb F (Y4 zD 31) λt F=>au F (Am t 0) 2 q λF=>sP r s b g d a c (Y3 (Am t 0)) R F)/\(Nb F (Y4 zD 31) λn F=>Ca 69 #[Y9 m,Y7 f,Y7 d,Za b] F λi F=>F.cell (Am g 5)=Y3 (Y7 e)/\au F (Am n 0) 2 i λF=>sP r s b g d a c (Y3 (Am n 0)) R F)))/\(Nb F (Y4 zD 31) λo F=>Ca 70 #[Y9 l,(vi c)] F λj F=>F.cell (Zb (Zb h (Zd c*13)) 2)=Y3 (Y7 f)/\F.cell (Am g 5)=Y3 (Y7 e)/\Ca 69 #[Y9 j,Y7 f,Y7 d,Za b] F λk F=>F.cell (Am g 5)=Y3 (Y7 e)/\au F (Am o 0) 2 k λF=>sP r s b g d a c (Y3 (Am o 0)) R F))) (r a F)
def Is (h:Bool->Ψ) (c:Bool) (i:Nat) (d:Sl) (R:VR) (b:Bool) (F:PH):Prop:=Bb (b) ((∃(g:Nat->Bool->Ω) (f:Nat),g f Y6 0 F/\∀f a e F,g f a e F-> Ir h (nx2 g f) c i d R a e F)) (Iq d R F)
def US (e:Γ) (b:Bool) (R:VR) (F:PH):Prop:=Nb F (Y4 e 37) λf F=>Ls F (Am f 4) λc=>Cs 68 #[(vi (c.len:Int))] F λd F=>Lp Y8 F λN a F=>Is N b f d R a F
theorem WN {b:Γ} {a:Bool} (h:US b a R F):ν 56 #[Y9 b,Za a] F R:=Rx.Λ (.Y2 (.Y2 (.J Y6 [] (.Y2 (.L [(6,.bool)] (.Y2 (.Y2 (.Y2 (.L [(6,.bool),(7,.int .i64)] (.Y2 (.J Y6 [(6,.bool)] (.J Y6 [(8,.ptr)] .N .N) .N)))))))) .N))) h
def wZ (b:Sl) (c:Int) (d:Θ) (R:VR) (F:PH):Prop:=∃a,d=Y3 a/\Lr F 2 a λe=>Ix b c λf=>Lr F 2 (Zb f (Zd c*2)) λg=>Cbo 50 #[Y9 e,Y9 g] F λh F=>Bb (h) (R (Za Y6) F) (Lr F 2 a λi=>Ix b c λj=>au F (Zb j (Zd c*2)) 2 i λF=>R (Za Y8) F)
def UT (a:Sl) (b:Int) (i:Γ) (R:VR) (F:PH):Prop:=Nb F (Y4 i 31) λk F=>Ix a b λg=>Lr F 2 (Zb g (Zd b*2)) λd=>Lr F 2 (Am k 0) λe=>((Ca 123 #[Y9 d,Y9 e] F λh F=>Nb F (Y4 zD 31) λj F=>au F (Am j 0) 2 h λF=>wZ a b (Y3 (Am j 0)) R F)/\(Nb F (Y4 zD 31) λf F=>Ca 123 #[Y9 d,Y9 e] F λc F=>au F (Am f 0) 2 c λF=>wZ a b (Y3 (Am f 0)) R F))
theorem WO {a:Sl} {b:Int} {c:Γ} (h:UT a b c R F):ν 61 #[Y7 a,(vi b),Y9 c] F R:=Rx.Λ (.Y2 (.J Y6 [(7,.ptr)] .N .N)) h
def It (a:Sl) (R:VR) (F:PH):Prop:=R (Y7 a) F
def w6 (f:Ω) (e:Int) (b:Sl) (R:VR) (a:Int) (F:PH):Prop:=Bc (a<e) (Ca 34 #[Za Y6] F λc F=>Ix b a λd=>au F (Zb d (Zd a*2)) 2 c λF=>f (i64.wrap (a+1)) F) (It b R F)
def UU (a:Int) (R:VR) (F:PH):Prop:=aF prog (Instr.makeSlice 39 (vi a) (vi a)) F λv F=>∃b,v=(Y7 b)/\Lp 0 F λN c F=>w6 N a b R c F
theorem WP {a:Int} (h:UU a R F):ν 68 #[(vi a)] F R:=Rx.Λ (.Y2 (.Y2 (.J Y6 [] (.Y2 (.L [(4,.int .i64)] .N)) .N))) h
def Iu (c b:Nat) (R:VR) (F:PH):Prop:=Lr F 2 (Am c 0) λa=>au F (Am b 0) 2 a λF=>Rr 2 (Am b 0) R F
def sQ (d:Ω) (_ _:Sl) (_:Bool) (_ _:Nat) (c:Int) (_:VR) (F:PH):Prop:=d (i64.wrap (c+1)) F
def A3 (p:Ω) (d b:Sl) (a:Bool) (g o:Nat) (R:VR) (c:Int) (F:PH):Prop:=Bc (c<(d.len:Int)) (Ix d c λh=>Lb F (Zb h (Zd c*2)) λi=>Bb ((!i)) (Lr F 2 (Am g 0) λj=>Ix d c λf=>Li F (Zb (Zb f (Zd c*2)) 1) λe=>Ix b e λk=>Lr F 2 (Zb k (Zd e*2)) λl=>Ca 45 #[Y9 j,Y9 l] F λm F=>F.cell (Zb (Zb f (Zd c*2)) 1)=Y3 (vi e)/\au F (Am g 0) 2 m λF=>sQ p d b a g o c R F) (Bb (a) (Ca 34 #[Za Y6] F λn F=>au F (Am g 0) 2 n λF=>sQ p d b a g o c R F) (sQ p d b a g o c R F))) (Iu g o R F)
def UV (c:Γ) (d b:Sl) (a:Bool) (R:VR) (F:PH):Prop:=Nb F (Y4 c 31) λf F=>Nb F (Y4 zD 31) λg F=>Lp 0 F λN e F=>A3 N d b a f g R e F
theorem WQ {c:Γ} {d:Sl} {b:Sl} {a:Bool} (h:UV c d b a R F):ν 69 #[Y9 c,Y7 d,Y7 b,Za a] F R:=Rx.Λ (.Y2 (.J Y6 [] (.Y2 (.L [(9,.int .i64)] (.Y2 (.J Y6 [] .N .N)))) .N)) h
def Iv (d:Nat) (c:Θ) (R:VR) (F:PH):Prop:=∃a,c=Y3 a/\Lr F 2 a λb=>au F (Am d 0) 2 b λF=>Rr 2 (Am d 0) R F
def w7 (c:Ω) (_ _:Nat) (_:Θ) (_:Sl) (a:Int) (_:VR) (F:PH):Prop:=c (i64.wrap (a+1)) F
def A4 (p:Ω) (n o:Nat) (g:Θ) (b:Sl) (R:VR) (c:Int) (F:PH):Prop:=Bc (c<(b.len:Int)) (Ix b c λh=>Lb F (Zb h (Zd c*2)) λi=>Bb (i) (∃a,g=Y3 a/\Lr F 2 a λj=>Ls F (Am n 3) λe=>Ix b c λf=>Li F (Zb (Zb f (Zd c*2)) 1) λd=>Ix e d λk=>Lr F 2 (Zb (Zb k (Zd d*7)) 5) λl=>Ca 45 #[Y9 j,Y9 l] F λm F=>F.cell (Zb (Zb f (Zd c*2)) 1)=Y3 (vi d)/\F.cell (Am n 3)=Y3 (Y7 e)/\au F a 2 m λF=>w7 p n o (Y3 a) b c R F) (w7 p n o g b c R F)) (Iv o g R F)
def w8 (a:Int) (g h:Nat) (e:Θ) (R:VR) (F:PH):Prop:=Ls F (Am g 5) λb=>Ix b a λc=>Ls F (Zb (Zb c (Zd a*13)) 2) λd=>Lp 0 F λN f F=>A4 N g h e d R f F
def UW (j:Γ) (b:Int) (R:VR) (F:PH):Prop:=Nb F (Y4 j 37) λf F=>Nb F (Y4 zD 31) λk F=>Lr F 2 (Am f 1) λg=>Ls F (Am f 5) λa=>Ix a b λh=>Lr F 2 (Zb (Zb h (Zd b*13)) 3) λd=>((Ca 45 #[Y9 g,Y9 d] F λi F=>F.cell (Am f 5)=Y3 (Y7 a)/\Nb F (Y4 zD 31) λl F=>au F (Am l 0) 2 i λF=>w8 b f k (Y3 (Am l 0)) R F)/\(Nb F (Y4 zD 31) λe F=>Ca 45 #[Y9 g,Y9 d] F λc F=>F.cell (Am f 5)=Y3 (Y7 a)/\au F (Am e 0) 2 c λF=>w8 b f k (Y3 (Am e 0)) R F))
theorem WR {a:Γ} {b:Int} (h:UW a b R F):ν 70 #[Y9 a,(vi b)] F R:=Rx.Λ (.Y2 (.J Y6 [(5,.ptr)] .N (.Y2 (.J Y6 [] (.Y2 (.L [(7,.int .i64)] (.Y2 (.J Y6 [(5,.ptr)] .N .N)))) .N)))) h
def Iw (a:Bool) (R:VR) (F:PH):Prop:=R (Za a) F
def Iy (e:Bool->Ω) (_ _:Sl) (_ _ _:Nat) (b:Int) (a:Bool) (_:VR) (F:PH):Prop:=e a (i64.wrap (b+1)) F
def A5 (_ g:Bool->Ω) (_ _:Sl) (_ _ _:Nat) (_:Int) (_:Nat) (_:Θ) (c:Int) (a:Bool) (_:VR) (F:PH):Prop:=g a (i64.wrap (c+1)) F
def w9 (s t:Bool->Ω) (g e:Sl) (u v:Nat) (b:Bool) (h:Nat) (k:Int) (n:Nat) (f:Θ) (i:Int) (j:Θ) (R:VR) (F:PH):Prop:=Li F (Am h 1) λc=>Ix e c λl=>Ls F (Zb l (Zd c*1)) λm=>∃a,f=Y3 a/\Lr F 2 a λo=>∃d,j=Y3 d/\Lr F 2 d λp=>Ca 45 #[Y9 o,Y9 p] F λq F=>F.cell (Zb l (Zd c*1))=Y3 (Y7 m)/\F.cell (Am h 1)=Y3 (vi c)/\Cbo 61 #[Y7 m,(vi i),Y9 q] F λr F=>F.cell (Am h 1)=Y3 (vi c)/\Bb (b) (A5 s t g e u v h k n (Y3 a) i Y8 R F) (A5 s t g e u v h k n (Y3 a) i r R F)
def xa (q r:Bool->Ω) (e d:Sl) (s t:Nat) (a:Bool) (k:Nat) (i:Int) (h:Nat) (c:Θ) (f:Int) (g:Θ) (R:VR) (F:PH):Prop:=Lb F (Am h 0) λl=>Bb ((!l)) (Li F (Am h 1) λj=>Ix d j λm=>Ls F (Zb m (Zd j*1)) λn=>Ix n f λo=>Lr F 2 (Zb o (Zd f*2)) λp=>∃b,g=Y3 b/\au F b 2 p λF=>w9 q r e d s t a k i h c f (Y3 b) R F) (w9 q r e d s t a k i h c f g R F)
def Iz (q s:Bool->Ω) (c d:Sl) (p r j:Nat) (f:Int) (h:Nat) (b:Θ) (R:VR) (a:Bool) (e:Int) (F:PH):Prop:=Ls F (Am p 3) λk=>Bc (e<(k.len:Int)) (Lb F (Am h 0) λl=>Bb (l) (Li F (Am h 1) λm=>Ca 34 #[Za (decide (m=e))] F λn F=>Nb F (Y4 zD 31) λo F=>au F (Am o 0) 2 n λF=>xa q s c d p r a j f h b e (Y3 (Am o 0)) R F) (Ca 34 #[Za Y6] F λi F=>Nb F (Y4 zD 31) λg F=>au F (Am g 0) 2 i λF=>xa q s c d p r a j f h b e (Y3 (Am g 0)) R F)) (Iy q c d p r j f a R F)
def xd (l:Bool->Ω) (d f:Sl) (m n:Nat) (b:Bool) (i:Nat) (g:Int) (j:Nat) (c:Θ) (R:VR) (F:PH):Prop:=(∃(k:Nat->Bool->Ω) (h:Nat),k h b 0 F/\∀h a e F,k h a e F-> Iz l (nx2 k h) d f m n i g j c R a e F)
def IA (r:Bool->Ω) (c f:Sl) (s q e:Nat) (R:VR) (a:Bool) (b:Int) (F:PH):Prop:=Ls F (Am e 2) λk=>Bc (b<(k.len:Int)) (Ls F (Am e 2) λl=>Ix l b λm=>Lr F 2 (Zb m (Zd b*2)) λn=>Nb F (Y4 (#[Za Y6,vi 0]) 63) λj F=>au F (Am j 0) 2 n λF=>Lr F 2 (Am q 0) λi=>Ls F (Am e 2) λd=>0<=b/\0<=(Zd b)/\(Zd b)<=d.cap/\((Ca 69 #[Y9 i,Y7 (Sl.cut d 2 0 (Zd b) d.cap),Y7 c,Za Y8] F λo F=>F.cell (Am e 2)=Y3 (Y7 d)/\Nb F (Y4 zD 31) λp F=>au F (Am p 0) 2 o λF=>xd r c f s q a e b j (Y3 (Am p 0)) R F)/\(Nb F (Y4 zD 31) λg F=>Ca 69 #[Y9 i,Y7 (Sl.cut d 2 0 (Zd b) d.cap),Y7 c,Za Y8] F λh F=>F.cell (Am e 2)=Y3 (Y7 d)/\au F (Am g 0) 2 h λF=>xd r c f s q a e b j (Y3 (Am g 0)) R F))) (Iw a R F)
def UX (k:Γ) (e:Int) (l:Γ) (b d:Sl) (R:VR) (F:PH):Prop:=Nb F (Y4 k 37) λn F=>Nb F (Y4 l 31) λo F=>Ls F (Am n 5) λf=>Ix f e λg=>Lr F 13 (Zb g (Zd e*13)) λh=>Nb F (Y4 zP 55) λi F=>au F (Am i 0) 13 h λF=>(∃(m:Nat->Bool->Ω) (j:Nat),m j Y6 0 F/\∀j a c F,m j a c F-> IA (nx2 m j) b d n o i R a c F)
theorem WT {c:Γ} {d:Int} {e:Γ} {a:Sl} {b:Sl} (h:UX c d e a b R F):ν 76 #[Y9 c,(vi d),Y9 e,Y7 a,Y7 b] F R:=Rx.Λ (.Y2 (.Y2 (.Y2 (.J Y6 [(11,.bool)] (.Y2 (.L [(11,.bool),(13,.int .i64)] (.Y2 (.J Y6 [(11,.bool)] (.Y2 (.J Y6 [(15,.ptr)] .N (.Y2 (.L [(11,.bool),(16,.int .i64)] (.Y2 (.J Y6 [(11,.bool),(15,.ptr)] (.J Y6 [(17,.ptr)] .N (.J Y6 [(17,.ptr)] .N .N)) .N)))))) .N)))) .N)))) h
variable {R:VR} {F:PH}
set_option maxHeartbeats 4000000
def NS (a:Bool) (R:VR) (F:PH):Prop:=R (Za a) F
def IB (j:Ω) (c:Bool) (b d:Sl) (R:VR) (a:Int) (F:PH):Prop:=Bc (a<(b.len:Int)) (Ix b a λe=>Ls F (Zb e (Zd a*1)) λf=>Ix d a λg=>Ls F (Zb g (Zd a*1)) λh=>Cbo 18 #[Y7 f,Y7 h] F λi F=>Bb ((!i)) (R (Za Y6) F) (j (i64.wrap (a+1)) F)) (NS c R F)
def bQ4 (l:Γ) (e:Sl) (R:VR) (F:PH):Prop:=Nb F (Y4 l 26) λn F=>Cbo 12 #[] F λf F=>Lr F 5 (Am n 0) λg=>Ca 13 #[Y9 g,Y7 e] F λh F=>Nb F (Y4 zG 37) λm F=>au F (Am m 0) 9 h λF=>Lr F 9 (Am m 0) λi=>ν 25 #[Y9 i] F λv F=>∃c,∃a,v=(Zh #[Y7 c,(vi a)])/\Lr F 9 (Am m 0) λj=>ν 26 #[Y9 j] F λv F=>∃d,∃b,v=(Zh #[Y7 d,(vi b)])/\Bc (a≠b) (R (Za Y6) F) (Bc ((c.len:Int)≠(d.len:Int)) (R (Za Y6) F) (Lp 0 F λN k F=>IB N f c d R k F))
theorem cQ4 {b:Γ} {a:Sl} (h:bQ4 b a R F):ν 4 #[Y9 b,Y7 a] F R:=Rx.Λ (.Y2 (.Y2 (.Y2 (.Y2 (.Y2 (.Y2 (.J Y6 [] (.Y2 (.L [(11,.int .i64)] .N)) .N))))))) h
def sR (e t A z:Nat) (p q:Bool) (R:VR) (F:PH):Prop:=Lr F 2 (Am t 0) λc=>Lr F 2 (Am e 0) λb=>Lr F 2 (Am e 0) λa=>Ca 49 #[(vi 1)] F λf F=>F.row (Am e 0) a/\F.row (Am e 0) b/\F.row (Am t 0) c/\Ca 49 #[(vi 0)] F λg F=>F.row (Am e 0) a/\F.row (Am e 0) b/\F.row (Am t 0) c/\Ca 49 #[(vi 1)] F λh F=>F.row (Am e 0) a/\F.row (Am e 0) b/\F.row (Am t 0) c/\f.size=2/\g.size=2/\h.size=2/\Nb F (Y4 (wr (wr (wr (#[Za Y6,vi 0,.bool Y6,vi 0,.bool Y6,vi 0]:Γ) 0 f.toList) 2 g.toList) 4 h.toList) 63) λu F=>Ca 47 #[Zg ⟨#[115]⟩,(vi 0),Y9 c,Y7 (Sb u 3)] F λi F=>F.row (Am e 0) a/\F.row (Am e 0) b/\Ca 48 #[(vi 0)] F λj F=>F.row (Am e 0) a/\F.row (Am e 0) b/\j.size=2/\Nb F (Y4 j 63) λw F=>Ca 47 #[Zg ⟨#[116]⟩,(vi 0),Y9 b,Y7 (Sb w 1)] F λk F=>F.row (Am e 0) a/\Ca 47 #[Zg ⟨#[117]⟩,(vi 1),Y9 a,Y7 Zi] F λl F=>i.size=13/\k.size=13/\l.size=13/\Nb F (Y4 (wr (wr (wr (#[Zg ⟨#[]⟩,vi 0,.slice Y5 0 0,.slice Y5 0 0,vi 0,.bool Y6,vi 0,.slice Y5 0 0,.bool Y6,vi 0,vi 0,vi 0,vi 0,.string ⟨#[]⟩,vi 0,.slice Y5 0 0,.slice Y5 0 0,vi 0,.bool Y6,vi 0,.slice Y5 0 0,.bool Y6,vi 0,vi 0,vi 0,vi 0,.string ⟨#[]⟩,vi 0,.slice Y5 0 0,.slice Y5 0 0,vi 0,.bool Y6,vi 0,.slice Y5 0 0,.bool Y6,vi 0,vi 0,vi 0,vi 0]:Γ) 0 i.toList) 13 k.toList) 26 l.toList) 55) λx F=>sto F (Am z 5) (Y7 (Sb x 3)) λF=>Lr F 9 (Am z 0) λr=>ν 19 #[Y9 r] F λv F=>∃m,∃d,v=(Zh #[Y7 m,(vi d)])/\Bb (p) (Bb (q) (Bc (d=0) (Lr F 2 (Am t 0) λn=>Lr F 2 (Am A 0) λo=>n.size=2/\o.size=2/\Nb F (Y4 (wr (wr zL 0 n.toList) 2 o.toList) 31) λy F=>Cbo 18 #[Y7 m,Y7 (Sb y 2)] F λs F=>R (Za s) F) (R (Za Y6) F)) (R (Za Y6) F)) (R (Za Y6) F)
def kX (e p B u:Nat) (b:Bool) (R:VR) (F:PH):Prop:=Lr F 2 (Am e 0) λf=>Lr F 2 (Am p 0) λc=>Lr F 2 (Am e 0) λa=>Ca 49 #[(vi 1)] F λg F=>F.row (Am e 0) a/\F.row (Am p 0) c/\F.row (Am e 0) f/\g.size=2/\Nb F (Y4 g 63) λw F=>Ca 47 #[Zg ⟨#[115]⟩,(vi 0),Y9 f,Y7 (Sb w 1)] F λh F=>F.row (Am e 0) a/\F.row (Am p 0) c/\Ca 49 #[(vi 0)] F λi F=>F.row (Am e 0) a/\F.row (Am p 0) c/\i.size=2/\Nb F (Y4 i 63) λx F=>Ca 47 #[Zg ⟨#[116]⟩,(vi 1),Y9 c,Y7 (Sb x 1)] F λj F=>F.row (Am e 0) a/\Ca 48 #[(vi 0)] F λk F=>F.row (Am e 0) a/\k.size=2/\Nb F (Y4 k 63) λy F=>Ca 47 #[Zg ⟨#[117]⟩,(vi 1),Y9 a,Y7 (Sb y 1)] F λl F=>h.size=13/\j.size=13/\l.size=13/\Nb F (Y4 (wr (wr (wr (#[Zg ⟨#[]⟩,vi 0,.slice Y5 0 0,.slice Y5 0 0,vi 0,.bool Y6,vi 0,.slice Y5 0 0,.bool Y6,vi 0,vi 0,vi 0,vi 0,.string ⟨#[]⟩,vi 0,.slice Y5 0 0,.slice Y5 0 0,vi 0,.bool Y6,vi 0,.slice Y5 0 0,.bool Y6,vi 0,vi 0,vi 0,vi 0,.string ⟨#[]⟩,vi 0,.slice Y5 0 0,.slice Y5 0 0,vi 0,.bool Y6,vi 0,.slice Y5 0 0,.bool Y6,vi 0,vi 0,vi 0,vi 0]:Γ) 0 h.toList) 13 j.toList) 26 l.toList) 55) λz F=>sto F (Am u 5) (Y7 (Sb z 3)) λF=>Lr F 9 (Am u 0) λq=>ν 19 #[Y9 q] F λv F=>∃m,∃d,v=(Zh #[Y7 m,(vi d)])/\Bc (d=0) (Lr F 2 (Am p 0) λn=>Lr F 2 (Am p 0) λo=>n.size=2/\o.size=2/\Nb F (Y4 (wr (wr zL 0 n.toList) 2 o.toList) 31) λA F=>Cbo 18 #[Y7 m,Y7 (Sb A 2)] F λr F=>Bb (r) (Lr F 9 (Am u 0) λs=>Ci 23 #[Y9 s] F λt F=>sR e p B u b (decide (t=60)) R F) (sR e p B u b Y6 R F)) (sR e p B u b Y6 R F)
def UY (R:VR) (F:PH):Prop:=Ca 34 #[Za Y8] F λS F=>Nb F (Y4 zD 31) λp F=>au F (Am p 0) 2 S λF=>Ca 44 #[(vi 0)] F λT F=>Nb F (Y4 zD 31) λd F=>au F (Am d 0) 2 T λF=>Ca 44 #[(vi 1)] F λU F=>Nb F (Y4 zD 31) λq F=>au F (Am q 0) 2 U λF=>Lr F 2 (Am d 0) λV=>Lr F 2 (Am q 0) λW=>Ca 45 #[Y9 V,Y9 W] F λX F=>Nb F (Y4 zD 31) λb4 F=>au F (Am b4 0) 2 X λF=>Ca 34 #[Za Y6] F λY F=>Nb F (Y4 zD 31) λD F=>au F (Am D 0) 2 Y λF=>Nb F (Y4 #[Zg ⟨#[83]⟩,Zg ⟨#[84]⟩] 9) λak F=>Ca 46 #[Y7 (Sb ak 2)] F λZ F=>Nb F (Y4 zG 37) λk F=>au F (Am k 0) 9 Z λF=>Lr F 2 (Am p 0) λl=>Lr F 2 (Am d 0) λe=>Lr F 2 (Am q 0) λa=>Ca 48 #[(vi 0)] F λr F=>F.row (Am q 0) a/\F.row (Am d 0) e/\F.row (Am p 0) l/\Ca 49 #[(vi 1)] F λs F=>F.row (Am q 0) a/\F.row (Am d 0) e/\F.row (Am p 0) l/\r.size=2/\s.size=2/\Nb F (Y4 (wr (wr (#[Za Y6,vi 0,.bool Y6,vi 0]:Γ) 0 r.toList) 2 s.toList) 63) λal F=>Ca 47 #[Zg ⟨#[115]⟩,(vi 0),Y9 l,Y7 (Sb al 2)] F λt F=>F.row (Am q 0) a/\F.row (Am d 0) e/\Ca 47 #[Zg ⟨#[116]⟩,(vi 1),Y9 e,Y7 Zi] F λu F=>F.row (Am q 0) a/\Ca 48 #[(vi 1)] F λw F=>F.row (Am q 0) a/\Ca 49 #[(vi 1)] F λx F=>F.row (Am q 0) a/\w.size=2/\x.size=2/\Nb F (Y4 (wr (wr (#[Za Y6,vi 0,.bool Y6,vi 0]:Γ) 0 w.toList) 2 x.toList) 63) λam F=>Ca 47 #[Zg ⟨#[117]⟩,(vi 1),Y9 a,Y7 (Sb am 2)] F λy F=>t.size=13/\u.size=13/\y.size=13/\Nb F (Y4 (wr (wr (wr (#[Zg ⟨#[]⟩,vi 0,.slice Y5 0 0,.slice Y5 0 0,vi 0,.bool Y6,vi 0,.slice Y5 0 0,.bool Y6,vi 0,vi 0,vi 0,vi 0,.string ⟨#[]⟩,vi 0,.slice Y5 0 0,.slice Y5 0 0,vi 0,.bool Y6,vi 0,.slice Y5 0 0,.bool Y6,vi 0,vi 0,vi 0,vi 0,.string ⟨#[]⟩,vi 0,.slice Y5 0 0,.slice Y5 0 0,vi 0,.bool Y6,vi 0,.slice Y5 0 0,.bool Y6,vi 0,vi 0,vi 0,vi 0]:Γ) 0 t.toList) 13 u.toList) 26 y.toList) 55) λan F=>sto F (Am k 5) (Y7 (Sb an 3)) λF=>Lr F 9 (Am k 0) λaa=>ν 14 #[Y9 aa] F λv F=>∃z,∃f,v=(Zh #[Y7 z,(vi f)])/\Lr F 9 (Am k 0) λab=>ν 16 #[Y9 ab] F λv F=>∃A,∃g,v=(Zh #[Y7 A,(vi g)])/\Lr F 9 (Am k 0) λac=>ν 25 #[Y9 ac] F λv F=>∃h,∃i,v=(Zh #[Y7 h,(vi i)])/\Lr F 9 (Am k 0) λad=>ν 21 #[Y9 ad] F λv F=>∃m,∃j,v=(Zh #[Y7 m,(vi j)])/\Bc (f≠0) (R (Za Y6) F) (Bc (g≠0) (R (Za Y6) F) (Bc (i≠0) (R (Za Y6) F) (Bc (j≠0) (R (Za Y6) F) (Bc ((h.len:Int)≠2) (R (Za Y6) F) (Ix h 1 λae=>Ls F (Zb ae (Zd 1*1)) λaf=>Ls F (Am k 3) λag=>Bc ((af.len:Int)≠(ag.len:Int)) (R (Za Y6) F) (Bc ((m.len:Int)≠3) (R (Za Y6) F) (Lr F 2 (Am D 0) λB=>Lr F 2 (Am d 0) λC=>B.size=2/\C.size=2/\Nb F (Y4 (wr (wr zL 0 B.toList) 2 C.toList) 31) λao F=>Cbo 18 #[Y7 z,Y7 (Sb ao 2)] F λE F=>Bb (E) (Lr F 2 (Am d 0) λn=>Lr F 2 (Am d 0) λo=>n.size=2/\o.size=2/\Nb F (Y4 (wr (wr zL 0 n.toList) 2 o.toList) 31) λah F=>Cbo 18 #[Y7 A,Y7 (Sb ah 2)] F λG F=>Bb (G) (Ix h 1 λb=>Ls F (Zb b (Zd 1*1)) λc=>Ix c 1 λH=>Lr F 2 (Zb H (Zd 1*2)) λI=>Lr F 2 (Am b4 0) λJ=>Cbo 50 #[Y9 I,Y9 J] F λK F=>F.cell (Zb b (Zd 1*1))=Y3 (Y7 c)/\Bb (K) (Ix m 2 λL=>Lr F 2 (Zb L (Zd 2*2)) λM=>Lr F 2 (Am b4 0) λN=>Cbo 50 #[Y9 M,Y9 N] F λO F=>F.cell (Zb b (Zd 1*1))=Y3 (Y7 c)/\Bb (O) (Lr F 9 (Am k 0) λP=>Ci 23 #[Y9 P] F λQ F=>F.cell (Zb b (Zd 1*1))=Y3 (Y7 c)/\kX p d D k (decide (Q=0)) R F) (kX p d D k Y6 R F)) (kX p d D k Y6 R F)) (kX p d D k Y6 R F)) (kX p d D k Y6 R F))))))))
theorem WU (h:UY R F):ν 12 #[] F R:=Rx.Λ (.Y2 (.Y2 (.Y2 (.Y2 (.Y2 (.Y2 (.Y2 (.Y2 (.Y2 (.Y2 (.Y2 (.Y2 (.Y2 (.J Y6 [(15,.bool)] .N (.Y2 (.Y2 (.J Y6 [(18,.bool)] .N .N))))))))))))))))) h
def UZ (d:Int) (R:VR) (F:PH):Prop:=Nb F (Y4 zD 31) λe F=>ν 109 #[(vi d)] F λv F=>∃b,∃a,v=(Zh #[Y9 b,(vi a)])/\Nb F (Y4 zD 31) λf F=>au F (Am f 0) 2 b λF=>Lr F 2 (Am f 0) λc=>au F (Am e 0) 2 c λF=>Rr 2 (Am e 0) R F
theorem WV {a:Int} (h:UZ a R F):ν 44 #[(vi a)] F R:=Rx.Λ .N h
def U1 (b:ο) (c:Int) (e:Γ) (a:Sl) (R:VR) (F:PH):Prop:=Nb F (Y4 e 31) λg F=>Nb F (Y4 zP 55) λf F=>Lr F 2 (Am g 0) λd=>d.size=2/\au F (Am f 0) 13 (wr (Zl (Zl (Zl zP 0 (Zg b)) 1 (vi c)) 2 (Y7 a)) 3 d.toList) λF=>Rr 13 (Am f 0) R F
theorem WW {b:ο} {c:Int} {d:Γ} {a:Sl} (h:U1 b c d a R F):ν 47 #[Zg b,(vi c),Y9 d,Y7 a] F R:=Rx.Λ .N h
theorem jG (v:Nat) (hv:v<=63) (F:PH):ν 44 #[vi v] F λr F'=>lj (dia (tv v)) r F'/\F.le F':=by refine WV ?_;unfold UZ;refine (St.start F).new λb2 F1 h=> ?_;refine h.run (nD (v:Int)) λr G2 F2 hr l2 h=> ?_;rw [Ce (show v<64 by omega)] at hr;obtain ⟨w,rfl,hw⟩:=hr;refine ⟨w,_,rfl,?_⟩;refine h.var hw.st (λb3 G3 F3 l3 q3 h=> ?_) rfl hw.size;refine ⟨w,hw.size,ac (h.le _ _ q3),?_⟩;refine h.put0 (w':=w) hw.size rfl hw.st λF4 h=> ?_;exact ⟨w,hw.size,h.whole0,⟨w,rfl,(hw.le l3).le h.le⟩,aa l2 (aa l3 h.le)⟩
theorem dh (nm:ο) (left:Int) {s:Sl} {right:List Sy} {w:Γ} {d:Dia} {F:PH} (hs:RL F s right) (hd:DV F w d):ν 47 #[Zg nm,vi left,Y9 w,s.v] F λr F'=>(∃w,r=Y9 w/\Mem.rep F' (mkC nm left right d) w)/\F.le F':=by refine WW ?_;unfold U1;refine (St.start F).newG λb6 G1 F1 l1 q6 _ h=> ?_;refine h.new λb8 F2 h=> ?_;obtain ⟨n,rfl,hn⟩:=hd.out;refine ⟨_,rfl,ac (h.le _ _ q6),rfl,?_⟩;refine h.put0 (w':=(mkC nm left right d).arr s n Zi) rfl rfl (by simp [ak,Y7]) λF3 h=> ?_;have l:=aa l1 h.le;exact ⟨_,rfl,h.whole0,⟨_,rfl,s,n,Zi,rfl,hs.le l,hn.le l,RL.nil _⟩,l⟩
theorem dY {F:PH} {a b:Sl} {x y:List Dia} (ha:RL F a x) (hb:RL F b y) (hx:∀d∈x,Fit d.1.length) (hl:x.length<=1000000):ν 18 #[a.v,b.v] F λr F'=>r=Za (decide (x=y))/\F.le F':=by
 have ea:=ha.len;have eb:=hb.len;refine WL ?_;unfold UQ;refine ⟨λhne=>⟨?_,am _⟩,λhe=> ?_⟩
 ·rw [ι];intro e;rw [e] at ea;omega
 ·have hll:x.length=y.length:=by omega
  refine bh (AZ · a b _) x.length (λi F'=>F.le F'/\x.take i=y.take i) ⟨am _,by simp⟩ ?_;rintro i F1 N hi ⟨l1,het⟩ next;unfold AZ;refine ⟨λhlt=> ?_,λhge=> ?_⟩
  ·have hlt:i<x.length:=by omega
   refine ixc (ha.le l1) (by decide) (by omega) (by omega) λa1 c1 d hd hrow1 hc1=>⟨c1,Mem.len hc1,hrow1,?_⟩;refine ixc (hb.le l1) (by decide) (by omega) (by omega) λa2 c2 e he2 hrow2 hc2=>⟨c2,Mem.len hc2,hrow2,?_⟩;rw [N4] at hd he2;refine (gg (show DV F1 c1 d from hc1) (show DV F1 c2 e from hc2) (hx d (W7 hd))).mono ?_;rintro _ F2 ⟨rfl,l2⟩;refine ⟨_,rfl,λhn=> ?_,λhy=> ?_⟩
   ·refine ⟨?_,aa l1 l2⟩;rw [ι];intro e';rw [e'] at hd;rw [hd] at he2;cases he2;simp at hn
   ·have e':d=e:=by simpa using hy
    subst e';rw [aA hlt];exact next _ hlt ⟨aa l1 l2,by rw [dz hd,dz he2,het]⟩
  ·have e:i=x.length:=by omega
   subst e;unfold Il;refine ⟨?_,l1⟩;rw [Xg,hll,Xg] at het;rw [ζ het]
theorem WX {n:Nat} {z v w:Γ} (h1:v.size=n) (h2:w.size=n) (hz:z.size=n+n):(wr (wr z 0 v.toList) n w.toList).toList=v.toList++w.toList:=by have e1:=dM v.toList z.toList 0 (by rw [Xb,Xb];omega);rw [show z.toList.toArray=z by simp] at e1;rw [e1];have e2:=dM w.toList (z.toList.take 0++v.toList++z.toList.drop (0+v.toList.length)) n (by simp;omega);rw [e2];simp only [XY,XM,Xm,Xb,h1,h2];rw [Xs (by simp [h1]),Xf (by simp [h1]),List.drop_of_length_le (by simp;omega),XH]
theorem WY {n:Nat} {z v w u:Γ} (h1:v.size=n) (h2:w.size=n) (h3:u.size=n) (hz:z.size=n+n+n):(wr (wr (wr z 0 v.toList) n w.toList) (n+n) u.toList).toList=v.toList++w.toList++u.toList:=by have e1:=dM v.toList z.toList 0 (by rw [Xb,Xb];omega);rw [show z.toList.toArray=z by simp] at e1;rw [e1];have e2:=dM w.toList (z.toList.take 0++v.toList++z.toList.drop (0+v.toList.length)) n (by simp;omega);rw [e2];simp only [XY,XM,Xm,Xb,h1,h2];rw [Xs (by simp [h1]),Xf (by simp [h1])];have e3:=dM u.toList (v.toList++w.toList++List.drop (n+n) (v.toList++List.drop n z.toList)) (n+n) (by simp;omega);rw [e3];simp only [Xb,h3];rw [Xs (by simp;omega),Xf (by simp;omega),List.drop_of_length_le (by simp;omega),XH]
section
variable {α:Type} [Mem α] {b e n:Nat} {G:PH} {x y u:α} {v w t z:Γ}
theorem Di (q:G b=Y3 (Y4 v e)) (h1:Mem.rep G x v):RL G (Zj (Y3 (Zc b 0 Y5)) 1 1) [x]:=by have:=Mem.len h1;exact ⟨[v],.cons h1 .nil,RdS.new q (by rw [cJ,Xf];rw [Xb,this,YA];exact W8 _) (by rw [cJ,Xb,this,YA]) (W8 _)⟩
theorem uG (q:G b=Y3 (Y4 (wr (wr z 0 v.toList) n w.toList) e)) (hn:Mem.n α=n) (hz:z.size=n+n) (h1:Mem.rep G x v) (h2:Mem.rep G y w):RL G (Zj (Y3 (Zc b 0 Y5)) 2 2) [x,y]:=by
 subst hn;have s1:=Mem.len h1;have s2:=Mem.len h2;refine ⟨[v,w],.cons h1 (.cons h2 .nil),RdS.new q ?_ ?_ (W8 _)⟩
 ·rw [WX s1 s2 hz,bI,cJ,Xf];rw [Xa,Xb,Xb];omega
 ·rw [bI,cJ,Xa,Xb,Xb];omega
theorem Dk (q:G b=Y3 (Y4 (wr (wr (wr z 0 v.toList) n w.toList) (n+n) t.toList) e)) (hn:Mem.n α=n) (hz:z.size=n+n+n) (h1:Mem.rep G x v) (h2:Mem.rep G y w) (h3:Mem.rep G u t):RL G (Zj (Y3 (Zc b 0 Y5)) 3 3) [x,y,u]:=by
 subst hn;have s1:=Mem.len h1;have s2:=Mem.len h2;have s3:=Mem.len h3;refine ⟨[v,w,t],.cons h1 (.cons h2 (.cons h3 .nil)),RdS.new q ?_ ?_ (W8 _)⟩
 ·rw [WY s1 s2 s3 hz,bI,bI,cJ,<- XA,Xf];rw [Xa,Xa,Xb,Xb,Xb];omega
 ·rw [bI,bI,cJ,Xa,Xa,Xb,Xb,Xb];omega
end
theorem j7 {k:Nat} {t:Tr} (h:Sx k t) (hk:k<=6):Fit (dia t).1.length:=pI (h.small hk)
abbrev RT6 (F:PH):VR:=λr F'=>r=Za Y8/\F.le F'
structure SnK (F G:PH) (b1 b2 b5:Nat) (c n t s:Sl):Prop where
 lF:F.le G
 hT:Tab G
 q1:∃w,G b1=Y3 (Y4 w 31)/\DV G w aK
 q2:∃w,G b2=Y3 (Y4 w 31)/\DV G w (dia (tv 0))
 q5:∃w,G b5=Y3 (Y4 w 31)/\DV G w (dia (Y0 Y6))
 c:RL G c (cM nST).YY
 n:RL G n aK.1
 t:RL G t dN
 s:RL G s nST
section
variable {F G G' F1:PH} {b1 b2 b5 b6:Nat} {c n t s p:Sl}
theorem SnK.le (K:SnK F G b1 b2 b5 c n t s) (l:G.le G'):SnK F G' b1 b2 b5 c n t s:=
 ⟨aa K.lF l,K.hT.le l,by obtain ⟨w,a,b⟩:=K.q1;exact ⟨w,l _ _ a,b.le l⟩,by obtain ⟨w,a,b⟩:=K.q2;exact ⟨w,l _ _ a,b.le l⟩,by obtain ⟨w,a,b⟩:=K.q5;exact ⟨w,l _ _ a,b.le l⟩,K.c.le l,K.n.le l,K.t.le l,K.s.le l⟩
theorem SnK.gv (K:SnK F G b1 b2 b5 c n t s) {l:List Pr} (hp:RL G p l):GV G ((cM nST).arr c n t s p Zi Zi) (sgG l):=
 ⟨c,n,t,s,p,Zi,Zi,rfl,K.c,K.n,K.t,K.s,hp,RL.nil G,RL.nil G⟩
theorem Dl {S:Int->Tr} {t u:Tr} (h0:S 0=t) (h1:S 1=u):bK S 2=[dia t,dia u]:=by subst h0 h1;rfl
theorem fe:Sx 2 (tv 0):=Sx.tv (by decide) (by decide)
theorem IC {l:List Pr} (h:MG (sgG l)) (h0:l.length≠0) (h1:l.length<=3):Sz (sgG l):=h.sz (NR h0 h1)
theorem WZ (C:Int->Tr) (h:mT 2 2 sp2 (aD (sgG sp2)) C):bK C 2=[dia (tv 0),dia (tv 0)]:=by
 refine Dl (iT (h.sx 0) fe.1 λc=> ?_) (iT (h.sx 1) fe.1 λc=> ?_)
 ·rw [i9,<- AW (n:=0) (.inl rfl)];exact h.iff 0 c (by decide)
 ·rw [i9,<- AW (n:=1) (.inr rfl)];exact h.iff 1 c (by decide)
theorem W0 (C:Int->Tr) (h:mT 2 2 sp3 (aD (sgG sp3)) C):bK C 2=[dia (tv 0),dia (Y0 Y6)]:=by refine Dl (iT (h.sx 0) fe.1 λc=> ?_) (uF (h.sx 1) λc hc=>KN ((h.iff 1 c (by decide)).1 hc));rw [i9,<- KM];exact h.iff 0 c (by decide)
theorem KO {t u:Tr} (ht:Sx 2 t) (hu:Sx 2 u):∀d∈[dia t,dia u],Fit d.1.length:=λd hd=>by
 rcases W6.1 hd with rfl|hd
 ·exact j7 ht (by decide)
 ·rw [W5.1 hd];exact j7 hu (by decide)
theorem U2 (K:SnK F G b1 b2 b5 c n t s) (h:St G F1 [pt b6 (Y4 ((cM nST).arr c n t s p Zi Zi) 37)]):sR b1 b2 b5 b6 Y8 Y8 (RT6 F) F1:=by unfold sR;obtain ⟨w1,q1,d1⟩:=K.q1;obtain ⟨w2,q2,d2⟩:=K.q2;obtain ⟨w5,q5,d5⟩:=K.q5;have r1:∀{G' F':PH} {As:List (Ψ)},G.le G'->St G' F' As->F'.row (Zc b1 0 Y5) w1:=λl h=>ac (h.le _ _ (l _ _ q1));have r2:∀{G' F':PH} {As:List (Ψ)},G.le G'->St G' F' As->F'.row (Zc b2 0 Y5) w2:=λl h=>ac (h.le _ _ (l _ _ q2));have e:=am G;refine ⟨w2,d2.size,r2 e h,w1,d1.size,r1 e h,w1,d1.size,r1 e h,?_⟩;refine h.runv (iz 1 _) λG2 F2 l2 h=>⟨_,rfl,r1 l2 h,r1 l2 h,r2 l2 h,?_⟩;refine h.runv (iz 0 _) λG3 F3 l3 h=> ?_;have l3:=aa l2 l3;refine ⟨_,rfl,r1 l3 h,r1 l3 h,r2 l3 h,?_⟩;refine h.runv (iz 1 _) λG4 F4 l4 h=> ?_;have l4:=aa l3 l4;refine ⟨_,rfl,r1 l4 h,r1 l4 h,r2 l4 h,rfl,rfl,rfl,?_⟩;refine h.newG λb166 G5 F5 l5 q166 _ h=> ?_;have l5:=aa l4 l5;have hr1:RL G5 (Zj (Y3 (Zc b166 0 Y5)) 3 3) ([⟨Y6,1⟩,⟨Y6,0⟩,⟨Y6,1⟩]:List Sy):=Dk (n:=2) q166 rfl rfl rfl rfl rfl;refine h.run (dh ⟨#[115]⟩ 0 hr1 (d2.le l5)) λ_ G6 F6 hv6 l6 h=> ?_;obtain ⟨v6,rfl,hv6⟩:=hv6;have l6:=aa l5 l6;refine ⟨v6,rfl,r1 l6 h,r1 l6 h,?_⟩;refine h.runv (kL 0 _) λG7 F7 l7 h=> ?_;have l67:=l7;have l7:=aa l6 l7;refine ⟨_,rfl,r1 l7 h,r1 l7 h,rfl,?_⟩;refine h.newG λb170 G8 F8 l8 q170 _ h=> ?_;have l68:=aa l67 l8;have l8:=aa l7 l8;have hr2:RL G8 (Zj (Y3 (Zc b170 0 Y5)) 1 1) ([⟨Y8,0⟩]:List Sy):=Di q170 rfl;refine h.run (dh ⟨#[116]⟩ 0 hr2 (d1.le l8)) λ_ G9 F9 hv9 l9 h=> ?_;obtain ⟨v9,rfl,hv9⟩:=hv9;have l69:=aa l68 l9;have l9:=aa l8 l9;refine ⟨v9,rfl,r1 l9 h,?_⟩;refine h.run (dh ⟨#[117]⟩ 1 (RL.nil G9) (d1.le l9)) λ_ G10 F10 hv10 l10 h=> ?_;obtain ⟨v10,rfl,hv10⟩:=hv10;refine ⟨v10,rfl,Mem.len hv6,Mem.len hv9,Mem.len hv10,?_⟩;refine h.newG λb174 G11 F11 l11 q174 _ h=> ?_;have l1011:=aa l10 l11;have hps:RL G11 (Zj (Y3 (Zc b174 0 Y5)) 3 3) sp3:=Dk (n:=13) q174 rfl rfl (Mem.le (aa l69 l1011) hv6) (Mem.le l1011 hv9) (Mem.le l11 hv10);have l11:=aa l9 l1011;refine h.set0 (w':=(cM nST).arr c n t s (Zj (Y3 (Zc b174 0 Y5)) 3 3) Zi Zi) (Zn rfl) rfl λF12 h=> ?_;have K11:=K.le l11;refine ⟨_,rfl,ac (h.ptAt (i:=0) rfl),?_⟩;refine h.run (tn K11.hT (K11.gv hps) (IC AU (by decide) (by decide)) sg3.ok) λ_ G13 F13 hr l13 h=> ?_;obtain ⟨sl,ds,rfl,⟨C,hC,rfl⟩,hds⟩:=hr;rw [show bK C (sgG sp3).YW.length=[dia (tv 0),dia (Y0 Y6)] from W0 C hC] at hds;have l13:=aa l11 l13;refine ⟨sl,_,rfl,λ_=>⟨λ_=>⟨λ_=> ?_,λhn=>absurd rfl hn⟩,λhn=>(by cases hn)⟩,λhn=>(by cases hn)⟩;refine ⟨w2,d2.size,r2 l13 h,w5,d5.size,ac (h.le _ _ (l13 _ _ q5)),d2.size,d5.size,?_⟩;refine h.newG λb193 G14 F14 l14 q193 _ h=> ?_;have hl2:RL G14 (Zj (Y3 (Zc b193 0 Y5)) 2 2) [dia (tv 0),dia (Y0 Y6)]:=uG (n:=2) q193 rfl rfl (show DV G14 w2 _ from d2.le (aa l13 l14)) (show DV G14 w5 _ from d5.le (aa l13 l14));refine h.run (dY (hds.le l14) hl2 (KO fe (Sx.Y0 2 Y6)) (by decide)) λr G15 F15 hr l15 h=> ?_;subst hr;exact ⟨_,rfl,by rw [ζ rfl],aa K.lF (aa l13 (aa l14 (aa l15 h.le)))⟩
theorem U3 (K:SnK F G b1 b2 b5 c n t s) (h:St G F1 [pt b6 (Y4 ((cM nST).arr c n t s p Zi Zi) 37)]):kX b1 b2 b5 b6 Y8 (RT6 F) F1:=by
 unfold kX;obtain ⟨w1,q1,d1⟩:=K.q1;obtain ⟨w2,q2,d2⟩:=K.q2;have r1:∀{G' F':PH} {As:List (Ψ)},G.le G'->St G' F' As->F'.row (Zc b1 0 Y5) w1:=λl h=>ac (h.le _ _ (l _ _ q1));have r2:∀{G' F':PH} {As:List (Ψ)},G.le G'->St G' F' As->F'.row (Zc b2 0 Y5) w2:=λl h=>ac (h.le _ _ (l _ _ q2));have e:=am G;refine ⟨w1,d1.size,r1 e h,w2,d2.size,r2 e h,w1,d1.size,r1 e h,?_⟩;refine h.runv (iz 1 _) λG2 F2 l2 h=>⟨_,rfl,r1 l2 h,r2 l2 h,r1 l2 h,rfl,?_⟩;refine h.newG λb131 G3 F3 l3 q131 _ h=> ?_;have l3:=aa l2 l3;have hr1:RL G3 (Zj (Y3 (Zc b131 0 Y5)) 1 1) ([⟨Y6,1⟩]:List Sy):=Di q131 rfl;refine h.run (dh ⟨#[115]⟩ 0 hr1 (d1.le l3)) λ_ G6 F6 hv6 l6 h=> ?_;obtain ⟨v6,rfl,hv6⟩:=hv6;have l6:=aa l3 l6;refine ⟨v6,rfl,r1 l6 h,r2 l6 h,?_⟩;refine h.runv (iz 0 _) λG7 F7 l7 h=> ?_;have l67:=l7;have l7:=aa l6 l7;refine ⟨_,rfl,r1 l7 h,r2 l7 h,rfl,?_⟩;refine h.newG λb135 G8 F8 l8 q135 _ h=> ?_;have l68:=aa l67 l8;have l8:=aa l7 l8;have hr2:RL G8 (Zj (Y3 (Zc b135 0 Y5)) 1 1) ([⟨Y6,0⟩]:List Sy):=Di q135 rfl;refine h.run (dh ⟨#[116]⟩ 1 hr2 (d2.le l8)) λ_ G9 F9 hv9 l9 h=> ?_;obtain ⟨v9,rfl,hv9⟩:=hv9;have l69:=aa l68 l9;have l9:=aa l8 l9;refine ⟨v9,rfl,r1 l9 h,?_⟩;refine h.runv (kL 0 _) λG10 F10 l10 h=> ?_;have l910:=l10;have l10:=aa l9 l10;refine ⟨_,rfl,r1 l10 h,rfl,?_⟩;refine h.newG λb139 G11 F11 l11 q139 _ h=> ?_;have l911:=aa l910 l11;have l11:=aa l10 l11;have hr3:RL G11 (Zj (Y3 (Zc b139 0 Y5)) 1 1) ([⟨Y8,0⟩]:List Sy):=Di q139 rfl;refine h.run (dh ⟨#[117]⟩ 1 hr3 (d1.le l11)) λ_ G12 F12 hv12 l12 h=> ?_;obtain ⟨v12,rfl,hv12⟩:=hv12;have l912:=aa l911 l12;have l12:=aa l11 l12;refine ⟨v12,rfl,Mem.len hv6,Mem.len hv9,Mem.len hv12,?_⟩;refine h.newG λb141 G13 F13 l13 q141 _ h=> ?_;have hps:RL G13 (Zj (Y3 (Zc b141 0 Y5)) 3 3) sp2:=Dk (n:=13) q141 rfl rfl (Mem.le (aa l69 (aa l912 l13)) hv6) (Mem.le (aa l912 l13) hv9) (Mem.le l13 hv12);have l13:=aa l12 l13;refine h.set0 (w':=(cM nST).arr c n t s (Zj (Y3 (Zc b141 0 Y5)) 3 3) Zi Zi) (Zn rfl) rfl λF14 h=> ?_;have K13:=K.le l13;have sz:=IC AT (by decide) (by decide);refine ⟨_,rfl,ac (h.ptAt (i:=0) rfl),?_⟩;refine h.run (tn K13.hT (K13.gv hps) sz sg2.ok) λ_ G15 F15 hr l15 h=> ?_;obtain ⟨sl,ds,rfl,⟨C,hC,rfl⟩,hds⟩:=hr;rw [show bK C (sgG sp2).YW.length=[dia (tv 0),dia (tv 0)] from WZ C hC] at hds;have l1315:=l15;have l15:=aa l13 l15;refine ⟨sl,_,rfl,λ_=> ?_,λhn=>absurd rfl hn⟩;refine ⟨w2,d2.size,r2 l15 h,w2,d2.size,r2 l15 h,d2.size,d2.size,?_⟩;refine h.newG λb154 G16 F16 l16 q154 _ h=> ?_;have hl2:RL G16 (Zj (Y3 (Zc b154 0 Y5)) 2 2) [dia (tv 0),dia (tv 0)]:=uG (n:=2) q154 rfl rfl (show DV G16 w2 _ from d2.le (aa l15 l16)) (show DV G16 w2 _ from d2.le (aa l15 l16));refine h.run (dY (hds.le l16) hl2 (KO fe fe) (by decide)) λr G17 F17 hr l17 h=> ?_;subst hr;have l1317:=aa l1315 (aa l16 l17);refine ⟨_,rfl,λ_=> ?_,λhn=>(by rw [ζ rfl] at hn;cases hn)⟩;refine ⟨_,rfl,ac (h.ptAt (i:=0) rfl),?_⟩;have K17:=K13.le l1317;refine h.run (tp K17.hT (K17.gv (hps.le l1317)) sz sg2.ok) λ_ G18 F18 hr l18 h=> ?_;have hcy:lh (sgG sp2):=⟨0,λ_=>Y8,by decide,(AW (c:=λ_=>Y8) (n:=0) (.inl rfl)).2 rfl⟩;rcases hr with ⟨_,rfl⟩|⟨hn,_⟩
 ·exact ⟨_,rfl,U2 (K17.le l18) h⟩
 ·exact absurd hcy hn
theorem KP {F:PH} (hT:Tab F):ν 12 #[] F (RT6 F):=by
 refine WU ?_;unfold UY;refine (St.start F).run (ga F) λr G1 F1 hr l1 h=> ?_;obtain ⟨w1,rfl,d1⟩:=hr;refine ⟨w1,rfl,?_⟩;refine h.var d1.st (λb1 G2 F2 l2 q1 h=> ?_) rfl d1.size;have d1:=d1.le l2;have l2:=aa l1 l2;refine h.run (jG 0 (by decide) _) λr G3 F3 hr l3 h=> ?_;obtain ⟨w2,rfl,d2⟩:=hr;refine ⟨w2,rfl,?_⟩;refine h.var d2.st (λb2 G4 F4 l4 q2 h=> ?_) rfl d2.size;have d2:=d2.le l4;have l24:=aa l3 l4;refine h.run (jG 1 (by decide) _) λr G5 F5 hr l5 h=> ?_;obtain ⟨w3,rfl,d3⟩:=hr;refine ⟨w3,rfl,?_⟩;refine h.var d3.st (λb3 G6 F6 l6 q3 h=> ?_) rfl d3.size;have d3:=d3.le l6;have l46:=aa l5 l6;refine ⟨w2,d2.size,ac (h.le _ _ (l46 _ _ q2)),w3,d3.size,ac (h.le _ _ q3),?_⟩;have tv1_ok:Sx 2 (tv 1):=Sx.tv (by decide) (by decide);refine h.run (P:=λr G'=>∃u,r=Y9 u/\DV G' u (dia sO)) ((iF (d2.le l46) d3 (fe.f2 tv1_ok (by decide))).mono λ_ _ ⟨w,h1,h2,h3⟩=>⟨⟨w,h1,h2⟩,h3⟩) λ_ G7 F7 hr l7 h=> ?_;obtain ⟨w4,rfl,d4⟩:=hr;refine ⟨w4,rfl,?_⟩;refine h.var d4.st (λb4 G8 F8 l8 q4 h=> ?_) rfl d4.size;have d4:=d4.le l8;have l68:=aa l7 l8;refine h.run (P:=λr G'=>∃u,r=Y9 u/\DV G' u (dia (Y0 Y6))) ((bH Y6).mono λ_ _ ⟨w,h1,h2,h3⟩=>⟨⟨w,h1,h2⟩,h3⟩) λ_ G9 F9 hr l9 h=> ?_;obtain ⟨w5,rfl,d5⟩:=hr;refine ⟨w5,rfl,?_⟩;refine h.var d5.st (λb5 G10 F10 l10 q5 h=> ?_) rfl d5.size;have d5:=d5.le l10;have l810:=aa l9 l10;refine h.newG λb26 G11 F11 l11 q26 _ h=> ?_;have hns:RL G11 (Zj (Y3 (Zc b26 0 Y5)) 2 2) nST:=RL.strs.2 (RdS.new q26 rfl rfl (W8 _));refine h.run (nc hns) λ_ G12 F12 hr l12 h=> ?_;obtain ⟨c,n,t,rfl,hc,hn,ht,hs⟩:=hr;refine ⟨_,rfl,?_⟩;refine h.new λb6 F13 h=> ?_;refine h.put0 (w':=(cM nST).arr c n t (Zj (Y3 (Zc b26 0 Y5)) 2 2) Zi Zi Zi) rfl rfl (by simp [ak,Y7]) λF14 h=> ?_;have l1012:=aa l11 l12;have l812:=aa l810 l1012;have l612:=aa l68 l812;have l412:=aa l46 l612;have l212:=aa l24 l412;have l012:=aa l2 l212;have K:SnK F G12 b1 b2 b5 c n t (Zj (Y3 (Zc b26 0 Y5)) 2 2):=⟨l012,hT.le l012,⟨w1,l212 _ _ q1,d1.le l212⟩,⟨w2,l412 _ _ q2,d2.le l412⟩,⟨w5,l1012 _ _ q5,d5.le l1012⟩,hc,hn,ht,hs⟩;generalize Zj (Y3 (Zc b26 0 Y5)) 2 2=s at*;have q1:=l212 _ _ q1;have d1:=d1.le l212;have q2:=l412 _ _ q2;have d2:=d2.le l412;have q3:=l612 _ _ q3;have d3:=d3.le l612;have q4:=l812 _ _ q4;have d4:=d4.le l812;have r1:∀{G' F':PH} {As:List (Ψ)},G12.le G'->St G' F' As->F'.row (Zc b1 0 Y5) w1:=λl h=>ac (h.le _ _ (l _ _ q1));have r2:∀{G' F':PH} {As:List (Ψ)},G12.le G'->St G' F' As->F'.row (Zc b2 0 Y5) w2:=λl h=>ac (h.le _ _ (l _ _ q2));have r3:∀{G' F':PH} {As:List (Ψ)},G12.le G'->St G' F' As->F'.row (Zc b3 0 Y5) w3:=λl h=>ac (h.le _ _ (l _ _ q3));have e:=am G12;refine ⟨w1,d1.size,r1 e h,w2,d2.size,r2 e h,w3,d3.size,r3 e h,?_⟩;refine h.runv (kL 0 _) λG13 F15 l13 h=>⟨_,rfl,r3 l13 h,r2 l13 h,r1 l13 h,?_⟩;refine h.runv (iz 1 _) λG14 F16 l14 h=> ?_;have l14:=aa l13 l14;refine ⟨_,rfl,r3 l14 h,r2 l14 h,r1 l14 h,rfl,rfl,?_⟩;refine h.newG λb31 G15 F17 l15 q31 _ h=> ?_;have l15:=aa l14 l15;have hr1:RL G15 (Zj (Y3 (Zc b31 0 Y5)) 2 2) ([⟨Y8,0⟩,⟨Y6,1⟩]:List Sy):=uG (n:=2) q31 rfl rfl rfl rfl;refine h.run (dh ⟨#[115]⟩ 0 hr1 (d1.le l15)) λ_ G16 F18 hv1 l16 h=> ?_;obtain ⟨v1,rfl,hv1⟩:=hv1;have l16:=aa l15 l16;refine ⟨v1,rfl,r3 l16 h,r2 l16 h,?_⟩;refine h.run (dh ⟨#[116]⟩ 1 (RL.nil G16) (d2.le l16)) λ_ G17 F19 hv2 l17 h=> ?_;obtain ⟨v2,rfl,hv2⟩:=hv2;have m17:=l17;have l17:=aa l16 l17;refine ⟨v2,rfl,r3 l17 h,?_⟩;refine h.runv (kL 1 _) λG18 F20 l18 h=> ?_;have m18:=l18;have l18:=aa l17 l18;refine ⟨_,rfl,r3 l18 h,?_⟩;refine h.runv (iz 1 _) λG19 F21 l19 h=> ?_;have m19:=aa m18 l19;have l19:=aa l18 l19;refine ⟨_,rfl,r3 l19 h,rfl,rfl,?_⟩;refine h.newG λb38 G20 F22 l20 q38 _ h=> ?_;have m20:=aa m19 l20;have l20:=aa l19 l20;have hr3:RL G20 (Zj (Y3 (Zc b38 0 Y5)) 2 2) ([⟨Y8,1⟩,⟨Y6,1⟩]:List Sy):=uG (n:=2) q38 rfl rfl rfl rfl;refine h.run (dh ⟨#[117]⟩ 1 hr3 (d3.le l20)) λ_ G21 F23 hv3 l21 h=> ?_;obtain ⟨v3,rfl,hv3⟩:=hv3;have m21:=aa m20 l21;have l21:=aa l20 l21;refine ⟨v3,rfl,Mem.len hv1,Mem.len hv2,Mem.len hv3,?_⟩;refine h.newG λb40 G22 F24 l22 q40 _ h=> ?_;have m22:=aa m21 l22;have hps:RL G22 (Zj (Y3 (Zc b40 0 Y5)) 3 3) sp1:=Dk (n:=13) q40 rfl rfl (Mem.le (aa m17 m22) hv1) (Mem.le m22 hv2) (Mem.le l22 hv3);have l22:=aa l21 l22;refine h.set0 (w':=(cM nST).arr c n t s (Zj (Y3 (Zc b40 0 Y5)) 3 3) Zi Zi) (Zn rfl) rfl λF25 h=> ?_;have K22:=K.le l22;have gv22:=K22.gv hps;have sz:=IC AR (by decide) (by decide);have hk:=sg1.ok;have hl:∀x∈(sgG sp1).YV,x.right.length<=1000000:=by decide
 have hp:(sgG sp1).YV.length<=1000000:=by decide
 have hns2:(sgG sp1).YW.length<=1000000:=by decide
 have hts2:(sgG sp1).YX.length<=1000000:=by decide
 refine ⟨_,rfl,ac (h.ptAt (i:=0) rfl),?_⟩;refine h.run (xh K22.hT gv22 sz hk hl hp hns2) λ_ G23 F26 hr l23 h=> ?_;obtain ⟨sl1,S1,rfl,i1,h1⟩:=hr;refine ⟨sl1,_,rfl,_,rfl,ac (h.ptAt (i:=0) rfl),?_⟩;refine h.run (sX (K22.le l23).hT (gv22.le l23) sz hk hl hp hns2) λ_ G24 F27 hr l24 h=> ?_;obtain ⟨sl2,S2,rfl,i2,h2⟩:=hr;have n24:=aa l23 l24;refine ⟨sl2,_,rfl,_,rfl,ac (h.ptAt (i:=0) rfl),?_⟩;refine h.run (uT (K22.le n24).hT (gv22.le n24) sz hk hl hp hts2 hns2) λ_ G25 F28 hr l25 h=> ?_;obtain ⟨sl3,rows,rfl,⟨S3,i3,rfl⟩,h3⟩:=hr;have n25:=aa n24 l25;refine ⟨sl3,_,rfl,_,rfl,ac (h.ptAt (i:=0) rfl),?_⟩;refine h.run (Bn (K22.le n25).hT (gv22.le n25) sz hk hl hp) λ_ G26 F29 hr l26 h=> ?_;obtain ⟨sl4,us,rfl,⟨U,i4,rfl⟩,h4⟩:=hr;have n26:=aa n25 l26;have o26:=aa l22 n26;refine ⟨sl4,_,rfl,λhn=>absurd rfl hn,λ_=>⟨λhn=>absurd rfl hn,λ_=>⟨λhn=>absurd rfl hn,λ_=>⟨λhn=>absurd rfl hn,λ_=> ?_⟩⟩⟩⟩;have el3:sl3.len=2:=h3.len;have el4:sl4.len=3:=h4.len;have et:t.len=11:=K.t.len;refine ⟨λhn=>absurd (by rw [el3];rfl) hn,λ_=> ?_⟩;refine ixc (h3.le l26) (by decide) (by omega) (by rw [el3];decide) λa83 c83 row hrow hrw hc83=> ?_;have hrow':(io S3 (sgG sp1).YX.length (sgG sp1).YW.length)[1]? =Y3 row:=hrow;obtain rfl:row=nS S3 11 1:=(Xy hrow').symm;obtain ⟨sr,rfl,hsr⟩:=hc83;have elr:sr.len=11:=by have:=hsr.len;rw [this];unfold nS;rw [Xd,XI]
 have c84:∀{G' F':PH} {As:List (Ψ)},G26.le G'->St G' F' As->F'.cell (Zb a83 (Zd (1:Int)*1))=Y3 (Y7 sr):=λl h=>aQ (aU (aa l h.le) hrw) rfl;have e26:=am G26;refine ⟨sr,c84 e26 h,t,ld (h.ptAt (i:=0) rfl) rfl,λhn=>absurd (by rw [elr,et]) hn,λ_=>⟨λhn=>absurd (by rw [el4];rfl) hn,λ_=> ?_⟩⟩;refine ⟨w5,d5.size,ac (h.le _ _ (o26 _ _ (l1012 _ _ q5))),w2,d2.size,r2 o26 h,d5.size,d2.size,?_⟩;refine h.newG λb99 G27 F30 l27 q99 _ h=> ?_;have o27:=aa o26 l27;have hl99:RL G27 (Zj (Y3 (Zc b99 0 Y5)) 2 2) [dia (Y0 Y6),dia (tv 0)]:=uG (n:=2) q99 rfl rfl (show DV G27 w5 _ from d5.le (aa l1012 o27)) (show DV G27 w2 _ from d2.le o27);have z1:bK S1 (sgG sp1).YW.length=[dia (Y0 Y6),dia (tv 0)]:=Dl (uF (i1.sx 0) λc hc=>KL ((i1.iff 0 c).1 hc)) (iT (i1.sx 1) fe.1 λc=>by rw [i1.iff,i9];exact ⟨sM,j0⟩);have z2:bK S2 (sgG sp1).YW.length=[dia (tv 0),dia (tv 0)]:=Dl (iT (i2.sx 0) fe.1 λc=>by rw [i2.iff,i9];exact ⟨sM,KJ⟩) (iT (i2.sx 1) fe.1 λc=>by rw [i2.iff,i9];exact ⟨sM,λh=>(j0 h).up⟩);rw [z1] at h1;rw [z2] at h2;refine h.run (dY (h1.le (aa l24 (aa l25 (aa l26 l27)))) hl99 (KO (Sx.Y0 2 Y6) fe) (by decide)) λr G28 F31 hr l28 h=> ?_;subst hr;have o28:=aa o27 l28;refine ⟨_,rfl,λ_=> ?_,λhn=>(by rw [ζ rfl] at hn;cases hn)⟩;refine ⟨w2,d2.size,r2 o28 h,w2,d2.size,r2 o28 h,d2.size,d2.size,?_⟩;refine h.newG λb105 G29 F32 l29 q105 _ h=> ?_;have o29:=aa o28 l29;have hl105:RL G29 (Zj (Y3 (Zc b105 0 Y5)) 2 2) [dia (tv 0),dia (tv 0)]:=uG (n:=2) q105 rfl rfl (show DV G29 w2 _ from d2.le o29) (show DV G29 w2 _ from d2.le o29);refine h.run (dY (h2.le (aa l25 (aa l26 (aa l27 (aa l28 l29))))) hl105 (KO fe fe) (by decide)) λr G30 F33 hr l30 h=> ?_;subst hr;have o30:=aa o29 l30;have p30:=aa l27 (aa l28 (aa l29 l30));refine ⟨_,rfl,λ_=> ?_,λhn=>(by rw [ζ rfl] at hn;cases hn)⟩;refine ixc (h3.le (aa l26 p30)) (by decide) (by omega) (by rw [el3];decide) λa110 c110 row2 hrow2 hrw2 hc110=> ?_;have hrow2':(io S3 (sgG sp1).YX.length (sgG sp1).YW.length)[1]? =Y3 row2:=hrow2;obtain rfl:row2=nS S3 11 1:=(Xy hrow2').symm;obtain ⟨sr2,rfl,hsr2⟩:=hc110;have c110:∀{G' F':PH} {As:List (Ψ)},G30.le G'->St G' F' As->F'.cell (Zb a110 (Zd (1:Int)*1))=Y3 (Y7 sr2):=λl h=>aQ (aU (aa l h.le) hrw2) rfl;have elr2:sr2.len=11:=by have:=hsr2.len;rw [this];unfold nS;rw [Xd,XI]
 refine ⟨sr2,c110 (am _) h,?_⟩;refine ixc hsr2 (by decide) (by omega) (by rw [elr2];decide) λa112 c112 dd hdd hrw112 hc112=>⟨c112,Mem.len hc112,aU h.le hrw112,w4,d4.size,ac (h.le _ _ (o30 _ _ q4)),?_⟩;have hdd':(nS S3 11 1)[1]? =Y3 dd:=hdd;have z3:S3 ((1:Int),(1:Int))=sO:=iT (i3.sx _) qw.1 λc=>by rw [i3.iff,Dh];exact Px
 obtain rfl:dd=dia sO:=by rw [<- z3];exact (Xy hdd').symm
 refine h.run (gg (show DV G30 c112 _ from hc112) (d4.le o30) (j7 qw (by decide))) λr G31 F34 hr l31 h=> ?_;subst hr;have o31:=aa o30 l31;refine ⟨_,rfl,c110 l31 h,λ_=> ?_,λhn=>(by rw [ζ rfl] at hn;cases hn)⟩;refine ixc (h4.le (aa p30 l31)) (by decide) (by omega) (by rw [el4];decide) λa119 c119 du hdu hrw119 hc119=>⟨c119,Mem.len hc119,aU h.le hrw119,w4,d4.size,ac (h.le _ _ (o31 _ _ q4)),?_⟩;have hdu':(PL U (sgG sp1).YV.length)[2]? =Y3 du:=hdu;have efam:tre (sgG sp1).fam=Y0 Y8:=iE (t:=Y0 Y8) trivial;have z4:U 2=sO:=iT (i4.sx _) qw.1 λc=>by rw [i4.iff 2 c (by decide),Dh,efam];exact Py
 obtain rfl:du=dia sO:=by rw [<- z4];exact (Xy hdu').symm
 refine h.run (gg (show DV G31 c119 _ from hc119) (d4.le o31) (j7 qw (by decide))) λr G32 F35 hr l32 h=> ?_;subst hr;refine ⟨_,rfl,c110 (aa l31 l32) h,λ_=> ?_,λhn=>(by rw [ζ rfl] at hn;cases hn)⟩;refine ⟨_,rfl,ac (h.ptAt (i:=0) rfl),?_⟩;have n32:=aa n26 (aa p30 (aa l31 l32));refine h.run (tp (K22.le n32).hT (gv22.le n32) sz hk) λ_ G33 F36 hr l33 h=> ?_;have hno:¬lh (sgG sp1):=by rintro ⟨m,c,_,tg⟩;obtain ⟨d,hd⟩:=tg.head;exact Pz hd
 rcases hr with ⟨hc,_⟩|⟨_,rfl⟩
 ·exact absurd hc hno
 ·exact ⟨_,rfl,c110 (aa l31 (aa l32 l33)) h,U3 ((K22.le n32).le l33) h⟩
end
section
variable {F G:PH} {g g':Gr} {c m s:Sl}
theorem St.elR {G F:PH} {As:List (Ψ)} {s:Sl} {e n k:Nat} {vs:List Γ} {c:Γ} (h:St G F As) (i:Nat) (hi:As[i]? =Y3 (own s e n (cat vs))) (hn:∀d∈vs,d.size=n) (hk:vs[k]? =Y3 c) (h0:0<n) (hd:((cat vs).drop (k*n)).take n=c.toList) {K:Addr->Prop}
  (kk:∀x:Addr,F.row (Zb x (Zd (k:Int)*n)) c->K x):∃x:Addr,s.YZ=Y3 x/\0<=(k:Int)/\(k:Int)<(s.len:Int)/\K x:=by
 obtain ⟨b,cur,h1,h2,_⟩:=h.elAt i hi hn hk h0;refine ⟨_,h1,by omega,by omega,kk _ ?_⟩;rw [N4];refine (bV.rd (h.ownAt hi).1).row h1 _ c ?_;rw [hn c (W7 hk)];exact hd.symm
theorem KQ {b e n k:Nat} {c:Γ} {H:PH} (h:H b=Y3 (Y4 c e)) (hc:c.size=k*n):own (Zj (Y3 (Zc b 0 Y5)) k k) e n c.toList H:=
 .inr ⟨b,c,rfl,h,hc,W8 _,by rw [Xb,hc],Xf (by rw [Xb,hc];exact W8 _)⟩
end
section
end
section
end
section
end
theorem kY {F:PH} {a:Addr} {y:Int} {K:Int->Prop} (h:F.cell a=Y3 (vi y)):(∃v:Int,F.cell a=Y3 (Zf .i64 v)/\K v)↔K y:=
 ⟨λ⟨v,hv,k⟩=>by rw [h] at hv;cases hv;exact k,λk=>⟨y,h,k⟩⟩
theorem Dm {k:Int} (h:0<=k/\k<=4):mb k=ar k/\0<=ar k:=by
 unfold mb ar;split
 ·exact ⟨rfl,by omega⟩
 ·split
  ·exact ⟨rfl,by omega⟩
  ·rw [Χ (by omega)];exact ⟨rfl,by omega⟩
theorem yA {k:Int} (h:0<=ar k):0<=k/\k<=4:=by have:=rT h;omega
section
variable {F:PH}
theorem A6 {s:Sl} {l:List Nd} (hs:RdS F s 5 (dW l)) {i:Nat} {x:Nd} (hx:l[i]? =Y3 x) (hi9:(i:Int)<9223372036854775807):ν 211 #[s.v,vi i] F λr F'=>(∃b:Bool,r=Za b/\(b=Y8↔okN i x))/\F.le F':=by
 obtain ⟨a,ha,hrow⟩:=rdn hs hx;have hlen:=hs.nlen;have hi:=(N6.1 hx).1;refine T5 ?_;unfold Nt;refine ⟨a,ha,by omega,by omega,x.arr,rfl,hrow,λb5 hb5=> ?_⟩;refine atI ?_;refine stW (al _ _ _) rfl rfl (gC x) ?_;rw [aT];have l5:F.le (F.set b5 (Y4 x.arr 149)):=ae _ hb5;have q5:=al F b5 (Y4 x.arr 149);generalize F.set b5 (Y4 x.arr 149)=F1 at*;have c0:F1.cell (Zc b5 0 Y5)=Y3 (vi x.k):=by rw [aq q5];rfl
 have c1:F1.cell (Zc b5 1 Y5)=Y3 (vi x.lo):=by rw [aq q5];rfl
 have c2:F1.cell (Zc b5 2 Y5)=Y3 (vi x.hi):=by rw [aq q5];rfl
 have c3:F1.cell (Zc b5 3 Y5)=Y3 (vi x.a):=by rw [aq q5];rfl
 have c4:F1.cell (Zc b5 4 Y5)=Y3 (vi x.b):=by rw [aq q5];rfl
 refine ⟨x.k,c0,?_⟩;refine (kA F1 x.k).mono ?_;rintro _ F2 ⟨rfl,e⟩;obtain rfl:=e.symm;have K:∀b:Bool,(b=Y8↔okN i x)->(∃b':Bool,Za b=Za b'/\(b'=Y8↔okN i x))/\F.le F1:=λb hb=>⟨⟨b,rfl,hb⟩,l5⟩;refine ⟨_,_,rfl,λhk=>K _ ?_,λhk=> ?_⟩
 ·have hk':¬(0<=x.k/\x.k<=4):=by
   have:decide (0<=x.k/\x.k<=4)=Y6:=by simpa only [eM,Ye] using hk
   exact η this
  exact ⟨λh=>by (cases h),λh=>absurd (yA h.1) hk'⟩
 have hk':0<=x.k/\x.k<=4:=by simpa [eM] using hk
 obtain ⟨hn,hn0⟩:=Dm hk';rw [hn];clear hk hn;have f1:∀(P:Prop),¬P->(Y6=Y8↔P):=λP h=>⟨λh=>by (cases h),λh'=>absurd h' h⟩;have t1:∀(P:Prop),P->(Y8=Y8↔P):=λP h=>⟨λ_=>h,λ_=>rfl⟩;have j2:(ar x.k<1->x.a=0)->(ar x.k<2->x.b=0)->(x.k=1->0<=x.lo/\x.lo<=x.hi/\x.hi<=255)->(x.k≠1->x.lo=0/\x.hi=0)->jY i b5 (ar x.k) (λr F'=>(∃b':Bool,r=Za b'/\(b'=Y8↔okN i x))/\F.le F') F1:=λha hb h1 h2=>by have e:okN i x↔(1<=ar x.k->0<=x.a/\x.a<i)/\(2<=ar x.k->0<=x.b/\x.b<i):=⟨λh=>⟨h.2.2.2.2.2.1,h.2.2.2.2.2.2⟩,λh=>⟨hn0,h1,h2,ha,hb,h.1,h.2⟩⟩;unfold jY;simp only [kY c3,kY c4];refine ⟨λh=>⟨λh'=>K _ (t1 _ (e.2 ⟨by omega,by omega⟩)),λh'=>absurd h' (by omega)⟩,λh=>⟨λh3=>⟨λh4=>⟨λh5=>K _ (t1 _ (e.2 ⟨λ_=>⟨h3,h4⟩,by omega⟩)),λh5=>⟨λh6=>K _ ?_,λh6=>K _ (f1 _ λho=>h6 ((e.1 ho).2 (by omega)).1)⟩⟩,λh4=>K _ (f1 _ λho=>h4 ((e.1 ho).1 (by omega)).2)⟩,λh3=>K _ (f1 _ λho=>h3 ((e.1 ho).1 (by omega)).1)⟩⟩;rw [δ,e];exact ⟨λh7=>⟨λ_=>⟨h3,h4⟩,λ_=>⟨h6,h7⟩⟩,λh7=>(h7.2 (by omega)).2⟩
 have j1:(x.k=1->0<=x.lo/\x.lo<=x.hi/\x.hi<=255)->(x.k≠1->x.lo=0/\x.hi=0)->p6 i b5 (ar x.k) (λr F'=>(∃b':Bool,r=Za b'/\(b'=Y8↔okN i x))/\F.le F') F1:=λh1 h2=>by unfold p6;simp only [kY c3,kY c4];refine ⟨λh=>⟨λh3=>K _ (f1 _ λho=>h3 (ho.2.2.2.1 h)),λh3=>⟨λh4=>⟨λh5=>K _ (f1 _ λho=>h5 (ho.2.2.2.2.1 h4)),λh5=>j2 (λ_=>by omega) (λ_=>by omega) h1 h2⟩,λh4=>absurd h4 (by omega)⟩⟩,λh=>⟨λh4=>⟨λh5=>K _ (f1 _ λho=>h5 (ho.2.2.2.2.1 h4)),λh5=>j2 (λh=>by omega) (λ_=>by omega) h1 h2⟩,λh4=>j2 (λh=>by omega) (λh=>by omega) h1 h2⟩⟩
 simp only [kY c0,kY c1,kY c2]
 refine ⟨λh=>⟨λh1=>K _ (f1 _ λho=>h1 (ho.2.2.1 h).1),λh1=>⟨λh2=>K _ (f1 _ λho=>h2 (ho.2.2.1 h).2),λh2=>⟨λh3=>absurd h3 (by omega),λh3=>⟨λh4=>absurd h4 (by omega),λh4=>⟨λh5=>absurd h5 (by omega),λh5=>j1 (λh6=>absurd h6 h) (λ_=>⟨by omega,by omega⟩)⟩⟩⟩⟩⟩,
  λh=>⟨λh1=>K _ (f1 _ λho=>by have:=ho.2.1 (by omega);omega),λh1=>⟨λh2=>K _ (f1 _ λho=>by have:=ho.2.1 (by omega);omega),λh2=>⟨λh3=>K _ (f1 _ λho=>by have:=ho.2.1 (by omega);omega),λh3=>j1 (λ_=>⟨by omega,by omega,by omega⟩) (λh6=>absurd (by omega) h6)⟩⟩⟩⟩
def oV (n:Nat) (W:Φ):Ξ:=(List.range n).map λ(i:Nat)=>vi (W.count (i:Int):Nat)
theorem ID {n:Nat} {W:Φ} {i:Nat} (hi:i<n):(oV n W).toArray[i]? =Y3 (vi (W.count (i:Int):Nat)):=by simp [oV,hi]
theorem IE (n:Nat) (W:Φ) (i:Nat) (hi:i<n):(oV n W).toArray.setIfInBounds i (vi ((W.count (i:Int)+1:Nat):Int))=(oV n ((i:Int)::W)).toArray:=by
 apply Array.ext';rw [Array.toList_setIfInBounds];apply XR;intro j;rw [Yt];simp only [oV,Xd,XI,Xj];by_cases h:i=j
 ·subst h;rw [Χ rfl,Χ hi,XF hi];simp
 ·rw [Υ h];by_cases hj:j<n
  ·rw [XF hj];simp only [XT];rw [List.count_cons_of_ne (by omega)]
  ·rw [XC (by simp;omega)];rfl
structure Cnt (F0 F:PH) (u n:Nat) (W:Φ):Prop where
 zu:F0 u=Y5
 le:F0.le F
 qu:F u=Y3 (Y4 (oV n W).toArray 3)
theorem Cnt.cell {F0 F:PH} {u n:Nat} {W:Φ} (h:Cnt F0 F u n W) {k:Int} (h0:0<=k) (h1:k<n):F.cell ((Zc u 0 Y5).add (Zd k*1))=Y3 (vi (W.count k:Nat)):=by obtain ⟨i,rfl⟩:=XW h0;rw [N4,Xz,show (Zc u 0 Y5).add i=⟨u,i,Y5⟩ by simp [Zb];omega,aq h.qu];exact ID (by omega)
theorem Cnt.inc {F0 F:PH} {u n:Nat} {W:Φ} (h:Cnt F0 F u n W) {k:Int} (h0:0<=k) (h1:k<n) (hW:W.length<=100000) {K:Ψ} (hk:∀F',Cnt F0 F' u n (k::W)->K F'):
  ∃c e,F (Zb (Zc u 0 Y5) (Zd k*1)).block=Y3 (Y4 c e (0,0))/\(Zb (Zc u 0 Y5) (Zd k*1)).spot=Y5/\(Zb (Zc u 0 Y5) (Zd k*1)).off<c.size/\
   atF (F.set (Zb (Zc u 0 Y5) (Zd k*1)).block (Y4 (c.setIfInBounds (Zb (Zc u 0 Y5) (Zd k*1)).off (Zf .i64 (i64.wrap ((W.count k:Nat)+(1:Int))))) e)) K:=by
 obtain ⟨i,rfl⟩:=XW h0;have hc:W.count (i:Int)<=W.length:=List.count_le_length;rw [fz (by omega)];refine sE (b:=u) (o:=i) (by rw [N4,Xz];simp [Zb];omega) h.qu (by simp [oV];omega) ?_;rw [IE n W i (by omega)];exact hk _ ⟨h.zu,aw h.le h.zu,al _ _ _⟩
theorem Dn:∀(l:List Nd),(usL l).length<=2*l.length
 |[]=>W8 _
 |x::l=>by
  have:=Dn l;have:(us x).length<=2:=by unfold us;split<;>(try split)<;>simp
  simp only [usL,Xa,Xl];omega
def IF (l:List Nd) (j:Nat):Prop:=∀i x,i<j->l[i]? =Y3 x->okN i x
theorem Eu {l:List Nd} {j:Nat} (h:IF l j):∀k∈usL (l.take j),0<=k/\k+1<j:=by
 induction j with
 |zero=>intro k hk;simp [usL] at hk
 |succ j ih=>
  intro k hk;by_cases hj:j<l.length
  ·have hx:=N5 hj;have ho:=h j _ (by omega) hx;rw [XL,hx] at hk;simp only [Option.toList_some,jx,W9] at hk;rcases hk with hk|hk
   ·unfold us at hk;obtain ⟨h0,h1,h2,h3,h4,h5,h6⟩:=ho;split at hk
    ·rename_i h2';have:=h5 (by omega);have:=h6 (by omega);simp at hk;rcases hk with rfl|rfl<;>omega
    ·split at hk
     ·rename_i h1';have:=h5 (by omega);simp at hk;subst hk;omega
     ·simp at hk
   ·have:=ih (λi x hi=>h i x (by omega)) k hk;omega
  ·rw [Xf (by omega)] at hk;have:=ih (λi x hi=>h i x (by omega)) k (by rw [Xf (by omega)];exact hk);omega
theorem IG {l:List Nd} (h:IF l l.length):GoodL l↔l≠[]/\∀i:Nat,i+1<l.length->(usL l).count (i:Int)=1:=by
 have hb:=Eu h;rw [Xg] at hb;constructor
 ·rintro ⟨h1,h2,h3,h4⟩;refine ⟨h1,λi hi=> ?_⟩;have:=List.nodup_iff_count.1 h3 (i:Int);have:=List.count_pos_iff.2 (h4 i hi);omega
 ·rintro ⟨h1,h2⟩;refine ⟨h1,λi x hx=>h i x (N6.1 hx).1 hx,List.nodup_iff_count.2 λa=> ?_,λi hi=>List.count_pos_iff.1 (by rw [h2 i hi];decide)⟩;by_cases ha:a∈usL l
  ·obtain ⟨a0,a1⟩:=hb a ha;obtain ⟨k,rfl⟩:=XW a0;rw [h2 k (by omega)];exact W8 _
  ·rw [List.count_eq_zero.2 ha];omega
theorem KR:tsz prog 3=Y3 (1,8):=by kernel_rfl
theorem KT:bO prog 3=Y3 (Zf .i64 0):=by kernel_rfl
theorem KU:prog.underlying 67=Y3 (.slice 3):=by kernel_rfl
theorem kG {s:Sl} {l:List Nd} (hs:RdS F s 5 (dW l)):ν 198 #[s.v] F λr F'=>r=vi (fH l)/\F.le F':=by
 have hlen:=hs.nlen;refine T3 ?_;unfold Nq;refine ⟨λh=>⟨?_,am F⟩,λh=> ?_⟩
 ·have e:fH l=2:=by unfold fH;rw [Χ (by omega)]
  rw [e]
 have hl:l.length<=512:=by omega
 refine bU KU KR KT rfl (by omega) (YK _) (by omega) (by omega) ?_;intro u hu;rw [zc1 _ rfl,N4,hlen];have em:(List.replicate l.length (vi 0)).toArray=(oV l.length []).toArray:=by
  congr 1;apply XR;intro j;by_cases hj:j<l.length
  ·simp [oV,hj]
  ·rw [XC (by simp;omega),XC (by simp [oV];omega)]
 rw [em];refine ⟨_,rfl,?_⟩;have hU:Cnt F (F.set u (Y4 (oV l.length []).toArray 3)) u l.length []:=⟨hu,ae _ hu,al _ _ _⟩;generalize F.set u (Y4 (oV l.length []).toArray 3)=F1 at*;have bad:∀{F':PH},¬GoodL l->F.le F'->vi 40=vi (fH l)/\F.le F':=λh hl'=>⟨by rw [xX hl h],hl'⟩;refine ⟨λm i F'=>∃j:Nat,i=j/\j<=l.length/\m=l.length - j/\IF l j/\Cnt F F' u l.length (usL (l.take j)),l.length,⟨0,rfl,by omega,rfl,λi x hi=>by omega,by simpa [usL] using hU⟩,?_⟩;clear hU;rintro _ _ F2 ⟨j,rfl,hj,rfl,hg,hW⟩;unfold CV;refine ⟨λhlt=> ?_,λhge=> ?_⟩
 ·have hjl:j<l.length:=by omega
  have hx:l[j]? =Y3 l[j]:=N5 hjl;generalize l[j]=x at hx;refine (A6 (hs.le hW.le) hx (by omega)).mono ?_;rintro _ F3 ⟨⟨b,rfl,hb⟩,l3⟩;have hW3:Cnt F F3 u l.length (usL (l.take j)):=⟨hW.zu,aa hW.le l3,l3 _ _ hW.qu⟩;refine ⟨b,rfl,λhbf=>bad (λhG=> ?_) hW3.le,λhbt=> ?_⟩
  ·have:=hb.2 (hG.ok j x hx);rw [this] at hbf;cases hbf
  have hok:okN j x:=hb.1 (by simpa using hbt);have hok1:IF l (j+1):=λi y hi hy=>by
   by_cases hij:i=j
   ·subst hij;rw [hx] at hy;cases hy;exact hok
   ·exact hg i y (by omega) hy
  obtain ⟨a,ha,hrow⟩:=rdn (hs.le hW3.le) hx;have hk4:=yA hok.1;obtain ⟨hn,hn0⟩:=Dm hk4;have cl:∀{F':PH},F.le F'->∀(o:Nat) (y:ξ),o<5->x.arr[o]? =Y3 y->F'.cell ((a.add (j*5)).add o)=Y3 y:=λhle o y ho hy=>by obtain ⟨a',ha',hrow'⟩:=rdn (hs.le hle) hx;rw [ha] at ha';cases ha';have:=hrow' o (by show o<5;exact ho);rw [this];rw [<- hy];exact (Xu (xs:=x.arr) (i:=o) _).symm
  refine ⟨a,ha,by omega,by omega,x.k,by have:=cl hW3.le 0 (vi x.k) (by omega) rfl;exact this,?_⟩;refine (kA F3 x.k).mono ?_;rintro _ F4 ⟨rfl,e⟩;obtain rfl:=e.symm;refine ⟨_,_,rfl,?_⟩;rw [hn];have hlen2:(usL (l.take j)).length<=1024:=by have:=Dn (l.take j);rw [Xe] at this;omega
  have fin:∀F',Cnt F F' u l.length (us x++usL (l.take j))->pZ (λy2_0 F_1=>∃m',m'<l.length - j/\∃j:Nat,y2_0=j/\j<=l.length/\m'=l.length - j/\IF l j/\Cnt F F_1 u l.length (usL (l.take j))) s ⟨Y3 ⟨u,0,Y5⟩,l.length,l.length⟩ j (λr F'=>r=vi (fH l)/\F.le F') F':=λF' hF'=>by unfold pZ;refine ⟨l.length - (j+1),by omega,j+1,fz (by omega),hjl,rfl,hok1,?_⟩;rw [XL,hx];show Cnt F F' u l.length (usL (l.take j++[x]));rw [jx];exact hF'
  refine ⟨λh1=> ?_,λh1=> ?_⟩
  ·obtain ⟨a0,a1⟩:=hok.2.2.2.2.2.1 h1;refine ⟨a,ha,by omega,by omega,x.a,cl hW3.le 3 (vi x.a) (by omega) rfl,_,rfl,a0,by simp only;omega,_,hW3.cell a0 (by omega),_,rfl,a0,by simp only;omega,?_⟩;refine hW3.inc a0 (by omega) (by omega) λF5 hW5=> ?_;unfold p5;refine ⟨λh2=> ?_,λh2=> ?_⟩
   ·obtain ⟨b0,b1⟩:=hok.2.2.2.2.2.2 h2;refine ⟨a,ha,by omega,by omega,x.b,cl hW5.le 4 (vi x.b) (by omega) rfl,_,rfl,b0,by simp only;omega,_,hW5.cell b0 (by omega),_,rfl,b0,by simp only;omega,?_⟩;refine hW5.inc b0 (by omega) (by simp only [Xl];omega) λF6 hW6=>fin F6 ?_;have:us x=[x.b,x.a]:=by unfold us;rw [Χ h2]
    rw [this];exact hW6
   ·refine fin F5 ?_;have:us x=[x.a]:=by unfold us;rw [Υ h2,Χ h1]
    rw [this];exact hW5
  ·unfold p5;refine ⟨λh2=>absurd h2 (by omega),λh2=>fin F3 ?_⟩;have:us x=[]:=by unfold us;rw [Υ h2,Υ h1]
   rw [this];exact hW3
 ·obtain rfl:j=l.length:=by omega
  rw [Xg] at hW;have hgc:=IG hg;unfold CU;have ew:i64.wrap ((s.len:Int) - 1)=(l.length:Int) - 1:=by rw [hlen,aP (by omega)]
  refine ⟨λm i F'=>∃j:Nat,i=j/\j<=l.length/\m=l.length - j/\F'=F2/\∀i:Nat,i<j->(usL l).count (i:Int)=1,l.length,⟨0,rfl,by omega,rfl,rfl,λi hi=>by omega⟩,?_⟩;rintro _ _ F3 ⟨j,rfl,hj',rfl,e3,hall⟩;obtain rfl:=e3.symm;unfold CT;rw [ew];refine ⟨λhlt=> ?_,λhge=> ?_⟩
  ·refine ⟨_,rfl,by omega,by simp only;omega,_,hW.cell (k:=(j:Int)) (by omega) (by omega),λhm=>bad (λhG=> ?_) hW.le,λhm=>⟨l.length - (j+1),by omega,j+1,fz (by omega),by omega,rfl,rfl,λi hi=> ?_⟩⟩
   ·have:=(hgc.1 hG).2 j (by omega);rw [this] at hm;exact hm rfl
   ·by_cases hij:i=j
    ·subst hij;omega
    ·exact hall i (by omega)
  ·unfold CS;refine ⟨λh0=>bad (λhG=>hG.ne (XV.1 (by omega))) hW.le,λh0=>⟨?_,hW.le⟩⟩;rw [ua hl (hgc.2 ⟨λe=>by rw [e] at hlen;simp at hlen;omega,λi hi=>hall i (by omega)⟩)]
end
abbrev PrQ:=Nat×Nat
section
end
section
end
end
structure Two where
 acc:PrQ->Nat->Prop
 lnk:PrQ->PrQ->Prop
 ini:PrQ->Prop
 fin:PrQ->Prop
namespace Two
end Two
section
end
section
end
structure Ov (e:TypeId) (G F:PH) (s:Sl) (vs:Ξ):Prop where
 le:G.le F
 own:bV F e 1 s vs
 oz:∀a,s.YZ=Y3 a->G a.block=Y5
section
variable {e:TypeId} {G F:PH} {s:Sl} {vs:Ξ}
theorem Ov.fresh (h:Ov e G F s vs) {x:Nat} (hx:F x=Y5) (o:Obj):Ov e G (F.set x o) s vs:=
 ⟨aa h.le (ae o hx),h.own.keep λa ha=>by
  obtain ⟨o',ho⟩:=h.own.som ha
  exact az _ _ (aG hx ho),h.oz⟩
theorem Ov.len (h:Ov e G F s vs):s.len=vs.length:=by have:=h.own.rd.len;omega
theorem Ov.push {t bytes:Nat} {z:ξ} (ht:prog.underlying t=Y3 (.slice e)) (hsz:tsz prog e=Y3 (1,bytes)) (hz:bO prog e=Y3 z) (hzs:z.cells.size=1) (hby:bytes<=64) (h:Ov e G F s vs) {v:ξ} (hst:ak v) (hl:s.len<=1000000) {K:Sl->Ψ} (k:∀s' F',Ov e G F' s' (vs++[v])->K s' F'):
  ∀x,F x=Y5->atF (F.set x (Y4 #[v] e)) λF=>
   aF prog (Builtin.append_ #[t,t] t #[(Y7 s),(Y7 (Zj (Y3 (Zc x 0 Y5)) 1 1))]) F λv F=>∃s':Sl,v=(Y7 s')/\K s' F:=by
 intro x hx;refine atI ?_;have h1:=h.fresh hx (Y4 #[v] e);have q1:=al F x (Y4 #[v] e);generalize F.set x (Y4 #[v] e)=F1 at*;have hb:(s.len+1)*bytes<=1000001*64:=Nat.mul_le_mul (by omega) hby;refine iS (F0:=G) (x:=⟨Y3 ⟨x,0,Y5⟩,1,1⟩) (news:=[v]) ht hsz hz hzs (by decide) h1.le h1.own h1.oz (RdS.new q1 rfl rfl (W8 _)) (λw hw=>by rw [W5] at hw;subst hw;exact hst) (by simp only;omega) (by simp only;omega) ?_;intro s' F2 le2 ho2 hl2 hnew keep hsome;exact ⟨s',rfl,k s' F2 ⟨le2,ho2,hnew⟩⟩
end
section
end
def slc (w:Δ) (f e:Nat):Δ:=(w.drop f).take (e - f)
theorem iU {w:Δ} {f e:Nat} (h:f<=e) (he:e<=w.length):(slc w f e).length=e - f:=by unfold slc;rw [Xe,YR];omega
theorem sS {w:Δ} {f m e:Nat} (h1:f<=m) (h2:m<=e):slc w f m++slc w m e=slc w f e:=by unfold slc;obtain ⟨a,rfl⟩:=Nat.exists_eq_add_of_le h1;obtain ⟨b,rfl⟩:=Nat.exists_eq_add_of_le h2;rw [show f+a - f=a by omega,show f+a+b - (f+a)=b by omega,show f+a+b - f=a+b by omega,<- List.drop_drop,List.take_add]
theorem uH {w:Δ} {f e:Nat} (h:f<=e) (he:e<=w.length) {u v:Δ} (hw:slc w f e=u++v):∃m,f<=m/\m<=e/\slc w f m=u/\slc w m e=v:=by
 have hl:=iU h he;rw [hw,Xa] at hl;have h1:f<=f+u.length:=by omega
 have h2:f+u.length<=e:=by omega
 have hj:=sS (w:=w) h1 h2;rw [hw] at hj;have:=List.append_inj hj (by rw [iU h1 (by omega)];omega);exact ⟨f+u.length,h1,h2,this.1,this.2⟩
theorem Do {w:Δ} {f e:Nat} (h:f<=e) (he:e<=w.length) (hw:slc w f e=[]):f=e:=by have:=iU h he;rw [hw] at this;simp at this;omega
theorem yB (w:Δ) (f:Nat):slc w f f=[]:=by simp [slc]
theorem Dp {w:Δ} {f:Nat} (h:f<w.length):slc w f (f+1)=[w[f]]:=by unfold slc;rw [show f+1 - f=1 by omega,List.drop_eq_getElem_cons h];rfl
def Bh (P:Δ->Prop) (w fr:Δ) (e:Nat):Prop:=∃f∈fr,f<=e/\e<=w.length/\P (slc w f e)
theorem PA {w fr:Δ} (hf:∀f∈fr,f<=w.length) (e:Nat):Bh (Lg .emp) w fr e↔e∈fr:=by
 constructor
 ·rintro ⟨f,hm,h1,h2,h3⟩;have:f=e:=Do h1 h2 h3;subst this;exact hm
 ·intro h;exact ⟨e,h,W8 _,hf e h,yB _ _⟩
theorem PB {x y:Pat} {w fr o:Δ} (ho:∀e,e∈o↔Bh (Lg x) w fr e) (e:Nat):Bh (Lg y) w o e↔Bh (Lg (.seq x y)) w fr e:=by
 constructor
 ·rintro ⟨m,hm,h1,h2,h3⟩;obtain ⟨f,hf,g1,g2,g3⟩:=(ho m).1 hm;exact ⟨f,hf,by omega,h2,_,_,(sS g1 h1).symm,g3,h3⟩
 ·rintro ⟨f,hf,h1,h2,u,v,e1,hu,hv⟩;obtain ⟨m,m1,m2,rfl,rfl⟩:=uH h1 h2 e1;exact ⟨m,(ho m).2 ⟨f,hf,m1,by omega,hu⟩,m2,h2,hv⟩
theorem PC {x y:Pat} {w fr:Δ} (e:Nat):Bh (Lg (.alt x y)) w fr e↔Bh (Lg x) w fr e\/Bh (Lg y) w fr e:=by
 constructor
 ·rintro ⟨f,hf,h1,h2,h3|h3⟩
  ·exact .inl ⟨f,hf,h1,h2,h3⟩
  ·exact .inr ⟨f,hf,h1,h2,h3⟩
 ·rintro (⟨f,hf,h1,h2,h3⟩|⟨f,hf,h1,h2,h3⟩)
  ·exact ⟨f,hf,h1,h2,.inl h3⟩
  ·exact ⟨f,hf,h1,h2,.inr h3⟩
theorem km.append {P:Δ->Prop} {u v:Δ} (hu:km P u) (hv:P v):km P (u++v):=by
 induction hu with
 |nil=>have:=km.cons hv .nil;rw [XH] at this;exact this
 |cons h _ ih=>rw [XA];exact .cons h ih
theorem KV {x:Pat} {w fr o:Δ} (ho:∀e∈o,Bh (Lg (.rep x)) w fr e) {e:Nat} (h:Bh (Lg x) w o e):Bh (Lg (.rep x)) w fr e:=by obtain ⟨m,hm,h1,h2,h3⟩:=h;obtain ⟨f,hf,g1,g2,g3⟩:=ho m hm;refine ⟨f,hf,by omega,h2,?_⟩;rw [<- sS g1 h1];exact km.append g3 h3
theorem PD {x:Pat} {w fr o:Δ} (hi:∀f∈fr,f∈o) (ho:∀e∈o,Bh (Lg (.rep x)) w fr e) (hc:∀e,Bh (Lg x) w o e->e∈o) (e:Nat):e∈o↔Bh (Lg (.rep x)) w fr e:=by
 refine ⟨ho e,?_⟩;rintro ⟨f,hf,h1,h2,h3⟩;have key:∀u,km (Lg x) u->∀f,f∈o->f<=e->slc w f e=u->e∈o:=by
  intro u hu;induction hu with
  |nil=>intro f hf h1 hs;have:=Do h1 h2 hs;subst this;exact hf
  |cons hu _ ih=>intro f hf h1 hs;obtain ⟨m,m1,m2,rfl,e2⟩:=uH h1 h2 hs;exact ih m (hc m ⟨f,hf,m1,by omega,hu⟩) m2 e2
 exact key _ h3 f (hi f hf) h1 rfl
def tog:Δ->Δ->Δ
 |o,[]=>o
 |o,m::ms=>tog (if m∈o then o else o++[m]) ms
theorem yC (m:Nat):∀(ms o:Δ),tog o (ms++[m])=if m∈tog o ms then tog o ms else tog o ms++[m]
 |[],o=>rfl
 |k::ms,o=>yC m ms _
theorem iV (e:Nat):∀(ms o:Δ),e∈tog o ms↔e∈o\/e∈ms
 |[],o=>by simp [tog]
 |m::ms,o=>by
  rw [tog,iV e ms];split
  ·rename_i h;simp only [W6];constructor
   ·rintro (h1|h1)
    ·exact .inl h1
    ·exact .inr (.inr h1)
   ·rintro (h1|rfl|h1)
    ·exact .inl h1
    ·exact .inl h
    ·exact .inr h1
  ·simp only [W9,W6,X6,or_false,or_assoc]
theorem nL:∀(ms o:Δ),o.Nodup->(tog o ms).Nodup
 |[],o,h=>h
 |m::ms,o,h=>by
  rw [tog];refine nL ms _ ?_;split
  ·exact h
  ·rename_i hm;exact Xv.2 ⟨h,by simp,λa ha b hb e=>hm (by simp at hb;subst hb;subst e;exact ha)⟩
theorem xe:∀(ms o:Δ),∃k,tog o ms=o++k
 |[],o=>⟨[],by simp [tog]⟩
 |m::ms,o=>by
  rw [tog];obtain ⟨k,hk⟩:=xe ms (if m∈o then o else o++[m]);rw [hk];split
  ·exact ⟨k,rfl⟩
  ·exact ⟨[m]++k,by simp⟩
theorem KW (ms o:Δ):(tog o ms).length<=o.length+ms.length:=by
 induction ms generalizing o with
 |nil=>simp [tog]
 |cons m ms ih=>rw [tog];refine X4 (ih _) ?_;split<;>simp<;>omega
theorem IH {ms o:Δ} (h:(tog o ms).length<=o.length):∀m∈ms,m∈o:=by obtain ⟨k,hk⟩:=xe ms o;rw [hk,Xa] at h;have:k=[]:=XV.1 (by omega);subst this;intro m hm;have:=(iV m ms o).2 (.inr hm);rw [hk] at this;simpa using this
theorem iW {o:Δ} {n:Nat} (h:o.Nodup) (hb:∀e∈o,e<=n):o.length<=n+1:=nodup_bound' (n+1) o h λe he=>by have:=hb e he;omega
where nodup_bound':∀(n:Nat) (ns:Δ),ns.Nodup->(∀j∈ns,j<n)->ns.length<=n
 |0,[],_,_=>W8 _
 |0,j::ns,_,h=>absurd (h j (by simp)) (by omega)
 |n+1,ns,hn,h=>by
  by_cases hm:n∈ns
  ·have:=nodup_bound' n (ns.erase n) (hn.erase n) λj hj=>by
    have h1:=h j (List.mem_of_mem_erase hj);have h2:j≠n:=λe=>by rw [e] at hj;exact (hn.not_mem_erase hj)
    omega
   rw [List.length_erase_of_mem hm] at this;omega
  ·have:=nodup_bound' n ns hn λj hj=>by have h1:=h j hj;have h2:j≠n:=λe=>hm (e▸hj);omega
   omega
def il (ns:Δ):Ξ:=ns.map λ(n:Nat)=>vi n
theorem II (a b:Δ):il (a++b)=il a++il b:=by simp [il]
theorem U4 (a:Δ):∀v∈il a,ak v:=λv hv=>by obtain ⟨n,_,rfl⟩:=Xi.1 hv;exact ⟨λ_ h=>(by cases h),λ_ h=>(by cases h)⟩
section
variable {F:PH}
theorem nN {s:Sl} {ns:Δ} (h:RdS F s 1 (il ns)):s.len=ns.length:=by have:=h.len;simp [il] at this;omega
theorem xf {s:Sl} {ns:Δ} (h:RdS F s 1 (il ns)) {i:Nat} (hi:i<ns.length):∃a,s.YZ=Y3 a/\F.cell (a.add (Zd (i:Int)*1))=Y3 (vi (ns[i]:Nat)):=by have hl:=nN h;obtain ⟨b,o,hb,_⟩:=h.cells (by omega);refine ⟨_,hb,?_⟩;rw [N4,Xz];have:=h.cell hb (i:=i) (by simp [il];exact hi);rw [this];simp [il]
theorem Dq {s:Sl} {ns:Δ} (h:RdS F s 1 (il ns)) (hn:ns.length<=1000000) (n:Nat):ν 213 #[s.v,vi n] F λr F'=>r=Za (decide (n∈ns))/\F'=F:=by
 have hl:=nN h;refine T7 ?_;unfold Nv;refine ⟨λm i F'=>∃j:Nat,i=j/\j<=ns.length/\m=ns.length - j/\F'=F/\n ∉ ns.take j,ns.length,⟨0,rfl,by omega,rfl,rfl,by simp⟩,?_⟩;rintro _ _ F' ⟨j,rfl,hj,rfl,e,hno⟩;obtain rfl:=e.symm;unfold CX;refine ⟨λhlt=> ?_,λhge=> ?_⟩
 ·have hjl:j<ns.length:=by omega
  obtain ⟨a,ha,hc⟩:=xf h hjl;refine ⟨a,ha,by omega,by omega,_,hc,λhe=>⟨?_,rfl⟩,λhe=>⟨ns.length - (j+1),by omega,j+1,fz (by omega),by omega,rfl,rfl,?_⟩⟩
  ·have:n=ns[j]:=by omega
   rw [ζ (by rw [this];exact X2 hjl)]
  ·rw [XL,N5 hjl];simp only [Option.toList_some,W9,W5];rintro (h1|h1)
   ·exact hno h1
   ·exact he (by omega)
 ·unfold CW;obtain rfl:j=ns.length:=by omega
  rw [Xg] at hno;exact ⟨by rw [ι hno],rfl⟩
def IlV (F:PH) (v:ξ) (o:Δ):Prop:=∃s:Sl,v=s.v/\RdS F s 1 (il o)
theorem mP {s s2:Sl} {ns ms:Δ} (h:RdS F s 1 (il ns)) (h2:RdS F s2 1 (il ms)) (hn:ns.length<=200000) (hm:ms.length<=200000):ν 217 #[s.v,s2.v] F λr F'=>IlV F' r (tog ns ms)/\F.le F':=by
 have hl:=nN h;have hl2:=nN h2;refine T8 ?_;unfold Nw;intro b4 hb4;refine atI ?_;have l4:=ae (Y4 #[] 3) hb4;have q4:=al F b4 (Y4 #[] 3);generalize F.set b4 (Y4 #[] 3)=F4 at*;have ho:bV F4 3 1 ⟨Y3 ⟨b4,0,Y5⟩,0,0⟩ (il []):=.inr ⟨b4,#[],rfl,q4,rfl,W8 _,rfl,rfl⟩;refine iS (F0:=F) KU KR KT rfl (by decide) l4 ho (λa ha=>by cases ha;exact hb4) (h.le l4) (U4 ns) (by simp only;omega) (by simp only;omega) ?_;intro s' F5 le5 ho5 hl5 hnew5 _ _;rw [show il []++il ns=il ns from rfl] at ho5;refine ⟨s',rfl,λm o i F'=>∃j:Nat,i=j/\j<=ms.length/\m=ms.length - j/\Ov 3 F F' o (il (tog ns (ms.take j))),ms.length,⟨0,rfl,by omega,rfl,⟨le5,by simpa [tog] using ho5,hnew5⟩⟩,?_⟩;clear hnew5 ho5 le5 l4 q4 hb4 ho;rintro _ o _ F6 ⟨j,rfl,hj,rfl,hO⟩;unfold C3;refine ⟨λhlt=> ?_,λhge=> ?_⟩
 ·have hjl:j<ms.length:=by omega
  have hlen:(tog ns (ms.take j)).length<=400000:=by have:=KW (ms.take j) ns;rw [Xe] at this;omega
  have hx:ms[j]? =Y3 ms[j]:=N5 hjl;obtain ⟨a,ha,hc⟩:=xf (h2.le hO.le) hjl;refine ⟨a,ha,by omega,by omega,_,hc,?_⟩;refine (Dq hO.own.rd (by omega) _).mono ?_;rintro _ F7 ⟨rfl,e⟩;obtain rfl:=e.symm;have htk:tog ns (ms.take (j+1))=if ms[j]∈tog ns (ms.take j) then tog ns (ms.take j) else tog ns (ms.take j)++[ms[j]]:=by rw [XL,hx];exact yC _ _ _
  refine ⟨_,rfl,λhno=>⟨a,ha,by omega,by omega,_,hc,?_⟩,λhin=> ?_⟩
  ·have hno':ms[j] ∉ tog ns (ms.take j):=by simpa using hno
   rw [Υ hno'] at htk;refine hO.push (t:=67) KU KR KT rfl (by decide) ⟨λ_ h=>(by cases h),λ_ h=>(by cases h)⟩ (by rw [hO.len];simp [il];omega) λs' F' h'=> ?_;unfold qe;refine ⟨ms.length - (j+1),by omega,j+1,fz (by omega),by omega,rfl,?_⟩;rw [htk,II];exact h'
  ·have hin':ms[j]∈tog ns (ms.take j):=by simpa using hin
   rw [Χ hin'] at htk;unfold qe;refine ⟨ms.length - (j+1),by omega,j+1,fz (by omega),by omega,rfl,?_⟩;rw [htk];exact hO
 ·unfold C2;obtain rfl:j=ms.length:=by omega
  rw [Xg] at hO;exact ⟨⟨_,rfl,hO.own.rd⟩,hO.le⟩
end
def fM (w:Δ) (lo hi:Nat) (fr:Δ):Δ:=(fr.filter λf=>decide (f<w.length/\lo<=w.getD f 0/\w.getD f 0<=hi)).map (· +1)
theorem A7 (w:Δ) (lo hi:Nat) (fr:Δ) (f:Nat):fM w lo hi (fr++[f])=if f<w.length/\lo<=w.getD f 0/\w.getD f 0<=hi then fM w lo hi fr++[f+1] else fM w lo hi fr:=by
 unfold fM;rw [List.filter_append,Xt,List.filter_cons];split
 ·rename_i h;rw [Χ (by simpa using h)];rfl
 ·rename_i h;rw [Υ (by simpa using h)];simp
theorem yD {w:Δ} {lo hi:Nat} {fr:Δ} (h:fr.Nodup):(fM w lo hi fr).Nodup:=by unfold fM;refine List.Pairwise.map (R:=(·≠·)) _ (λa b hab=>by omega) ?_;exact List.Pairwise.sublist List.filter_sublist h
theorem Ew {w:Δ} {lo hi:Nat} {fr:Δ} (e:Nat):e∈fM w lo hi fr↔Bh (Lg (.rng lo hi)) w fr e:=by
 unfold fM;simp only [Xi,Yv,δ];constructor
 ·rintro ⟨f,⟨hf,h1,h2,h3⟩,rfl⟩;refine ⟨f,hf,by omega,by omega,w.getD f 0,?_,h2,h3⟩;rw [Dp h1,Xx,N5 h1];rfl
 ·rintro ⟨f,hf,h1,h2,b,hb,h3,h4⟩;have hl:=iU h1 h2;rw [hb] at hl;simp at hl;obtain rfl:e=f+1:=by omega
  rw [Dp (by omega)] at hb;simp at hb;refine ⟨f,⟨hf,by omega,?_⟩,rfl⟩;rw [Xx,N5 (by omega)];simp only [Option.getD_some];omega
section
variable {F:PH}
def BhR (F:PH) (v:ξ) (P:Δ->Prop) (w fr:Δ):Prop:=∃o:Δ,IlV F v o/\o.Nodup/\∀e,e∈o↔Bh P w fr e
theorem IlV.le {F G:PH} {v:ξ} {o:Δ} (h:IlV F v o) (hl:F.le G):IlV G v o:=by obtain ⟨s,e,h⟩:=h;exact ⟨s,e,h.le hl⟩
theorem yF {P:Δ->Prop} {w fr o:Δ} (h:∀e,e∈o↔Bh P w fr e):∀e∈o,e<=w.length:=λe he=>by obtain ⟨f,_,_,h2,_⟩:=(h e).1 he;exact h2
theorem A8 {s2:Sl} {fr:Δ} {st:ο} {lo hi b9 b17:Nat} {F1:PH} {x:Nd} {R:ξ->Ψ} (h2:RdS F1 s2 1 (il fr)) (hfl:fr.length<=100001) (hfb:∀f∈fr,f<=st.size) (hst:st.size<=100000) (q9:F1 b9=Y3 (Y4 x.arr 149)) (hlo:x.lo=lo) (hhi:x.hi=hi) (hb17:F1 b17=Y5)
  (hR:∀v F',F1.le F'->IlV F' v (fM (bs st) lo hi fr)->R v F'):
  ∃(I2:Nat->Sl->Ω) (m2:Nat),I2 m2 (Zj (Y3 (Zc b17 0 Y5)) 0 0) (0:Int) (F1.set b17 (Y4 #[] 3))/\∀m2 out_10_3 k_11 F,I2 m2 out_10_3 k_11 F->
   wF (λy2_0 y2_1 F=>∃m',m'<m2/\I2 m' y2_0 y2_1 F) st s2 b9 R out_10_3 k_11 F:=by
 have hl2:=nN h2;have hwl:=cU st;refine ⟨λm o k F'=>∃j:Nat,k=j/\j<=fr.length/\m=fr.length - j/\Ov 3 F1 F' o (il (fM (bs st) lo hi (fr.take j))),fr.length,⟨0,rfl,by omega,rfl,⟨ae _ hb17,.inr ⟨b17,#[],rfl,al _ _ _,rfl,W8 _,rfl,rfl⟩,λa ha=>by cases ha;exact hb17⟩⟩,?_⟩;rintro _ o _ F6 ⟨j,rfl,hj,rfl,hO⟩;unfold wF;refine ⟨λhlt=> ?_,λhge=> ?_⟩
 ·have hjl:j<fr.length:=by omega
  have hlen:(fM (bs st) lo hi (fr.take j)).length<=100001:=by unfold fM;rw [Xd];refine X4 (List.length_filter_le _ _) ?_;rw [Xe];omega
  have hx:fr[j]? =Y3 fr[j]:=N5 hjl;obtain ⟨a,ha,hc⟩:=xf (h2.le hO.le) hjl;have hfj:=hfb _ (X2 hjl);have htk:fM (bs st) lo hi (fr.take (j+1))=if fr[j]<(bs st).length/\lo<=(bs st).getD fr[j] 0/\(bs st).getD fr[j] 0<=hi then fM (bs st) lo hi (fr.take j)++[fr[j]+1] else fM (bs st) lo hi (fr.take j):=by rw [XL,hx];exact A7 _ _ _ _ _
  generalize fr[j]=f at*;have j5:∀bb:Bool,(bb=Y8↔f<(bs st).length/\lo<=(bs st).getD f 0/\(bs st).getD f 0<=hi)->mA (λy2_0 y2_1 F=>∃m',m'<fr.length - j/\∃j:Nat,y2_1=j/\j<=fr.length/\m'=fr.length - j/\Ov 3 F1 F y2_0 (il (fM (bs st) lo hi (fr.take j)))) st s2 b9 o j bb R F6:=λbb hbb=>by
   unfold mA;refine ⟨λht=>⟨a,ha,by omega,by omega,_,hc,?_⟩,λhf=> ?_⟩
   ·rw [Χ (hbb.1 ht)] at htk;rw [fz (by omega)];refine hO.push (t:=67) KU KR KT rfl (by decide) jD (by rw [hO.len];simp [il];omega) λs' F' h'=> ?_;unfold p9;refine ⟨fr.length - (j+1),by omega,j+1,fz (by omega),by omega,rfl,?_⟩;rw [htk,II];exact h'
   ·rw [Υ (λh=>by rw [hbb.2 h] at hf;cases hf)] at htk;unfold p9;refine ⟨fr.length - (j+1),by omega,j+1,fz (by omega),by omega,rfl,?_⟩;rw [htk];exact hO
  have c1:F6.cell (Zc b9 1 Y5)=Y3 (vi lo):=by rw [aq (hO.le _ _ q9),<- hlo];rfl
  have c2:F6.cell (Zc b9 2 Y5)=Y3 (vi hi):=by rw [aq (hO.le _ _ q9),<- hhi];rfl
  refine ⟨a,ha,by omega,by omega,_,hc,λhlt2=> ?_,λhge2=>j5 Y6 ⟨λh=>(by cases h),λh=>absurd h.1 (by omega)⟩⟩;have hfs:f<st.size:=by omega
  have hget:∀hx:Zd (f:Int)<st.size,i64.wrap ((st[Zd (f:Int)]'hx).toNat:Int)=(((bs st).getD f 0:Nat):Int):=λhx=>by
   have e:(st[Zd (f:Int)]'hx).toNat=(bs st).getD f 0:=by rw [<- He];unfold cb;simp only [N4] at hx;rw [dif_pos hx];rfl
   have h256:(bs st).getD f 0<256:=by rw [Xx,N5 (by omega:f<(bs st).length)];exact TJ st _ (X2 _)
   rw [e,aP (by omega)]
  refine ⟨a,ha,by omega,by omega,_,hc,by omega,by omega,by rw [N4];exact hfs,_,rfl,_,c1,λhle=>⟨a,ha,by omega,by omega,_,hc,by omega,by omega,by rw [N4];exact hfs,_,rfl,_,c2,j5 _ ?_⟩,λhgt=>j5 Y6 ⟨λh=>(by cases h),λh=> ?_⟩⟩
  ·rw [hget] at hle;rw [hget,δ];omega
  ·rw [hget] at hgt;omega
 ·unfold C1;obtain rfl:j=fr.length:=by omega
  rw [Xg] at hO;exact hR _ _ hO.le ⟨_,rfl,hO.own.rd⟩
theorem A9 {l:List Nd} {p:Sl} {st:ο} (hst:st.size<=100000) {i:Nat} {t:Lt} {ns:Δ} (h:cT l i t ns):∀{F:PH} {s2:Sl} {fr:Δ},RdS F p 5 (dW l)->RdS F s2 1 (il fr)->fr.Nodup->(∀f∈fr,f<=st.size)->
  ν 214 #[p.v,vi i,Zg st,s2.v] F λr F'=>BhR F' r (Lg t.pat) (bs st) fr/\F.le F':=by
 have hwl:=cU st;have few:∀{o:Δ},o.Nodup->(∀e∈o,e<=(bs st).length)->o.length<=100001:=λh1 h2=>by have:=iW h1 h2;omega
 induction h with
 | @emp i x hx hk=>intro F s2 fr hs h2 hnd hfb;have hlen:=hs.nlen;have hi:=(N6.1 hx).1;obtain ⟨a,ha,hrow⟩:=rdn hs hx;refine yh ?_;unfold uo;refine ⟨a,ha,by omega,by omega,x.arr,rfl,hrow,λb9 hb9=> ?_⟩;refine atI ?_;refine stW (al _ _ _) rfl rfl (gC x) ?_;rw [aT];intro b17 hb17;refine atI ?_;have l9:F.le (F.set b9 (Y4 x.arr 149)):=ae _ hb9;have q9:=al F b9 (Y4 x.arr 149);generalize F.set b9 (Y4 x.arr 149)=F1 at*;refine ⟨x.k,by rw [aq (ae _ hb17 _ _ q9)];rfl,λ_=>⟨⟨fr,⟨_,rfl,h2.le (aa l9 (ae _ hb17))⟩,hnd,λe=> ?_⟩,aa l9 (ae _ hb17)⟩,λh=>absurd hk h⟩;exact (PA (λf hf=>by rw [hwl];exact hfb f hf) e).symm
 | @rng i lo hi x hx hk hlo hhi hle h255=>intro F s2 fr hs h2 hnd hfb;have hlen:=hs.nlen;have hi':=(N6.1 hx).1;obtain ⟨a,ha,hrow⟩:=rdn hs hx;refine yh ?_;unfold uo;refine ⟨a,ha,by omega,by omega,x.arr,rfl,hrow,λb9 hb9=> ?_⟩;refine atI ?_;refine stW (al _ _ _) rfl rfl (gC x) ?_;rw [aT];intro b17 hb17;refine atI ?_;have l9:F.le (F.set b9 (Y4 x.arr 149)):=ae _ hb9;have q9:=al F b9 (Y4 x.arr 149);generalize F.set b9 (Y4 x.arr 149)=F1 at*;refine ⟨x.k,by rw [aq (ae _ hb17 _ _ q9)];rfl,λh=>absurd h (by omega),λ_=>⟨λ_=> ?_,λh=>absurd hk h⟩⟩;refine A8 (h2.le l9) (few hnd λf hf=>by rw [hwl];exact hfb f hf) hfb hst q9 hlo hhi hb17 λv F' hl' hv=> ?_;exact ⟨⟨_,hv,yD hnd,λe=>Ew e⟩,aa l9 hl'⟩
 | @seq i a b x t u na nb hx hk hxa hxb ht hu it iu=>
  intro F s2 fr hs h2 hnd hfb;have hlen:=hs.nlen;have hi':=(N6.1 hx).1;obtain ⟨ad,had,hrow⟩:=rdn hs hx;refine yh ?_;unfold uo;refine ⟨ad,had,by omega,by omega,x.arr,rfl,hrow,λb9 hb9=> ?_⟩;refine atI ?_;refine stW (al _ _ _) rfl rfl (gC x) ?_;rw [aT];intro b17 hb17;refine atI ?_;have q9:=ae (Y4 #[] 3) hb17 _ _ (al F b9 (Y4 x.arr 149));have l9:=aa (ae (Y4 x.arr 149) hb9) (ae (Y4 #[] 3) hb17);generalize (F.set b9 (Y4 x.arr 149)).set b17 (Y4 #[] 3)=F1 at*;have c1:∀{G:PH},F1.le G->G.cell (Zc b9 3 Y5)=Y3 (vi a):=λh=>by rw [aq (h _ _ q9),<- hxa];rfl
  have c2:∀{G:PH},F1.le G->G.cell (Zc b9 4 Y5)=Y3 (vi b):=λh=>by rw [aq (h _ _ q9),<- hxb];rfl
  refine ⟨x.k,by rw [aq q9];rfl,λh=>absurd h (by omega),λ_=>⟨λh=>absurd h (by omega),λ_=>⟨λ_=> ?_,λh=>absurd hk h⟩⟩⟩;refine ⟨_,c2 (am _),_,c1 (am _),?_⟩;refine (it (hs.le l9) (h2.le l9) hnd hfb).mono ?_;rintro _ F2 ⟨⟨o,⟨s3,rfl,h3⟩,ho,hoe⟩,l2⟩;refine ⟨s3,rfl,c2 l2,?_⟩;refine (iu (hs.le (aa l9 l2)) h3 ho λf hf=>by rw [<- hwl];exact yF hoe f hf).mono ?_;rintro _ F3 ⟨⟨o2,⟨s4,rfl,h4⟩,ho2,hoe2⟩,l3⟩;refine ⟨s4,rfl,⟨o2,⟨s4,rfl,h4⟩,ho2,λe=> ?_⟩,aa l9 (aa l2 l3)⟩;rw [hoe2 e];exact PB hoe e
 | @alt i a b x t u na nb hx hk hxa hxb ht hu it iu=>
  intro F s2 fr hs h2 hnd hfb;have hlen:=hs.nlen;have hi':=(N6.1 hx).1;obtain ⟨ad,had,hrow⟩:=rdn hs hx;refine yh ?_;unfold uo;refine ⟨ad,had,by omega,by omega,x.arr,rfl,hrow,λb9 hb9=> ?_⟩;refine atI ?_;refine stW (al _ _ _) rfl rfl (gC x) ?_;rw [aT];intro b17 hb17;refine atI ?_;have q9:=ae (Y4 #[] 3) hb17 _ _ (al F b9 (Y4 x.arr 149));have l9:=aa (ae (Y4 x.arr 149) hb9) (ae (Y4 #[] 3) hb17);generalize (F.set b9 (Y4 x.arr 149)).set b17 (Y4 #[] 3)=F1 at*;have c1:∀{G:PH},F1.le G->G.cell (Zc b9 3 Y5)=Y3 (vi a):=λh=>by rw [aq (h _ _ q9),<- hxa];rfl
  have c2:∀{G:PH},F1.le G->G.cell (Zc b9 4 Y5)=Y3 (vi b):=λh=>by rw [aq (h _ _ q9),<- hxb];rfl
  refine ⟨x.k,by rw [aq q9];rfl,λh=>absurd h (by omega),λ_=>⟨λh=>absurd h (by omega),λ_=>⟨λh=>absurd h (by omega),λ_=>⟨λ_=> ?_,λh=>absurd hk h⟩⟩⟩⟩;refine ⟨_,c1 (am _),_,c2 (am _),?_⟩;refine (it (hs.le l9) (h2.le l9) hnd hfb).mono ?_;rintro _ F2 ⟨⟨o,⟨s3,rfl,h3⟩,ho,hoe⟩,l2⟩;refine ⟨s3,rfl,c2 l2,?_⟩;refine (iu (hs.le (aa l9 l2)) (h2.le (aa l9 l2)) hnd hfb).mono ?_;rintro _ F3 ⟨⟨o2,⟨s4,rfl,h4⟩,ho2,hoe2⟩,l3⟩;refine ⟨s4,rfl,?_⟩;have n1:=few ho (yF hoe);have n2:=few ho2 (yF hoe2);refine (mP (h3.le l3) h4 (by omega) (by omega)).mono ?_;rintro _ F4 ⟨⟨s5,rfl,h5⟩,l4⟩;refine ⟨s5,rfl,⟨_,⟨s5,rfl,h5⟩,nL _ _ ho,λe=> ?_⟩,aa l9 (aa l2 (aa l3 l4))⟩;rw [iV,hoe,hoe2];exact (PC e).symm
 | @rep i a x t na hx hk hxa ht it=>
  intro F s2 fr hs h2 hnd hfb;have hlen:=hs.nlen;have hi':=(N6.1 hx).1;obtain ⟨ad,had,hrow⟩:=rdn hs hx;refine yh ?_;unfold uo;refine ⟨ad,had,by omega,by omega,x.arr,rfl,hrow,λb9 hb9=> ?_⟩;refine atI ?_;refine stW (al _ _ _) rfl rfl (gC x) ?_;rw [aT];intro b17 hb17;refine atI ?_;have q9:=ae (Y4 #[] 3) hb17 _ _ (al F b9 (Y4 x.arr 149));have l9:=aa (ae (Y4 x.arr 149) hb9) (ae (Y4 #[] 3) hb17);generalize (F.set b9 (Y4 x.arr 149)).set b17 (Y4 #[] 3)=F1 at*;have c1:∀{G:PH},F1.le G->G.cell (Zc b9 3 Y5)=Y3 (vi a):=λh=>by rw [aq (h _ _ q9),<- hxa];rfl
  refine ⟨x.k,by rw [aq q9];rfl,λh=>absurd h (by omega),λ_=>⟨λh=>absurd h (by omega),λ_=>⟨λh=>absurd h (by omega),λ_=>⟨λh=>absurd h (by omega),λ_=> ?_⟩⟩⟩⟩;unfold C0
  refine ⟨λm os n F'=>∃(o:Δ) (k:Nat),n=(k:Int) - 1/\k<=o.length+1/\m=st.size+3 - k/\F1.le F'/\RdS F' os 1 (il o)/\o.Nodup/\(∀f∈fr,f∈o)/\(∀e∈o,Bh (Lg (.rep t.pat)) (bs st) fr e)/\(k=o.length+1->∀e,Bh (Lg t.pat) (bs st) o e->e∈o),st.size+3,
   ⟨fr,0,by omega,by omega,by omega,am _,h2.le l9,hnd,λ_ h=>h,λe he=>⟨e,he,W8 _,by rw [hwl];exact hfb e he,by rw [yB];exact .nil⟩,λh=>by omega⟩,?_⟩
  rintro _ os _ F2 ⟨o,k,rfl,hk',rfl,l2,h3,ho,hfo,hoe,hcl⟩;unfold CZ;have hos:=nN h3;have hob:∀e∈o,e<=(bs st).length:=λe he=>by obtain ⟨f,_,_,g,_⟩:=hoe e he;exact g
  have hfew:=iW ho hob;refine ⟨λhlt=> ?_,λhge=> ?_⟩
  ·refine ⟨_,c1 l2,?_⟩;refine (it (hs.le (aa l9 l2)) h3 ho λf hf=>by rw [<- hwl];exact hob f hf).mono ?_;rintro _ F3 ⟨⟨o2,⟨s4,rfl,h4⟩,ho2,hoe2⟩,l3⟩;refine ⟨s4,rfl,?_⟩;have n2:=few ho2 (yF hoe2);refine (mP (h3.le l3) h4 (by omega) (by omega)).mono ?_;rintro _ F4 ⟨⟨s5,rfl,h5⟩,l4⟩;obtain ⟨kk,hkk⟩:=xe o2 o;refine ⟨s5,rfl,st.size+3 - (o.length+1),by omega,tog o o2,o.length+1,by omega,by rw [hkk,Xa];omega,rfl,aa l2 (aa l3 l4),h5,nL _ _ ho,λf hf=>(iV f o2 o).2 (.inl (hfo f hf)),λe he=> ?_,λhfull e he=> ?_⟩
   ·rcases (iV e o2 o).1 he with h|h
    ·exact hoe e h
    ·exact KV hoe ((hoe2 e).1 h)
   ·have hall:=IH (o:=o) (ms:=o2) (by omega);refine (iV e o2 o).2 (.inr ((hoe2 e).2 ?_));obtain ⟨f,hf,g⟩:=he;refine ⟨f,?_,g⟩;rcases (iV f o2 o).1 hf with h|h
    ·exact h
    ·exact hall f h
  ·unfold CY;exact ⟨⟨o,⟨os,rfl,h3⟩,ho,PD hfo hoe (hcl (by omega))⟩,aa l9 l2⟩
theorem IJ {P:Δ->Prop} {w:Δ}:Bh P w [0] w.length↔P w:=by
 constructor
 ·rintro ⟨f,hf,_,_,h⟩;simp at hf;subst hf;simpa [slc] using h
 ·intro h;exact ⟨0,by simp,by omega,W8 _,by simpa [slc] using h⟩
theorem oW {s:Sl} {l:List Nd} (hs:RdS F s 5 (dW l)) (st:ο) (hst:st.size<=100000):ν 199 #[s.v,Zg st] F λr F'=>(∃q:Bool,r=Za q/\(q=Y8↔fH l=0/\LgL l (bs st)))/\F.le F':=by
 refine T4 ?_;unfold Nr;refine (kG hs).mono ?_;rintro _ F2 ⟨rfl,l2⟩;refine ⟨_,rfl,λh0=> ?_,λh0=>⟨⟨Y6,rfl,λh=>(by cases h),λh=>absurd h.1 h0⟩,l2⟩⟩;obtain ⟨hG,hl⟩:=ub h0;obtain ⟨ns,ht⟩:=iJ hG;have hlen:=hs.nlen;have hne:=Yh.2 hG.ne;have ew:i64.wrap ((s.len:Int) - 1)=((l.length - 1:Nat):Int):=by rw [hlen,aP (by omega)];omega
 rw [ew];intro b14 hb14;refine atI ?_;have l14:F2.le (F2.set b14 (Y4 #[Zf .i64 0] 3)):=ae _ hb14;have q14:=al F2 b14 (Y4 #[Zf .i64 0] 3);generalize F2.set b14 (Y4 #[Zf .i64 0] 3)=F3 at*;refine (A9 hst ht (s2:=⟨Y3 ⟨b14,0,Y5⟩,1,1⟩) (fr:=[0]) (hs.le (aa l2 l14)) (RdS.new q14 rfl rfl (W8 _)) (by simp) (by simp)).mono ?_;rintro _ F4 ⟨⟨o,⟨s4,rfl,h4⟩,ho,hoe⟩,l4⟩;refine ⟨s4,rfl,?_⟩;have n2:=iW ho (yF hoe);rw [cU] at n2;refine (Dq h4 (by omega) st.size).mono ?_;rintro _ F5 ⟨rfl,e⟩;obtain rfl:=e.symm;refine ⟨_,rfl,⟨_,rfl,?_⟩,aa (aa l2 l14) l4⟩;rw [δ,hoe,<- cU,IJ];exact ⟨λh=>⟨h0,h⟩,λh=>h.2⟩
end
abbrev RB (F:PH) (P:Prop):VR:=λr F'=>(∃q:Bool,r=Za q/\(q=Y8↔P))/\F.le F'
section
variable {F F':PH} {P Q:Prop}
theorem RB.yes (h:P) (l:F.le F'):RB F P (Za Y8) F':=⟨⟨Y8,rfl,λ_=>h,λ_=>rfl⟩,l⟩
theorem RB.no (h:¬P) (l:F.le F'):RB F P (Za Y6) F':=⟨⟨Y6,rfl,λh=>(by cases h),λhp=>absurd hp h⟩,l⟩
theorem RB.dec [Decidable Q] (h:Q↔P) (l:F.le F'):RB F P (Za (decide Q)) F':=⟨⟨_,rfl,by rw [δ];exact h⟩,l⟩
theorem RB.is {q:Bool} (h:q=Y8↔P) (l:F.le F'):RB F P (Za q) F':=⟨⟨_,rfl,h⟩,l⟩
end
theorem St.up {G F F':PH} {As:List (Ψ)} (h:St G F As) (l:F.le F'):St G F' As:=by obtain ⟨Hs,h1,h2⟩:=h.ex;exact ⟨aa h.le l,Hs,λi A hi=>⟨(h1 i A hi).1,(h1 i A hi).2.1,aa (h1 i A hi).2.2 l⟩,h2⟩
theorem cW {a:Bool} (h:(!a)=Y6):a=Y8:=by cases a<;>first|rfl|cases h
section
variable {F:PH}
theorem Ba (b:Nat) (F:PH):ν 196 #[Zf .u8 (b:Int)] F (RB F (gp b)):=by refine Rt ?_;unfold Mg gp;refine ⟨λh1=>⟨λh2=> .yes (by omega) (am _),λh2=>⟨λh3=>⟨λh4=> .yes (by omega) (am _),λh4=> .dec (by omega) (am _)⟩,λh3=> .dec (by omega) (am _)⟩⟩,λh1=>⟨λh3=>⟨λh4=> .yes (by omega) (am _),λh4=> .dec (by omega) (am _)⟩,λh3=> .dec (by omega) (am _)⟩⟩
theorem Ex (s:ο):ju s=Y8↔(∀i,i<s.size->(gp ((bs s).getD i 0)\/(i≠0/\iC ((bs s).getD i 0))))/\s≠emp:=by unfold ju vA;rw [XJ,XD,cU];simp only [XN,XU,δ,XJ,bne_iff_ne,ne_eq,Ye,List.isEmpty_eq_false_iff];refine and_congr_right λ_=>not_congr ⟨λe=>wE (e.trans rfl),λe=>by rw [e];rfl⟩
theorem sT (s:ο) (hs:s.size<=1000000000):ν 164 #[Zg s] F (RB F (ju s=Y8)):=by
 refine Rh ?_;unfold L6;rw [Ex];refine bh (vW · s _) s.size (λk F'=>F.le F'/\∀i,i<k->(gp ((bs s).getD i 0)\/(i≠0/\iC ((bs s).getD i 0)))) ⟨am F,λi h=>by omega⟩ ?_;rintro k F1 N hk ⟨hl,hi⟩ next;unfold vW;refine ⟨λhlt=> ?_,λhge=> ?_⟩
 ·have hlt:k<s.size:=by omega
  have hx:Zd (k:Int)<s.size:=by simpa using hlt
  have hv:(((bs s).getD k 0:Nat):Int)=((s[Zd (k:Int)]'hx).toNat:Int):=by rw [<- FF s k hlt];rfl
  generalize hc:(bs s).getD k 0=c at hv;have bad:∀{F2},F1.le F2->¬(gp c\/(k≠0/\iC c))->RB F ((∀i,i<s.size->(gp ((bs s).getD i 0)\/(i≠0/\iC ((bs s).getD i 0))))/\s≠emp) (Za Y6) F2:=λl hn=> .no (λhp=>hn (by rw [<- hc];exact hp.1 k hlt)) (aa hl l);have good:∀{F2},F1.le F2->(gp c\/(k≠0/\iC c))->pv N s (k:Int) (RB F ((∀i,i<s.size->(gp ((bs s).getD i 0)\/(i≠0/\iC ((bs s).getD i 0))))/\s≠emp)) F2:=λl hg=>by
   unfold pv;rw [aA hlt];refine next _ hlt ⟨aa hl l,λi hi'=> ?_⟩;by_cases e:i=k
   ·rw [e,hc];exact hg
   ·exact hi i (by omega)
  have j3:∀d:Bool,(d=Y8↔iC c)->px N s (k:Int) d (RB F ((∀i,i<s.size->(gp ((bs s).getD i 0)\/(i≠0/\iC ((bs s).getD i 0))))/\s≠emp)) F1:=λd hd=>by
   unfold px;refine ⟨by omega,by omega,hx,(c:Int),hv,?_⟩;refine (Ba c F1).mono ?_;rintro _ F2 ⟨⟨q,rfl,hq⟩,l2⟩;refine ⟨q,rfl,λh=> ?_,λh=>good l2 (.inl (hq.1 (cW h)))⟩;have hnl:¬gp c:=λhl'=>by rw [hq.2 hl'] at h;cases h
   refine ⟨λh1=>bad l2 ?_,λh1=>⟨λh0=>bad l2 ?_,λh0=>good l2 (.inr ⟨by omega,hd.1 (cW h1)⟩)⟩⟩
   ·rintro (h|h)
    ·exact hnl h
    ·rw [hd.2 h.2] at h1;cases h1
   ·rintro (h|h)
    ·exact hnl h
    ·omega
  refine ⟨by omega,by omega,hx,(c:Int),hv,λh1=>⟨by omega,by omega,hx,(c:Int),hv,j3 _ ?_⟩,λh1=>j3 _ ⟨λh=>(by cases h),λh=>by unfold iC at h;omega⟩⟩;rw [δ];unfold iC;omega
 ·have e:k=s.size:=by omega
  subst e;unfold BX;rw [gY];refine .is ?_ hl;rw [Ye,decide_eq_false_iff_not];exact ⟨λh=>⟨hi,h⟩,λh=>h.2⟩
theorem j8 {s:Sl} {l:List ο} (hs:RL F s l) (hl:l.length<=1000000000) {n:Nat} {x:ο} (hx:l[n]? =Y3 x):ν 165 #[s.v,vi n] F (RB F (x≠emp/\x ∉ l.take n)):=by
 have es:=hs.len;have hn:=(N6.1 hx).1;have get:∀{F'},F.le F'->∀{i:Nat} {y:ο},l[i]? =Y3 y->∃a:Addr,s.YZ=Y3 a/\0<=(i:Int)/\(i:Int)<(s.len:Int)/\F'.cell (Zb a (Zd (i:Int)*1))=Y3 (Zg y):=λ{F'} hle {i y} hy=>by have:=(N6.1 hy).1;obtain ⟨a,c,ha,hr,hc⟩:=(hs.le hle).get (by decide) hy;rw [show c= #[Zg y] from hc] at hr;exact ⟨a,ha,by omega,by omega,by rw [N4];exact aQ hr rfl⟩
 refine Ri ?_;unfold L7;refine bh (vX · s (n:Int) _) n (λk F'=>F.le F'/\x ∉ l.take k) ⟨am F,by simp⟩ ?_;rintro k F1 N hk ⟨hle,hi⟩ next;unfold vX;refine ⟨λhlt=> ?_,λhge=> ?_⟩
 ·have hlt:k<n:=by omega
  have hy:=N5 (show k<l.length by omega);generalize l[k]=y at hy;obtain ⟨a,h1,h2,h3,h4⟩:=get hle hy;obtain ⟨a',g1,g2,g3,g4⟩:=get hle hx;refine ⟨a,h1,h2,h3,_,h4,a',g1,g2,g3,_,g4,?_⟩;dsimp only;rw [gY];refine ⟨λh=> .no (λhp=>hp.2 ?_) hle,λh=> ?_⟩
  ·rw [<- ε h];refine W7 (i:=k) ?_;rw [XG hlt];exact hy
  ·rw [aA hlt];refine next _ hlt ⟨hle,λhm=> ?_⟩;rw [aO hy] at hm;rcases W9.1 hm with hm|hm
   ·exact hi hm
   ·exact η h (W5.1 hm).symm
 ·have e:k=n:=by omega
  subst e;unfold BY;obtain ⟨a',g1,g2,g3,g4⟩:=get hle hx;refine ⟨a',g1,g2,g3,_,g4,?_⟩;dsimp only;rw [gY];refine .is ?_ hle;rw [Ye,decide_eq_false_iff_not];exact ⟨λh=>⟨h,hi⟩,λh=>h.1⟩
structure Sml (g:Gr):Prop where
 m:Sm g
 z:Sz g
 n:g.fam.1.length<=1000000
 t:∀t∈g.YX,t.cond.1.length<=1000000
 p:∀t∈g.YV,t.cond.1.length<=1000000
 l:∀t∈g.lvs,t.cond.1.length<=1000000
 f:∀t∈g.fils,t.cond.1.length<=1000000
theorem Ey {v:Γ} {g:Gr} (hg:GV F v g) (hm:Sm g):ν 114 #[Y9 v] F (RB F (bM g=Y8)):=by
 obtain ⟨c,n,t,s,p,l,f,rfl,hs⟩:=hg;have ec:=hs.c.len;have et:=hs.t.len;have es:=hs.s.len;have ep:=hs.p.len;have el:=hs.l.len;have ef:=hs.f.len;have hpm:=hm.p;have hL:bM g=Y8↔(64<g.YY.length\/256<g.YX.length\/4096<g.fils.length\/2000<g.YW.length\/2000<g.YV.length\/2000<g.lvs.length)\/∃p∈g.YV,16<p.right.length\/16<p.lay.length:=by unfold bM;rw [XU,δ,X5];simp only [δ]
 refine QZ ?_;unfold LI;refine fresh λb1 F1 l1 q1 _=> ?_;rw [hL];refine ⟨_,ld q1 rfl,λh=> .yes (.inl (by omega)) l1,λh1=>⟨_,ld q1 rfl,λh=> .yes (.inl (by omega)) l1,λh2=>⟨_,ld q1 rfl,λh=> .yes (.inl (by omega)) l1,λh3=>⟨_,ld q1 rfl,λh=> .yes (.inl (by omega)) l1,λh4=>⟨_,ld q1 rfl,λh=> .yes (.inl (by omega)) l1,λh5=>⟨_,ld q1 rfl,λh=> .yes (.inl (by omega)) l1,λh6=> ?_⟩⟩⟩⟩⟩⟩;refine bh (vM · b1 _) g.YV.length (λk F'=>F1.le F'/\∀p∈g.YV.take k,¬(16<p.right.length\/16<p.lay.length)) ⟨am _,by simp⟩ ?_;rintro k F2 N hk ⟨l2,hi⟩ next;unfold vM;have l12:=aa l1 l2;refine ⟨_,ld (l2 _ _ q1) rfl,λhlt=> ?_,λhge=> ?_⟩
 ·have hlt:k<g.YV.length:=by omega
  refine ⟨_,ld (l2 _ _ q1) rfl,ixc (hs.p.le l12) (by decide) (by omega) (by omega) λa cc x hx hr hc=> ?_⟩;rw [N4] at hx;have hxm:=W7 hx;obtain ⟨r1,n1,y1,rfl,hr1,hn1,hy1⟩:=hc;have e1:=hr1.len;have e2:=hy1.len;refine ⟨_,bj hr rfl,λh=> .yes (.inr ⟨x,hxm,by omega⟩) l12,λha=>⟨_,ld (l2 _ _ q1) rfl,ixc (hs.p.le l12) (by decide) (by omega) (by omega) λa' c' x' hx' hr' hc'=> ?_⟩⟩;rw [N4,hx] at hx';cases hx';obtain ⟨r2,n2,y2,rfl,hr2,hn2,hy2⟩:=hc';have e3:=hy2.len;refine ⟨_,bj hr' rfl,λh=> .yes (.inr ⟨x,hxm,by omega⟩) l12,λhb=> ?_⟩;rw [aA hlt];refine next _ hlt ⟨l2,λp hp=> ?_⟩;rw [aO hx] at hp;rcases W9.1 hp with hp|hp
  ·exact hi p hp
  ·rw [W5.1 hp];omega
 ·have e:k=g.YV.length:=by omega
  subst e;rw [Xg] at hi;unfold BK;exact .no (λh=>h.elim (λh=>by omega) λ⟨p,hp,h⟩=>hi p hp h) l12
theorem Be {v:Γ} {g:Gr} (hg:GV F v g) (hz:Sml g):ν 115 #[Y9 v] F (RB F (gc g)):=by
 obtain ⟨c,n,t,s,p,l,f,rfl,hs⟩:=hg;have ec:=hs.c.len;have hcl:=hz.m.c;have hfl:=hz.n;refine Q0 ?_;unfold LJ;refine fresh λb1 F1 l1 q1 _=> ?_;refine bh (vN · b1 _) g.YY.length (λk F'=>F1.le F'/\(∀s∈g.YY.take k,nj s)/\bv (g.YY.take k)) ⟨am _,by simp,by simp [bv]⟩ ?_;rintro k F2 N hk ⟨l2,hi,hi2⟩ next;have l12:=aa l1 l2;unfold vN;refine ⟨_,ld (l2 _ _ q1) rfl,λhlt=> ?_,λhge=> ?_⟩
 ·have hlt:k<g.YY.length:=by omega
  refine ⟨_,ld (l2 _ _ q1) rfl,ixc (hs.c.le l12) (by decide) (by omega) (by omega) λa cc x hx hr hc=> ?_⟩;rw [N4] at hx;rw [show cc= #[Zg x] from hc] at hr;have hxm:x∈g.YY:=W7 hx;refine ⟨_,aQ hr rfl,?_⟩;refine (sT x (hz.z.c x hxm)).mono ?_;rintro _ F3 ⟨⟨b,rfl,hb⟩,l3⟩;have l13:=aa l12 l3;have q3:=l3 _ _ (l2 _ _ q1);refine ⟨b,rfl,λh=> .no (λhn=>by rw [hb.2 (hn.1 x hxm).1] at h;cases h) l13,λh1=>⟨_,ld q3 rfl,?_⟩⟩;refine (j8 (hs.c.le l13) hcl hx).mono ?_;rintro _ F4 ⟨⟨b',rfl,hb'⟩,l4⟩;have l14:=aa l13 l4;refine ⟨b',rfl,λh=> .no (λhn=> ?_) l14,λh2=> ?_⟩
  ·have:=fR hn.2.1 (k+1);rw [aO hx,cH] at this;rw [hb'.2 this.2] at h;cases h
  ·rw [gY,gY];refine ⟨λh=> .no (λhn=>(hn.1 x hxm).2.1 (ε h)) l14,λh3=>⟨λh=> .no (λhn=>(hn.1 x hxm).2.2 (ε h)) l14,λh4=> ?_⟩⟩;rw [aA hlt];refine next _ hlt ⟨aa l2 (aa l3 l4),λs hs'=> ?_,?_⟩
   ·rw [aO hx] at hs';rcases W9.1 hs' with hs'|hs'
    ·exact hi s hs'
    ·rw [W5.1 hs'];exact ⟨hb.1 (cW h1),η h3,η h4⟩
   ·rw [aO hx,cH];exact ⟨hi2,hb'.1 (cW h2)⟩
 ·have e:k=g.YY.length:=by omega
  subst e;rw [Xg] at hi hi2;unfold BL;refine ⟨#[n.v,vi g.fam.2],rfl,je (l2 _ _ q1) rfl,_,ld (l2 _ _ q1) rfl,?_⟩;dsimp only;rw [ec];refine (jr (d:=g.fam) (DV.mk (hs.n.le l12)) (by unfold Fit;omega) hfl).mono ?_;rintro _ F3 ⟨rfl,l3⟩;refine ⟨_,rfl,λh=>⟨_,ld (l3 _ _ (l2 _ _ q1)) rfl,?_⟩,λh=> .no (λhn=> ?_) (aa l12 l3)⟩
  ·exact .dec ⟨λh0=>⟨hi,hi2,bD.1 h,h0⟩,λhn=>hn.2.2.2⟩ (aa l12 l3)
  ·rw [bD.2 hn.2.2.1] at h;cases h
theorem IK {v:Γ} {g:Gr} (hg:GV F v g) (hz:Sml g):ν 117 #[Y9 v] F (RB F (eW g)):=by
 obtain ⟨c,n,t,s,p,l,f,rfl,hs⟩:=hg;have ec:=hs.s.len;have hcl:=hz.m.s;refine Q2 ?_;unfold LM;refine fresh λb1 F1 l1 q1 _=> ?_;refine bh (vO · b1 _) g.YW.length (λk F'=>F1.le F'/\bv (g.YW.take k)) ⟨am _,by simp [bv]⟩ ?_;rintro k F2 N hk ⟨l2,hi2⟩ next;have l12:=aa l1 l2;unfold vO;refine ⟨_,ld (l2 _ _ q1) rfl,λhlt=> ?_,λhge=> ?_⟩
 ·have hlt:k<g.YW.length:=by omega
  have hx:=N5 hlt;generalize g.YW[k]=x at hx;refine ⟨_,ld (l2 _ _ q1) rfl,?_⟩;refine (j8 (hs.s.le l12) hcl hx).mono ?_;rintro _ F4 ⟨⟨b',rfl,hb'⟩,l4⟩;have l14:=aa l12 l4;refine ⟨b',rfl,λh=> .no (λhn=> ?_) l14,λh2=> ?_⟩
  ·have:=fR hn.1 (k+1);rw [aO hx,cH] at this;rw [hb'.2 this.2] at h;cases h
  ·rw [aA hlt];refine next _ hlt ⟨aa l2 l4,?_⟩;rw [aO hx,cH];exact ⟨hi2,hb'.1 (cW h2)⟩
 ·have e:k=g.YW.length:=by omega
  subst e;rw [Xg] at hi2;unfold BO;refine ⟨_,ld (l2 _ _ q1) rfl,λh=>⟨_,ld (l2 _ _ q1) rfl,_,ld (l2 _ _ q1) rfl,.dec ?_ l12⟩,λh=> .no (λhn=>h hn.2.1) l12⟩;rw [ec];exact ⟨λh'=>⟨hi2,h,h'⟩,λh=>h.2.2⟩
theorem uI {v:Γ} {x:Pr} (hp:Mem.rep F x v) (k:Int) (hr:x.right.length<=1000000000):ν 200 #[Y9 v,vi k] F (RB F (k=0\/(0<k/\k<=x.right.length/\∃s,x.right[(k - 1).toNat]? =Y3 s/\s.t=Y8))):=by
 obtain ⟨r,n,l,rfl,h1,h2,h3⟩:=hp;have er:=h1.len;refine Rv ?_;unfold Mh;refine fresh λb2 F1 l1 q1 _=>⟨λh=> .yes (.inl h) l1,λh0=>⟨λhk=>⟨_,ld q1 rfl,λhle=> ?_,λh=> .no (λhp=> ?_) l1⟩,λh=> .no (λhp=> ?_) l1⟩⟩
 ·refine ⟨_,ld q1 rfl,?_⟩;dsimp only;have ew:i64.wrap (k - 1)=k - 1:=aP (by omega);rw [ew];refine ixc (h1.le l1) (by decide) (by omega) (by omega) λa c y hy hr' hc=> ?_;rw [show c=y.arr from hc] at hr';refine ⟨_,aQ hr' rfl,.is ⟨λh=> .inr ⟨hk,by omega,y,hy,h⟩,λhp=> ?_⟩ l1⟩;rcases hp with hp|⟨_,_,s,hs,ht⟩
  ·exact absurd hp h0
  ·rw [hy] at hs;cases hs;exact ht
 ·rcases hp with hp|hp
  ·exact h0 hp
  ·omega
 ·rcases hp with hp|hp
  ·exact h0 hp
  ·exact h hp.1
theorem Ez {v:Γ} {x:Pr} (hp:Mem.rep F x v) (hr:x.right.length<=1000000000):ν 170 #[Y9 v] F (RB F (cS x.right x.sco.d x.sco.k 1 7/\cS x.right x.sco.u x.sco.a 0 255)):=by
 have hp0:=hp;obtain ⟨r,n,l,rfl,h1,h2,h3⟩:=hp;refine Ro ?_;unfold Mc;refine fresh λb1 F1 l1 q1 _=>⟨x.sco.arr,rfl,je q1 rfl,?_⟩;refine var1 (by simp [ak]) (λb3 F2 l2 q3=> ?_) rfl rfl;have l12:=aa l1 l2;refine ⟨_,rfl,ac (l2 _ _ q1),_,ld q3 rfl,?_⟩;refine (uI (Mem.le l12 hp0) x.sco.d hr).mono ?_;rintro _ F3 ⟨⟨b,rfl,hb⟩,l3⟩;have l13:=aa l12 l3;have q1':=l3 _ _ (l2 _ _ q1);have q3':=l3 _ _ q3;refine ⟨b,rfl,λh=> .no (λhn=> ?_) l13,λhd=>⟨_,rfl,ac q1',_,ld q3' rfl,?_⟩⟩
 ·have:b=Y8:=hb.2 (hn.1.elim (λh=> .inl h.1) λh=> .inr ⟨h.1,h.2.1,h.2.2.1⟩);rw [this] at h;cases h
 refine (uI (Mem.le l13 hp0) x.sco.u hr).mono ?_;rintro _ F4 ⟨⟨b',rfl,hb'⟩,l4⟩;have l14:=aa l13 l4;have q4:=l4 _ _ q3';refine ⟨b',rfl,λh=> .no (λhn=> ?_) l14,λhu=> ?_⟩
 ·have:b'=Y8:=hb'.2 (hn.2.elim (λh=> .inl h.1) λh=> .inr ⟨h.1,h.2.1,h.2.2.1⟩);rw [this] at h;cases h
 have hD:=hb.1 (cW hd);have hU:=hb'.1 (cW hu);have eD:cS x.right x.sco.d x.sco.k 1 7↔(x.sco.d=0/\x.sco.k=0)\/(x.sco.d≠0/\1<=x.sco.k/\x.sco.k<=7):=by
  unfold cS;constructor
  ·rintro (h|h)
   ·exact .inl h
   ·exact .inr ⟨by omega,h.2.2.2⟩
  ·rintro (h|h)
   ·exact .inl h
   ·have h':=hD.resolve_left h.1;exact .inr ⟨h'.1,h'.2.1,h'.2.2,h.2⟩
 have eU:cS x.right x.sco.u x.sco.a 0 255↔(x.sco.u=0/\x.sco.a=0)\/(x.sco.u≠0/\0<=x.sco.a/\x.sco.a<=255):=by
  unfold cS;constructor
  ·rintro (h|h)
   ·exact .inl h
   ·exact .inr ⟨by omega,h.2.2.2⟩
  ·rintro (h|h)
   ·exact .inl h
   ·have h':=hU.resolve_left h.1;exact .inr ⟨h'.1,h'.2.1,h'.2.2,h.2⟩
 rw [eD,eU];have j2:∀a c:Bool,(a=Y8↔(x.sco.d=0/\x.sco.k=0)\/(x.sco.d≠0/\1<=x.sco.k/\x.sco.k<=7))->(c=Y8↔(x.sco.u=0/\x.sco.a=0)\/(x.sco.u≠0/\0<=x.sco.a/\x.sco.a<=255))->fS a c (RB F (((x.sco.d=0/\x.sco.k=0)\/(x.sco.d≠0/\1<=x.sco.k/\x.sco.k<=7))/\((x.sco.u=0/\x.sco.a=0)\/(x.sco.u≠0/\0<=x.sco.a/\x.sco.a<=255)))) F4:=λa c ha hc=>by unfold fS;exact ⟨λh=> .is ⟨λh'=>⟨ha.1 h,hc.1 h'⟩,λh'=>hc.2 h'.2⟩ l14,λh=> .no (λh'=>by rw [ha.2 h'.1] at h;cases h) l14⟩
 have j1:∀a:Bool,(a=Y8↔(x.sco.d=0/\x.sco.k=0)\/(x.sco.d≠0/\1<=x.sco.k/\x.sco.k<=7))->fU b3 a (RB F (((x.sco.d=0/\x.sco.k=0)\/(x.sco.d≠0/\1<=x.sco.k/\x.sco.k<=7))/\((x.sco.u=0/\x.sco.a=0)\/(x.sco.u≠0/\0<=x.sco.a/\x.sco.a<=255)))) F4:=λa ha=>by
  unfold fU;refine ⟨_,ld q4 rfl,λk1=>⟨_,ld q4 rfl,λk2=>j2 a _ ha ⟨λ_=> .inl ⟨k1,k2⟩,λ_=>rfl⟩,λk2=>⟨_,ld q4 rfl,λk3=>absurd k1 k3,λ_=>j2 a _ ha ⟨λh=>(by cases h),λh=>by omega⟩⟩⟩,λk1=>⟨_,ld q4 rfl,λk3=>⟨_,ld q4 rfl,λk4=>⟨_,ld q4 rfl,j2 a _ ha ?_⟩,λk4=>j2 a _ ha ⟨λh=>(by cases h),λh=>by omega⟩⟩,λk3=>absurd k1 k3⟩⟩;rw [δ];constructor
  ·intro h;exact .inr ⟨k1,k4,h⟩
  ·intro h;omega
 refine ⟨_,ld q4 rfl,λk1=>⟨_,ld q4 rfl,λk2=>j1 _ ⟨λ_=> .inl ⟨k1,k2⟩,λ_=>rfl⟩,λk2=>⟨_,ld q4 rfl,λk3=>absurd k1 k3,λ_=>j1 _ ⟨λh=>(by cases h),λh=>by omega⟩⟩⟩,λk1=>⟨_,ld q4 rfl,λk3=>⟨_,ld q4 rfl,λk4=>⟨_,ld q4 rfl,j1 _ ?_⟩,λk4=>j1 _ ⟨λh=>(by cases h),λh=>by omega⟩⟩,λk3=>absurd k1 k3⟩⟩;rw [δ];constructor
 ·intro h;exact .inr ⟨k1,k4,h⟩
 ·intro h;omega
end
def PE (n:Nat) (t:Tk):Prop:=0<=t.cls/\t.cls<=2/\iD t.cond n/\(t.lit≠emp->t.smp=emp/\t.pat=[])/\(t.lit=emp->fH t.pat=0/\(t.cls=0->t.smp≠emp/\LgL t.pat (bs t.smp))/\(t.cls≠0->t.smp=emp))
theorem IL {n:Nat} {done:List ο} {t:Tk}:zJ n done t↔(t.name≠emp/\t.name ∉ done)/\PE n t:=by unfold zJ PE;rw [and_assoc]
section
variable {F:PH}
theorem EA {v:Γ} {x:Tk} {n:Nat} (hx:Mem.rep F x v) (hc:x.cond.1.length<=1000000) (hs:x.smp.size<=100000):ν 167 #[Y9 v,vi n] F (RB F (PE n x)):=by
 obtain ⟨p,m,rfl,hp,hm⟩:=hx;have ep:=hp.len;refine Rk ?_;unfold L9;refine fresh λb2 F1 l1 q1 _=>⟨_,ld q1 rfl,λh=> .no (λhn=>by have:=hn.1;omega) l1,λh0=>⟨_,ld q1 rfl,λh=> .no (λhn=>by have:=hn.2.1;omega) l1,λh1=>⟨#[m.v,vi x.cond.2],rfl,je q1 rfl,?_⟩⟩⟩;refine (jr (d:=x.cond) (DV.mk (hm.le l1)) (by unfold Fit;omega) hc).mono ?_;rintro _ F2 ⟨rfl,l2⟩;have l12:=aa l1 l2;refine ⟨_,rfl,λh=> .no (λhn=> ?_) l12,λhf=>⟨_,ld (l2 _ _ q1) rfl,?_⟩⟩
 ·rw [bD.2 hn.2.2.1] at h;cases h
 have hfit:=bD.1 (cW hf);dsimp only;rw [gY];refine ⟨λhl=> ?_,λhl=> ?_⟩
 ·have hl:x.lit≠emp:=λe=>by rw [ζ e] at hl;cases hl
  refine ⟨_,ld (l2 _ _ q1) rfl,λh=>⟨_,ld (l2 _ _ q1) rfl,?_⟩,λh=> .no (λhn=> ?_) l12⟩
  ·dsimp only;rw [gY];refine .dec ⟨λe=>⟨by omega,by omega,hfit,λ_=>⟨e,Xp (by omega)⟩,λe=>absurd e hl⟩,λhn=>(hn.2.2.2.1 hl).1⟩ l12
  ·rw [(hn.2.2.2.1 hl).2] at ep;exact h (by rw [ep];rfl)
 ·have hl:x.lit=emp:=by
   cases e:decide (x.lit=emp) with
   |true=>exact ε e
   |false=>rw [e] at hl;cases hl
  refine ⟨_,ld (l2 _ _ q1) rfl,?_⟩;refine (kG (RL.nds.1 (hp.le l12))).mono ?_;rintro _ F3 ⟨rfl,l3⟩;have l13:=aa l12 l3;have q3:=l3 _ _ (l2 _ _ q1);refine ⟨_,rfl,λh=> .no (λhn=>h (hn.2.2.2.2 hl).1) l13,λhk=>⟨_,ld q3 rfl,λhc0=>⟨_,ld q3 rfl,?_⟩,λhc0=>⟨_,ld q3 rfl,?_⟩⟩⟩
  ·dsimp only;rw [gY];exact .dec ⟨λe=>⟨by omega,by omega,hfit,λh=>absurd hl h,λ_=>⟨Decidable.not_not.1 hk,λh=>absurd h hc0,λ_=>e⟩⟩,λhn=>(hn.2.2.2.2 hl).2.2 hc0⟩ l13
  ·have hc0:=Decidable.not_not.1 hc0;dsimp only;rw [gY];refine ⟨λhse=>⟨_,ld q3 rfl,_,ld q3 rfl,?_⟩,λhse=> .no (λhn=> ?_) l13⟩
   ·refine (oW (RL.nds.1 (hp.le l13)) x.smp hs).mono ?_;rintro _ F4 ⟨⟨q,rfl,hq⟩,l4⟩;refine ⟨q,rfl,.is ⟨λh=> ?_,λhn=>hq.2 ⟨(hn.2.2.2.2 hl).1,((hn.2.2.2.2 hl).2.1 hc0).2⟩⟩ (aa l13 l4)⟩;have:=hq.1 h;exact ⟨by omega,by omega,hfit,λh=>absurd hl h,λ_=>⟨this.1,λ_=>⟨λe=>(by rw [ζ e] at hse;cases hse),this.2⟩,λh=>absurd hc0 h⟩⟩
   ·have:=((hn.2.2.2.2 hl).2.1 hc0).1;rw [ι this] at hse;cases hse
theorem sU {G F:PH} {s:Sl} {l:List ο} {As:List (Ψ)} (h:St G F (own s 9 1 (l.map Zg)::As)) (x:ο) (hl:l.length<=10000000000) {K:Sl->Ψ}
  (k:∀s' G' F',G.le G'->St G' F' (own s' 9 1 ((l++[x]).map Zg)::As)->RL F' s' (l++[x])->K s' F'):
  ∀b,F b=Y5->atF (F.set b (Y4 #[Zg x] 9)) λF=>aF prog (Builtin.append_ #[28,28] 28 #[s.v,Y7 (Zj (Y3 (Zc b 0 Y5)) 1 1)]) F λv F=>∃s':Sl,v=Y7 s'/\K s' F:=by
 have hs:s.len=l.length:=by have:=(h.ownAt (i:=0) rfl).1.rd.len;rw [Xd] at this;omega
 refine h.push0 QI (c:= #[Zg x]) rfl (by simp [ak]) (by omega) λs' G' F' l' h' _=> ?_;have e:l.map Zg++(#[Zg x]:Γ).toList=(l++[x]).map Zg:=by rw [Xt];rfl
 rw [e] at h';exact k s' G' F' l' h' (RL.strs.2 (h'.ownAt (i:=0) rfl).1.rd)
theorem Bf {v:Γ} {g:Gr} (hg:GV F v g) (hz:Sml g):ν 116 #[Y9 v] F (RB F (di g.YY.length [] g.YX)):=by
 obtain ⟨c,n,t,s,p,l,f,rfl,hs⟩:=hg;have ec:=hs.c.len;have et:=hs.t.len;have hcl:=hz.m.t;refine Q1 ?_;unfold LL;refine (St.start F).newG λb1 G1 F1 l1 q1 _ h=> ?_;refine h.new λb5 F2 h=> ?_;have h:=h.imp (A':=own (Zj (Y3 (Zc b5 0 Y5)) 0 0) 9 1 []) 0 rfl λH _ hH=>fY hH
 refine ⟨λm nm i F'=>∃(k:Nat) (G:PH),i=(k:Int)/\m=g.YX.length - k/\k<=g.YX.length/\G1.le G/\St G F' [own nm 9 1 (((g.YX.take k).map Tk.name).map Zg)]/\(di g.YY.length [] g.YX↔di g.YY.length ((g.YX.take k).map Tk.name) (g.YX.drop k)),g.YX.length,
  ⟨0,G1,rfl,rfl,by omega,am _,h,Iff.rfl⟩,?_⟩
 rintro m nm i F3 ⟨k,G,rfl,rfl,hk,lG,h,hE⟩;have l1G:=aa l1 lG;unfold BN;have lF:=aa l1G h.le;refine ⟨_,ld (h.le _ _ (lG _ _ q1)) rfl,λhlt=> ?_,λhge=> ?_⟩
 ·have hlt:k<g.YX.length:=by omega
  refine ⟨_,ld (h.le _ _ (lG _ _ q1)) rfl,ixc (hs.t.le lF) (by decide) (by omega) (by omega) λa cc x hx hr hc=> ?_⟩;rw [N4] at hx;have hxm:=W7 hx;obtain ⟨pp,pn,rfl,hpp,hpn⟩:=hc;rw [bP hx,di,IL] at hE;refine ⟨_,aQ hr rfl,?_⟩;refine sU h x.name (by rw [Xd,Xe];omega) λs' G' F4 lG' h hrl=> ?_;have lF4:=aa l1G (aa lG' h.le);have hnx:((g.YX.take k).map Tk.name++[x.name])[k]? =Y3 x.name:=by rw [Xn (by rw [Xd,Xe];omega),Xd,Xe,Nat.min_eq_left hk,Nat.sub_self];rfl
  have htk:((g.YX.take k).map Tk.name++[x.name]).take k=(g.YX.take k).map Tk.name:=by rw [Xs (by rw [Xd,Xe];omega),Xf (by rw [Xd,Xe];omega)]
  refine (j8 hrl (by rw [Xa,Xd,Xe,Xk];omega) hnx).mono ?_;rintro _ F5 ⟨⟨b,rfl,hb⟩,l5⟩;rw [htk] at hb;have h:=h.up l5;have lF5:=aa lF4 l5;have q5:=h.le _ _ (lG' _ _ (lG _ _ q1));refine ⟨b,rfl,λhn=> .no (λho=> ?_) lF5,λhn=>⟨_,ld q5 rfl,ixc (hs.t.le lF5) (by decide) (by omega) (by omega) λa' c' x' hx' hr' hc'=> ?_⟩⟩
  ·rw [hb.2 (hE.1 ho).1.1] at hn;cases hn
  ·rw [N4,hx] at hx';cases hx';refine ⟨_,Mem.len hc',hr',_,ld q5 rfl,?_⟩;dsimp only;rw [ec];refine (EA hc' (hz.t x hxm) (hz.z.t x hxm)).mono ?_;rintro _ F6 ⟨⟨b',rfl,hb'⟩,l6⟩;have h:=h.up l6;have lF6:=aa lF5 l6;refine ⟨b',rfl,ld (l6 _ _ q5) rfl,ld (l6 _ _ q5) rfl,λhn'=> .no (λho=> ?_) lF6,λhn'=> ?_⟩
   ·rw [hb'.2 (hE.1 ho).1.2] at hn';cases hn'
   ·rw [aA hlt];refine ⟨g.YX.length - (k+1),by omega,k+1,G',rfl,rfl,by omega,aa lG lG',?_,?_⟩
    ·rw [aO hx,Xt];exact h
    ·rw [aO hx,Xt];exact hE.trans ⟨λh=>h.2,λh=>⟨⟨hb.1 (cW hn),hb'.1 (cW hn')⟩,h⟩⟩
 ·have e:k=g.YX.length:=by omega
  rw [e,XQ,di] at hE;unfold BM;exact .yes (hE.2 trivial) lF
theorem yG {v w:Γ} {g:Gr} {x:Pr} (hg:GV F v g) (hx:Mem.rep F x w) (hl:x.right.length<=1000000000):ν 168 #[Y9 v,Y9 w] F (RB F (eX g x)):=by
 obtain ⟨c,n,t,s,p,l,f,rfl,hs⟩:=hg;obtain ⟨r,m,y,rfl,hr,hm,hy⟩:=hx;have et:=hs.t.len;have es:=hs.s.len;have er:=hr.len;refine Rl ?_;unfold Ma;refine fresh λb2 F1 l1 q2 _=>fresh λb3 F2 l2 q3 _=> ?_;have l12:=aa l1 l2;have q2:=l2 _ _ q2;refine bh (vZ · b2 b3 _) x.right.length (λk F'=>F2.le F'/\∀s∈x.right.take k,kj g s) ⟨am _,by simp⟩ ?_;rintro k F3 N hk ⟨l3,hi⟩ next;have l13:=aa l12 l3;unfold vZ;refine ⟨_,ld (l3 _ _ q3) rfl,λhlt=> ?_,λhge=> ?_⟩
 ·have hlt:k<x.right.length:=by omega
  refine ⟨_,ld (l3 _ _ q3) rfl,ixc (hr.le l13) (by decide) (by omega) (by omega) λa cc z hz hrz hc=> ?_⟩;rw [N4] at hz;rw [show cc=z.arr from hc] at hrz;have hzm:=W7 hz;refine ⟨_,rfl,hrz,?_⟩;refine var1 (by simp [ak]) (λb6 F4 l4 q6=> ?_) rfl rfl;have l14:=aa l13 l4;have p2:=l4 _ _ (l3 _ _ q2);have good:kj g z->py N b2 b3 (k:Int) (RB F (eX g x)) F4:=λh=>by
   unfold py;rw [aA hlt];refine next _ hlt ⟨aa l3 l4,λs hs'=> ?_⟩;rw [aO hz] at hs';rcases W9.1 hs' with hs'|hs'
   ·exact hi s hs'
   ·rw [W5.1 hs'];exact h
  have bad:¬kj g z->RB F (eX g x) (Za Y6) F4:=λh=> .no (λho=>h (ho.2 z hzm)) l14;have j3:∀most:Nat,most=(if z.t then g.YX.length else g.YW.length)->pz N b2 b3 (k:Int) b6 (most:Int) (RB F (eX g x)) F4:=λmost hmost=>by
   unfold pz;refine ⟨_,ld q6 rfl,λh=>bad λhn=>by have:=hn.1;omega,λh0=>⟨_,ld q6 rfl,λh=>bad λhn=> ?_,λh1=>⟨_,ld q6 rfl,λht=>⟨_,ld p2 rfl,_,ld q6 rfl,?_⟩,λht=>good ⟨by omega,λ_=> ?_,λh=>by rw [ht] at h;cases h⟩⟩⟩⟩
   ·cases e:z.t with
    |true=>rw [e,Χ rfl] at hmost;obtain ⟨u,hu,_⟩:=hn.2.2 e;have:=(N6.1 hu).1;have:=hn.1;omega
    |false=>rw [e,Υ (by decide)] at hmost;have:=hn.2.1 e;omega
   ·rw [ht,Χ rfl] at hmost;refine ixc (hs.t.le l14) (by decide) (by omega) (by omega) λa2 c2 u hu hru hcu=> ?_;obtain ⟨p2,n2,rfl,_⟩:=hcu;refine ⟨_,bj hru rfl,λh=>bad λhn=> ?_,λh=>good ⟨by omega,λh=>(by rw [ht] at h;cases h),λ_=>⟨u,hu,Decidable.not_not.1 h⟩⟩⟩;obtain ⟨u',hu',hc'⟩:=hn.2.2 ht;rw [hu] at hu';cases hu';exact h hc'
   ·rw [ht,Υ (by decide)] at hmost;omega
  refine ⟨_,ld p2 rfl,_,ld q6 rfl,λht=>⟨_,ld p2 rfl,?_⟩,λht=> ?_⟩
  ·dsimp only;rw [et];exact j3 _ (by rw [ht];rfl)
  ·rw [es];exact j3 _ (by rw [ht];rfl)
 ·have e:k=x.right.length:=by omega
  subst e;rw [Xg] at hi;unfold B0;refine ⟨_,ld (l3 _ _ q3) rfl,λh0=>⟨_,ld (l3 _ _ q3) rfl,_,ld (l3 _ _ q2) rfl,.dec ?_ l13⟩,λh=> .no (λho=>h ho.1.1) l13⟩;rw [es];exact ⟨λh=>⟨⟨h0,λ_=>h,λh=>(by cases h)⟩,hi⟩,λho=>ho.1.2.1 rfl⟩
theorem oX {w:Γ} {x:Pr} (hx:Mem.rep F x w) (_:x.right.length<=1000000000) (h2:x.lay.length<=1000000000):ν 169 #[Y9 w] F (RB F (∀y∈x.lay,ly x.right y)):=by
 obtain ⟨r,m,y,rfl,hr,hm,hy⟩:=hx;have er:=hr.len;have ey:=hy.len;refine Rm ?_;unfold Mb;refine fresh λb1 F1 l1 q1 _=> ?_;refine bh (v8 · b1 _) x.lay.length (λk F'=>F1.le F'/\∀s∈x.lay.take k,ly x.right s) ⟨am _,by simp⟩ ?_;rintro k F3 N hk ⟨l3,hi⟩ next;have l13:=aa l1 l3;unfold v8;refine ⟨_,ld (l3 _ _ q1) rfl,λhlt=> ?_,λhge=> ?_⟩
 ·have hlt:k<x.lay.length:=by omega
  refine ⟨_,ld (l3 _ _ q1) rfl,ixc (hy.le l13) (by decide) (by omega) (by omega) λa cc z hz hrz hc=> ?_⟩;rw [N4] at hz;rw [show cc=z.arr from hc] at hrz;have hzm:=W7 hz;refine ⟨_,rfl,hrz,?_⟩;refine var1 (by simp [ak]) (λb4 F4 l4 q4=> ?_) rfl rfl;have l14:=aa l13 l4;have p1:=l4 _ _ (l3 _ _ q1);have good:ly x.right z->pC N b1 (k:Int) (RB F (∀y∈x.lay,ly x.right y)) F4:=λh=>by
   unfold pC;rw [aA hlt];refine next _ hlt ⟨aa l3 l4,λs hs'=> ?_⟩;rw [aO hz] at hs';rcases W9.1 hs' with hs'|hs'
   ·exact hi s hs'
   ·rw [W5.1 hs'];exact h
  have bad:¬ly x.right z->RB F (∀y∈x.lay,ly x.right y) (Za Y6) F4:=λh=> .no (λho=>h (ho z hzm)) l14;unfold ly at good bad;refine ⟨_,ld q4 rfl,λh=>bad (by omega),λg1=>⟨_,ld q4 rfl,λh=>bad (by omega),λg2=>⟨_,ld q4 rfl,λh=>bad (by omega),λg3=>⟨_,ld q4 rfl,_,ld p1 rfl,λh=>bad (by omega),λg4=>⟨_,ld q4 rfl,λh=>bad (by omega),λg5=>⟨_,ld q4 rfl,_,ld p1 rfl,λh=>bad (by omega),λg6=>⟨_,ld q4 rfl,λk1=>⟨_,ld q4 rfl,λh=>bad λhn=>h (hn.2.2.2.2.2.2 k1),λh=>good ?_⟩,λk1=>good ?_⟩⟩⟩⟩⟩⟩⟩
  ·exact ⟨by omega,by omega,by omega,by omega,by omega,by omega,λ_=>Decidable.not_not.1 h⟩
  ·exact ⟨by omega,by omega,by omega,by omega,by omega,by omega,λh=>absurd h k1⟩
 ·have e:k=x.lay.length:=by omega
  subst e;rw [Xg] at hi;unfold B1;exact .yes hi l13
end
section
variable {F:PH}
theorem yH {x:Pr}:qL x=Y8↔xN x:= @decide_eq_true_iff _ (Classical.propDecidable _)
theorem EB {v:Γ} {g:Gr} (hg:GV F v g) (hz:Sml g) (hlg:bM g=Y6):ν 118 #[Y9 v] F λr F'=>r=vi (cN g [] g.YV)/\F.le F':=by
 have hg0:=hg;obtain ⟨c,n,t,s,p,l,f,rfl,hs⟩:=hg;have ec:=hs.c.len;have ep:=hs.p.len;have hcl:=hz.m.p;obtain ⟨_,_,_,_,_,_,hR⟩:=eY hlg;refine Q3 ?_;unfold LN;refine (St.start F).newG λb1 G1 F1 l1 q1 _ h=> ?_;refine h.new λb6 F2 h=> ?_;have h:=h.imp (A':=own (Zj (Y3 (Zc b6 0 Y5)) 0 0) 9 1 []) 0 rfl λH _ hH=>fY hH
 refine ⟨λm nm i F'=>∃(k:Nat) (G:PH),i=(k:Int)/\m=g.YV.length - k/\k<=g.YV.length/\G1.le G/\St G F' [own nm 9 1 (((g.YV.take k).map Pr.name).map Zg)]/\cN g [] g.YV=cN g ((g.YV.take k).map Pr.name) (g.YV.drop k),g.YV.length,
  ⟨0,G1,rfl,rfl,by omega,am _,h,rfl⟩,?_⟩
 rintro m nm i F3 ⟨k,G,rfl,rfl,hk,lG,h,hE⟩;have l1G:=aa l1 lG;unfold BQ;refine ⟨_,ld (h.le _ _ (lG _ _ q1)) rfl,λhlt=> ?_,λhge=> ?_⟩
 ·have hlt:k<g.YV.length:=by omega
  refine ⟨_,ld (h.le _ _ (lG _ _ q1)) rfl,h.ix (hs.p.le l1G) (by decide) (by omega) (by omega) λa cc x hx hr hc=> ?_⟩;rw [N4] at hx;have hxm:=W7 hx;rw [bP hx,cN] at hE;obtain ⟨hri,hla⟩:=hR x hxm;have hxc:=hz.p x hxm;refine ⟨_,Mem.len hc,hr,?_⟩;refine h.var (Mem.st hc) (λb5 G5 F5 l5 q5 h=> ?_) rfl (Mem.len hc);have lG5:=aa lG l5;have l1F:=aa l1 lG5;have hc0:=Mem.le l5 hc;obtain ⟨rr,rn,rl,rfl,hr1,hr2,hr3⟩:=id hc0;have e50:¬eX g x->∀{F':PH},F.le F'->(vi 50=vi (cN g [] g.YV)/\F.le F'):=λhn F' hl=>⟨by rw [hE,Χ hn],hl⟩;refine ⟨_,rfl,ac (h.le _ _ (lG5 _ _ q1)),_,rfl,ac (h.le _ _ q5),?_⟩;refine (yG (hg0.le (aa l1F h.le)) (Mem.le h.le hc0) (by omega)).mono ?_;rintro _ F6 ⟨⟨b,rfl,hb⟩,l6⟩;have h:=h.up l6;refine ⟨b,rfl,λhn=>e50 (λho=>by rw [hb.2 ho] at hn;cases hn) (aa l1F h.le),λhsy=> ?_⟩;have hSy:=hb.1 (cW hsy);rw [Υ (μ hSy)] at hE;have e52:¬zH g ((g.YV.take k).map Pr.name) x->∀{F':PH},F.le F'->(vi 52=vi (cN g [] g.YV)/\F.le F'):=λhn F' hl=>⟨by rw [hE,Χ hn],hl⟩;refine ⟨_,ld (h.le _ _ q5) rfl,?_⟩;refine sU h x.name (by rw [Xd,Xe];omega) λs' G' F7 lG' h hrl=> ?_;have hnx:((g.YV.take k).map Pr.name++[x.name])[k]? =Y3 x.name:=by rw [Xn (by rw [Xd,Xe];omega),Xd,Xe,Nat.min_eq_left hk,Nat.sub_self];rfl
  have htk:((g.YV.take k).map Pr.name++[x.name]).take k=(g.YV.take k).map Pr.name:=by rw [Xs (by rw [Xd,Xe];omega),Xf (by rw [Xd,Xe];omega)]
  refine (j8 hrl (by rw [Xa,Xd,Xe,Xk];omega) hnx).mono ?_;rintro _ F8 ⟨⟨b2,rfl,hb2⟩,l8⟩;rw [htk] at hb2;have h:=h.up l8;have l1':=aa l1F lG';refine ⟨b2,rfl,λhn=>e52 (λho=>by rw [hb2.2 ⟨ho.1,ho.2.1⟩] at hn;cases hn) (aa l1' h.le),λhnw=>⟨#[rn.v,vi x.cond.2],rfl,je (h.le _ _ (lG' _ _ q5)) rfl,_,ld (h.le _ _ (lG' _ _ (lG5 _ _ q1))) rfl,?_⟩⟩;have hNw:=hb2.1 (cW hnw);dsimp only;rw [ec];refine (jr (d:=x.cond) (DV.mk (hr2.le (aa lG' h.le))) (by unfold Fit;omega) hxc).mono ?_;rintro _ F9 ⟨rfl,l9⟩;have h:=h.up l9;have q5':=h.le _ _ (lG' _ _ q5);have lF9:=aa l1' h.le;refine ⟨_,rfl,λhn=>e52 (λho=>by rw [bD.2 ho.2.2.1] at hn;cases hn) lF9,λhft=>⟨_,ld q5' rfl,λhn=>e52 (λho=>by have:=ho.2.2.2.1;omega) lF9,λhr0=>⟨_,ld q5' rfl,λhn=>e52 (λho=>by have:=ho.2.2.2.2.1;omega) lF9,λhr9=>⟨_,rfl,ac q5',?_⟩⟩⟩⟩;have hFt:=bD.1 (cW hft);refine (oX (Mem.le (aa lG' h.le) hc0) (by omega) (by omega)).mono ?_;rintro _ F10 ⟨⟨b3,rfl,hb3⟩,l10⟩;have h:=h.up l10;have q6':=h.le _ _ (lG' _ _ q5);refine ⟨b3,rfl,λhn=>e52 (λho=>by rw [hb3.2 ho.2.2.2.2.2.1] at hn;cases hn) (aa l1' h.le),λh3=>⟨_,rfl,ac q6',?_⟩⟩;refine (Ez (Mem.le (aa lG' h.le) hc0) (by omega)).mono ?_;rintro _ F11 ⟨⟨b4,rfl,hb4⟩,l11⟩;have h:=h.up l11;have q7':=h.le _ _ (lG' _ _ q5);have lF11:=aa l1' h.le;refine ⟨b4,rfl,λhn=>e52 (λho=>by rw [hb4.2 ⟨ho.2.2.2.2.2.2.1,ho.2.2.2.2.2.2.2.1⟩] at hn;cases hn) lF11,λh4=>⟨_,ld q7' rfl,λhbr=>⟨_,rfl,ac q7',?_⟩,λhbr=> ?_⟩⟩
  ·refine (lr (Mem.le (aa lG' h.le) hc0) (by omega)).mono ?_;rintro _ F12 ⟨rfl,l12⟩;have h:=h.up l12;refine ⟨_,rfl,λhn=>e52 (λho=> ?_) (aa l1' h.le),λh5=> ?_⟩
   ·have:qL x=Y8:=yH.2 (ho.2.2.2.2.2.2.2.2 hbr);rw [this] at hn;cases hn
   ·have hok:zH g ((g.YV.take k).map Pr.name) x:=⟨hNw.1,hNw.2,hFt,by omega,by omega,hb3.1 (cW h3),(hb4.1 (cW h4)).1,(hb4.1 (cW h4)).2,λ_=>yH.1 (cW h5)⟩;rw [Υ (μ hok)] at hE;unfold ph;rw [aA hlt];refine ⟨g.YV.length - (k+1),by omega,k+1,G',rfl,rfl,by omega,aa lG5 lG',?_,?_⟩
    ·rw [aO hx,Xt];exact h
    ·rw [aO hx,Xt];exact hE
  ·have hok:zH g ((g.YV.take k).map Pr.name) x:=⟨hNw.1,hNw.2,hFt,by omega,by omega,hb3.1 (cW h3),(hb4.1 (cW h4)).1,(hb4.1 (cW h4)).2,λhc=>by rw [hbr] at hc;cases hc⟩;rw [Υ (μ hok)] at hE;unfold ph;rw [aA hlt];refine ⟨g.YV.length - (k+1),by omega,k+1,G',rfl,rfl,by omega,aa lG5 lG',?_,?_⟩
   ·rw [aO hx,Xt];exact h
   ·rw [aO hx,Xt];exact hE
 ·have e:k=g.YV.length:=by omega
  rw [e,XQ,cN] at hE;unfold BP;exact ⟨by rw [hE],aa l1G h.le⟩
open Classical in
theorem yI {v:Γ} {g:Gr} (hg:GV F v g) (hz:Sml g):ν 120 #[Y9 v] F (RB F (∀x∈g.fils,ce g x)):=by
 have hg0:=hg;obtain ⟨c,n,t,s,p,l,f,rfl,hs⟩:=hg;have ef:=hs.f.len;have hfl:=hz.m.f;refine Q5 ?_;unfold LP;refine fresh λb1 F1 l1 q1 _=> ?_;refine bh (vR · b1 _) g.fils.length (λk F'=>F1.le F'/\∀s∈g.fils.take k,ce g s) ⟨am _,by simp⟩ ?_;rintro k F3 N hk ⟨l3,hi⟩ next;have l13:=aa l1 l3;unfold vR;refine ⟨_,ld (l3 _ _ q1) rfl,λhlt=> ?_,λhge=> ?_⟩
 ·have hlt:k<g.fils.length:=by omega
  refine ⟨_,rfl,ac (l3 _ _ q1),_,ld (l3 _ _ q1) rfl,ixc (hs.f.le l13) (by decide) (by omega) (by omega) λa cc z hz' hrz hc=> ?_⟩;rw [N4] at hz';have hzm:=W7 hz';refine ⟨_,Mem.len hc,hrz,?_⟩;refine (qM (hg0.le l13) hc (hz.f z hzm) (hz.z.f z hzm)).mono ?_;rintro _ F4 ⟨rfl,l4⟩;refine ⟨_,rfl,ld (l4 _ _ (l3 _ _ q1)) rfl,λh=> .no (λho=> ?_) (aa l13 l4),λh=> ?_⟩
  ·rw [ζ (ho z hzm)] at h;cases h
  ·rw [aA hlt];refine next _ hlt ⟨aa l3 l4,λs hs'=> ?_⟩;rw [aO hz'] at hs';rcases W9.1 hs' with hs'|hs'
   ·exact hi s hs'
   ·rw [W5.1 hs'];exact ε (cW h)
 ·have e:k=g.fils.length:=by omega
  subst e;rw [Xg] at hi;unfold BT;exact .yes hi l13
def mks (n:Nat) (l:Φ):Ξ:=(List.range n).map λ(i:Nat)=>Za (decide ((i:Int)∈l))
theorem xg {n:Nat} {l:Φ} {i:Nat} (h:i<n):(mks n l).toArray[i]? =Y3 (Za (decide ((i:Int)∈l))):=by unfold mks;rw [List.getElem?_toArray,Xj,XF h];rfl
theorem KX {n:Nat} {l:Φ} {i:Nat} (h:i<n):(mks n l).toArray.setIfInBounds i (Za Y8)=(mks n (l++[(i:Int)])).toArray:=by
 apply Array.ext_getElem?;intro j;have hsz:∀l,(mks n l).toArray.size=n:=λl=>by simp [mks]
 by_cases hj:j<n
 ·rw [xg hj];by_cases e:i=j
  ·subst e;rw [Array.getElem?_setIfInBounds,Χ rfl,Χ (by rw [hsz];exact h),ζ (by simp)]
  ·rw [Array.getElem?_setIfInBounds_ne e,xg hj];congr 2;refine decide_eq_decide.2 ⟨λh=>by simp [h],λh=> ?_⟩;rcases W9.1 h with h|h
   ·exact h
   ·have:=W5.1 h;omega
 ·rw [Array.getElem?_eq_none (by rw [Array.size_setIfInBounds,hsz];omega),Array.getElem?_eq_none (by rw [hsz];omega)]
theorem St.newE {G F:PH} {As:List (Ψ)} (h:St G F As) {b:Nat} (hb:F b=Y5) (o:Obj):St G (F.set b o) (pt b o::As):=
 atE (h.new (K:=λb' F'=>b'=b->St G F' (pt b o::As)) (λb' F' h' e=>by subst e;exact h') b hb) rfl
theorem Bg {v:Γ} {g:Gr} (hg:GV F v g) (hz:Sml g) (hlg:bM g=Y6):ν 119 #[Y9 v] F (RB F (dc g [] g.lvs)):=by
 obtain ⟨c,n,t,s,p,l,f,rfl,hs⟩:=hg;have ec:=hs.c.len;have ep:=hs.p.len;have el:=hs.l.len;obtain ⟨_,_,_,_,hp2,hl2,_⟩:=eY hlg;refine Q4 ?_;unfold LO;refine (St.start F).newG λb1 G1 F1 l1 q1 _ h=>⟨_,ld (h.le _ _ q1) rfl,?_⟩;dsimp only;refine bU underlying211 SD SE rfl (by omega) (YK _) (by omega) (by omega) ?_;intro bu hbu;refine ⟨_,rfl,?_⟩;rw [zc1 _ rfl,N4,ep];have e0:(List.replicate g.YV.length (Value.bool Y6)).toArray=(mks g.YV.length []).toArray:=by
  congr 1;apply XR;intro j;by_cases hj:j<g.YV.length
  ·simp [mks,hj]
  ·rw [XC (by simp;omega),XC (by simp [mks];omega)]
 rw [e0];have h:=h.newE hbu (Y4 (mks g.YV.length []).toArray 4);generalize F1.set bu (Y4 (mks g.YV.length []).toArray 4)=F2 at*;refine bh (vQ · b1 (Zj (Y3 (Zc bu 0 Y5)) g.YV.length g.YV.length) _) g.lvs.length (λk F'=>∃G,G1.le G/\St G F' [pt bu (Y4 (mks g.YV.length ((g.lvs.take k).flatMap Lv.ps)).toArray 4)]/\(dc g [] g.lvs↔dc g ((g.lvs.take k).flatMap Lv.ps) (g.lvs.drop k)))
  ⟨G1,am _,h,Iff.rfl⟩ ?_
 rintro k F3 N hk ⟨G,lG,h,hE⟩ next;have l1G:=aa l1 lG;unfold vQ;refine ⟨_,ld (h.le _ _ (lG _ _ q1)) rfl,λhlt=> ?_,λhge=> ?_⟩
 ·have hlt:k<g.lvs.length:=by omega
  refine ⟨_,ld (h.le _ _ (lG _ _ q1)) rfl,h.ix (hs.l.le l1G) (by decide) (by omega) (by omega) λa cc x hx hr hc=> ?_⟩;rw [N4] at hx;have hxm:=W7 hx;rw [bP hx,dc] at hE;refine ⟨_,Mem.len hc,hr,?_⟩;refine h.var (Mem.st hc) (λb5 G5 F5 l5 q5 h=> ?_) rfl (Mem.len hc);have lG5:=aa lG l5;have l1F:=aa l1 lG5;have hc0:=Mem.le l5 hc;obtain ⟨rp,rn,rfl,hr1,hr2⟩:=id hc0;have er:=hr1.len;have hpl:=hz.z.l x hxm;have bad:∀{F':PH},F.le F'->¬Jw g ((g.lvs.take k).flatMap Lv.ps) x->RB F (dc g [] g.lvs) (Za Y6) F':=λhl hn=> .no (λho=>hn (hE.1 ho).1) hl;refine ⟨_,ld (h.le _ _ q5) rfl,λhn=>bad (aa l1F h.le) λho=>by have:=ho.1;omega,λh1=>⟨_,ld (h.le _ _ q5) rfl,λhn=>bad (aa l1F h.le) λho=>by have:=ho.2.1;omega,λh2=>⟨#[rn.v,vi x.cond.2],rfl,je (h.le _ _ q5) rfl,_,ld (h.le _ _ (lG5 _ _ q1)) rfl,?_⟩⟩⟩;dsimp only;rw [ec];refine (jr (d:=x.cond) (DV.mk (hr2.le h.le)) (by have:=hz.l x hxm;unfold Fit;omega) (hz.l x hxm)).mono ?_;rintro _ F6 ⟨rfl,l6⟩;have h:=h.up l6;refine ⟨_,rfl,λhn=>bad (aa l1F h.le) λho=>(by rw [bD.2 ho.2.2.1] at hn;cases hn),λhft=> ?_⟩;have hFt:=bD.1 (cW hft);refine bh (vP N · b1 (Zj (Y3 (Zc bu 0 Y5)) g.YV.length g.YV.length) (k:Int) b5 _) x.ps.length (λj F'=>St G5 F' [pt bu (Y4 (mks g.YV.length ((g.lvs.take k).flatMap Lv.ps++x.ps.take j)).toArray 4)]/\(∀p∈x.ps.take j,0<=p/\p<g.YV.length)/\(x.ps.take j).Nodup/\∀p∈x.ps.take j,p ∉ (g.lvs.take k).flatMap Lv.ps)
   ⟨by rw [XY,XH];exact h,by simp,by simp,by simp⟩ ?_
  rintro j F7 N2 hj ⟨h,i1,i2,i3⟩ next2;unfold vP;refine ⟨_,ld (h.le _ _ q5) rfl,λhjl=> ?_,λhjl=> ?_⟩
  ·have hjl:j<x.ps.length:=by omega
   refine ⟨_,ld (h.le _ _ q5) rfl,h.ix hr1 (by decide) (by omega) (by omega) λa2 c2 y hy hry hcy=> ?_⟩;rw [N4] at hy;rw [show c2= #[vi y] from hcy] at hry;have hym:=W7 hy;have lF7:=aa l1F h.le;refine ⟨y,aQ hry rfl,λhn=>bad lF7 λho=>by have:=ho.2.2.2.1 y hym;omega,λh0=>⟨λhn=>bad lF7 λho=>by have:=ho.2.2.2.1 y hym;have:(g.YV.length:Int)<=y:=hn;omega,λh3=> ?_⟩⟩;have hyl:y.toNat<g.YV.length:=by have:¬(g.YV.length:Int)<=y:=h3;omega
   have hyn:((y.toNat:Nat):Int)=y:=Int.toNat_of_nonneg (by omega);have hcell:=xg (l:=(g.lvs.take k).flatMap Lv.ps++x.ps.take j) hyl;rw [hyn] at hcell;have ha:∀i:Nat,Zb (Zc bu 0 Y5) (i*1)=Zc bu i Y5:=λi=>by rw [aE,Xm,Xz]
   refine ⟨_,rfl,by omega,by show y<(g.YV.length:Int);omega,_,by rw [ha];exact h.ld0 hcell,λhb=>bad lF7 λho=> ?_,λhb=>⟨_,rfl,by omega,by show y<(g.YV.length:Int);omega,?_⟩⟩
   ·have hb:=ε hb;rcases W9.1 hb with hb|hb
    ·exact ho.2.2.2.2.2 y hym hb
    ·have:=ho.2.2.2.2.1;rw [<- YF j x.ps,Xv] at this;exact this.2.2 y hb y (by rw [bP hy];simp) rfl
   ·have hb:=of_decide_eq_false hb;dsimp only;rw [ha];refine h.set0 (w':=(mks g.YV.length ((g.lvs.take k).flatMap Lv.ps++x.ps.take (j+1))).toArray) (by simp [mks];exact hyl) (by rw [KX hyl,hyn,aO hy,XA]) λF8 h=> ?_;rw [aA hjl];refine next2 _ hjl ⟨h,λp hp=> ?_,?_,λp hp=> ?_⟩
    ·rw [aO hy] at hp;rcases W9.1 hp with hp|hp
     ·exact i1 p hp
     ·rw [W5.1 hp];omega
    ·rw [aO hy,Xv];refine ⟨i2,by simp,λa ha b hb'=> ?_⟩;rw [W5.1 hb'];intro e;subst e;exact hb (List.mem_append_right _ ha)
    ·rw [aO hy] at hp;rcases W9.1 hp with hp|hp
     ·exact i3 p hp
     ·rw [W5.1 hp];exact λhm=>hb (Yq _ hm)
  ·have e:j=x.ps.length:=by omega
   subst e;rw [Xg] at h i1 i2 i3;unfold BS;rw [aA hlt];refine next _ hlt ⟨G5,lG5,?_,?_⟩
   ·rw [aO hx,X7,List.flatMap_singleton];exact h
   ·rw [aO hx,X7,List.flatMap_singleton];exact hE.trans ⟨λh=>h.2,λh=>⟨⟨by omega,by omega,hFt,i1,i2,i3⟩,h⟩⟩
 ·have e:k=g.lvs.length:=by omega
  rw [e,XQ,dc] at hE;unfold BR;exact .yes (hE.2 trivial) (aa l1G h.le)
theorem yJ {v:Γ} {g:Gr} (hg:GV F v g) (hz:Sml g):ν 55 #[Y9 v] F λr F'=>r=vi (hX g)/\F.le F':=by
 refine VN ?_;unfold QS;refine fresh λb1 F1 l1 q1 _=>⟨v,hg.size,ac q1,?_⟩;refine (Ey (hg.le l1) hz.m).mono ?_;rintro _ F2 ⟨⟨a1,rfl,h1⟩,l2⟩;have k2:=aa l1 l2;refine ⟨a1,rfl,λe=>⟨?_,k2⟩,λe=>⟨v,hg.size,ac (l2 _ _ q1),?_⟩⟩
 ·unfold hX;rw [Χ (h1.1 e)]
 have hL:bM g=Y6:=by
  cases hb:bM g with
  |false=>rfl
  |true=>rw [h1.2 hb] at e;cases e
 refine (Be (hg.le k2) hz).mono ?_;rintro _ F3 ⟨⟨a2,rfl,h2⟩,l3⟩;have k3:=aa k2 l3;have q3:=l3 _ _ (l2 _ _ q1);refine ⟨a2,rfl,λe=>⟨?_,k3⟩,λe=>⟨v,hg.size,ac q3,?_⟩⟩
 ·rw [Jf hL λh=>by rw [h2.2 h] at e;cases e]
 have hF:=h2.1 (cW e);refine (Bf (hg.le k3) hz).mono ?_;rintro _ F4 ⟨⟨a3,rfl,h3⟩,l4⟩;have k4:=aa k3 l4;have q4:=l4 _ _ q3;refine ⟨a3,rfl,λe=>⟨?_,k4⟩,λe=>⟨v,hg.size,ac q4,?_⟩⟩
 ·rw [Jg hL hF λh=>by rw [h3.2 h] at e;cases e]
 have hT:=h3.1 (cW e);refine (IK (hg.le k4) hz).mono ?_;rintro _ F5 ⟨⟨a4,rfl,h4⟩,l5⟩;have k5:=aa k4 l5;have q5:=l5 _ _ q4;refine ⟨a4,rfl,λe=>⟨?_,k5⟩,λe=>⟨v,hg.size,ac q5,?_⟩⟩
 ·rw [Jh hL hF hT λh=>by rw [h4.2 h] at e;cases e]
 have hN:=h4.1 (cW e);refine (EB (hg.le k5) hz hL).mono ?_;rintro _ F6 ⟨rfl,l6⟩;have k6:=aa k5 l6;have q6:=l6 _ _ q5;refine ⟨_,rfl,λe=>⟨?_,k6⟩,λe=>⟨v,hg.size,ac q6,?_⟩⟩
 ·rw [EV hL hF hT hN rfl e]
 have hP:=Decidable.not_not.1 e;refine (Bg (hg.le k6) hz hL).mono ?_;rintro _ F7 ⟨⟨a6,rfl,h6⟩,l7⟩;have k7:=aa k6 l7;refine ⟨a6,rfl,λe=>⟨?_,k7⟩,λe=>⟨v,hg.size,ac (l7 _ _ q6),?_⟩⟩
 ·rw [Ji hL hF hT hN hP λh=>by rw [h6.2 h] at e;cases e]
 have hV:=h6.1 (cW e);refine (yI (hg.le k7) hz).mono ?_;rintro _ F8 ⟨⟨a7,rfl,h7⟩,l8⟩;have k8:=aa k7 l8;refine ⟨a7,rfl,λe=>⟨?_,k8⟩,λe=>⟨?_,k8⟩⟩
 ·rw [Jj hL hF hT hN hP hV λh=>by rw [h7.2 h] at e;cases e]
 ·rw [pg.2 ⟨hL,hF,hT,hN,hP,hV,h7.1 (cW e)⟩]
end
section
end
abbrev Ps (α:Type):=Δ->Option (α×Δ)
section
end
section
end
section
end
section
end
def tiT (x:Tk):Prop:=x.name.size<=100/\x.lit.size<=100/\x.pat.length<=100/\x.smp.size<=100/\x.cond.1.length<=1000
def tiP (n:Nat) (x:Pr):Prop:=x.name.size<=100/\x.right.length<=n/\x.cond.1.length<=1000/\x.lay.length<=100
def tiL (x:Lv):Prop:=x.ps.length<=100/\x.cond.1.length<=1000
def tiF (x:Fi):Prop:=x.YX.length<=100/\x.cond.1.length<=1000
structure Ti (n:Nat) (g:Gr):Prop where
 c:g.YY.length<=3
 ci:∀s∈g.YY,s.size<=100
 fam:g.fam.1.length<=1000
 t:g.YX.length<=100
 ti:∀x∈g.YX,tiT x
 s:g.YW.length<=100
 si:∀s∈g.YW,s.size<=100
 p:g.YV.length<=100
 pi:∀x∈g.YV,tiP n x
 l:g.lvs.length<=n
 li:∀x∈g.lvs,tiL x
 f:g.fils.length<=n
 fi:∀x∈g.fils,tiF x
section
variable {g:Gr} {n:Nat}
theorem Ti.sz (h:Ti n g):Sz g:=⟨λs hs=>by have:=h.ci s hs;omega,λx hx=>by have:=(h.ti x hx).2.2.2.1;omega,λx hx=>by have:=(h.li x hx).1;omega,λx hx=>by have:=(h.fi x hx).1;omega⟩
theorem Ti.sm (h:Ti n g) (hn:n<=100):Sm g:=
 ⟨by have:=h.c;omega,by have:=h.fam;omega,by have:=h.t;omega,by have:=h.s;omega,by have:=h.p;omega,by have:=h.l;omega,by have:=h.f;omega,
  λx hx=>by have:=h.ti x hx;unfold tiT at this;omega,λx hx=>by have:=h.pi x hx;unfold tiP at this;omega,λx hx=>by have:=h.li x hx;unfold tiL at this;omega,λx hx=>by have:=h.fi x hx;unfold tiF at this;omega⟩
theorem Ti.sml (h:Ti n g) (hn:n<=100):Sml g:=
 ⟨h.sm hn,h.sz,by have:=h.fam;omega,λx hx=>by have:=h.ti x hx;unfold tiT at this;omega,λx hx=>by have:=h.pi x hx;unfold tiP at this;omega,λx hx=>by have:=h.li x hx;unfold tiL at this;omega,λx hx=>by have:=h.fi x hx;unfold tiF at this;omega⟩
end
theorem MG.addP {g:Gr} (h:MG g) {p:Pr} (hn:∀q∈g.YV,q.name≠p.name) (hl:∀k,p.name≠be k) (hp:PrI g.YY.length g.YW.length p):MG {g with YV:=g.YV++[p]}:=by
 refine ⟨h.cs,h.fam,h.YW,h.start,h.YX,⟨?_,λq hq k hk hk2=> ?_⟩,λq hq=> ?_,⟨d8 (g:=g) (g':={g with YV:=g.YV++[p]}) rfl (by show _<=(g.YV++[p]).length;rw [Xa];omega) _ _ h.lvs.1,h.lvs.2⟩,λx hx=>⟨qy (h.fils x hx).1,(h.fils x hx).2⟩⟩
 ·show ((g.YV++[p]).map Pr.name).Nodup;rw [Xt,Xv];refine ⟨h.names.1,by simp,λx hx y hy=> ?_⟩;rw [Xw,List.map_nil,W5] at hy;obtain ⟨q,hq,rfl⟩:=Xi.1 hx;rw [hy];exact hn q hq
 ·replace hk:(g.YV++[p]).length<=k:=hk;rw [Xa,Xk] at hk;rcases W9.1 hq with hq|hq
  ·exact h.names.2 q hq k (by omega) hk2
  ·rw [W5.1 hq];exact hl k
 ·rcases W9.1 hq with hq|hq
  ·exact h.YV q hq
  ·rw [W5.1 hq];exact hp
theorem Bd.addP {g:Gr} {a b:Nat} (h:Bd g a b) (p:Pr):Bd {g with YV:=g.YV++[p]} (a+1) b:=by have hp:=h.p;exact ⟨h.c,h.n0,h.n,by show (g.YV++_).length≠0;rw [Xa,Xk];omega,by show (g.YV++[_]).length<=_;rw [Xa,Xk];omega,h.t,h.l,h.lp,h.f⟩
theorem yK (g:Gr) (y:Ru):(ruleG g y).YV=g.YV/\(ruleG g y).YW=g.YW:=by
 unfold ruleG ni ki tokG
 repeat' split
 all_goals exact ⟨rfl,rfl⟩
theorem mQ:∀(l:List Ru) (g:Gr),(eg l g).YV=g.YV/\(eg l g).YW=g.YW
 |[],g=>⟨rfl,rfl⟩
 |y::l,g=>by have:=mQ l (ruleG g y);have h2:=yK g y;exact ⟨this.1.trans h2.1,this.2.trans h2.2⟩
theorem Bi (x:Rw) (g:Gr):(famG x g).YV=g.YV/\(famG x g).YW=g.YW:=by unfold famG;split<;>exact ⟨rfl,rfl⟩
def PF (p:Pr):Prop:=∃s∈p.right,s.t=Y8
def PG (p:Pr):Prop:=∀s∈p.right,s.t=Y6->p.left<s.i
theorem IM (p:Pr) (m:Nat):(cE p m).left=p.left/\(cE p m).right=p.right:=by
 unfold cE
 repeat' split
 all_goals exact ⟨rfl,rfl⟩
theorem Bj {l:List Sy} (h:dO l≠0):∃s∈l,s.t=Y8:=by have:(l.filter (·.t))≠[]:=λe=>h (by unfold dO;rw [e];rfl);obtain ⟨s,hs⟩:=List.exists_mem_of_ne_nil _ this;exact ⟨s,(Yv.1 hs).1,(Yv.1 hs).2⟩
theorem mR {x:Rw}:∀(l:List Ln) (g:Gr),(dP x l g).YW=g.YW/\∀p∈(dP x l g).YV,p∈g.YV\/((∃k,p.name=be k)/\(PF p\/(bN x=Y6/\PG p)))
 |[],g=>⟨rfl,λp hp=> .inl hp⟩
 |y::l,g=>by
  obtain ⟨e,ih⟩:=mR l (lineG g y (bN x));have e':(dP x (y::l) g)=dP x l (lineG g y (bN x)):=rfl;rw [e'];by_cases hc:dO (aM g.YW.length y)=0/\(bN x=Y8\/de (y.left % g.YW.length) (aM g.YW.length y)=Y6)
  ·have e2:lineG g y (bN x)=g:=by unfold lineG;rw [Χ hc]
   rw [e2] at e ih ⊢;exact ⟨e,ih⟩
  ·have e2:lineG g y (bN x)={g with YV:=g.YV++[cE (jq g y) y.mark]}:=by unfold lineG;rw [Υ hc]
   rw [e2] at e ih ⊢;refine ⟨e,λp hp=> ?_⟩;rcases ih p hp with h|h
   ·rcases W9.1 h with h|h
    ·exact .inl h
    ·refine .inr ?_;rw [W5.1 h];obtain ⟨m1,m2⟩:=IM (jq g y) y.mark;refine ⟨⟨g.YV.length,by rw [qz];rfl⟩,?_⟩;unfold PF PG;rw [m1,m2];by_cases ht:dO (aM g.YW.length y)=0
     ·refine .inr ⟨?_,λs hs hst=> ?_⟩
      ·cases hk:bN x with
       |false=>rfl
       |true=>exact absurd ⟨ht,.inl hk⟩ hc
      ·have hl:de (y.left % g.YW.length) (aM g.YW.length y)=Y8:=by
        cases hl:de (y.left % g.YW.length) (aM g.YW.length y) with
        |true=>rfl
        |false=>exact absurd ⟨ht,.inr hl⟩ hc
       unfold de at hl;rw [XD] at hl;have:=hl s hs;rw [hst,YM] at this;exact ε this
     ·exact .inl (Bj ht)
   ·exact .inr h
theorem Bk (x:Rw):(dt x).YW=(dC x).YW/\∀p∈(dt x).YV,p∈(dC x).YV\/((∃k,p.name=be k)/\(PF p\/(bN x=Y6/\PG p))):=by unfold dt;obtain ⟨a1,a2⟩:=mQ (x.rules.take 6) (dP x (x.lines.take (cR x)) (famG x (dC x)));obtain ⟨b1,b2⟩:=mR (x:=x) (x.lines.take (cR x)) (famG x (dC x));obtain ⟨c1,c2⟩:=Bi x (dC x);rw [a1,a2,b1,c2];refine ⟨rfl,λp hp=> ?_⟩;have:=b2 p hp;rwa [c1] at this
def fD (k:Nat):ο:=⟨#[113]⟩++⟨#[UInt8.ofNat (97+k)]⟩
def KY:ο:=⟨#[99,121,99,108,101]⟩
def EC:ο:=⟨#[110,111,116,104,105,110,103]⟩
def nO (s:ο):Prop:=(s.size≠2\/s.data[0]?≠Y3 113)/\s≠KY/\s≠EC
instance (s:ο):Decidable (nO s):=by unfold nO;infer_instance
theorem PI {s:ο} (h:nO s) (k:Nat):s≠fD k:=λe=>by
 rcases h.1 with h|h
 ·exact h (by rw [e];rfl)
 ·exact h (by rw [e];rfl)
theorem ED (k:Nat):nO (be k):=⟨.inr (by show Y3 112≠Y3 113;decide),λe=>by
 have:=congrArg ByteArray.size e;exact absurd this (by show (2:Nat)≠5;decide),λe=>by
 have:=congrArg ByteArray.size e
 exact absurd this (by show (2:Nat)≠7;decide)⟩
theorem Bl (k i:Nat):fD k≠be i:=λe=>by have h1:(#[113,UInt8.ofNat (97+k)]:Array UInt8)= #[112,UInt8.ofNat (97+i)]:=congrArg ByteArray.data e;have h2:=congrArg (λa=>a[0]?) h1;simp at h2
theorem EE {i k:Nat} (hi:i<100) (hk:k<100) (h:fD i=fD k):i=k:=by
 have h1:(#[113,UInt8.ofNat (97+i)]:Array UInt8)= #[113,UInt8.ofNat (97+k)]:=congrArg ByteArray.data h;have h2:=congrArg (λa=>a[1]?) h1;have h3:UInt8.ofNat (97+i)=UInt8.ofNat (97+k):=by simpa using h2
 have h4:=congrArg UInt8.toNat h3;simp at h4;omega
theorem yL {k:Nat} (hk:k<6):(∀s∈(cq k).YV.map Pr.name,nO s)/\∀s∈(cq k).YW,s.size=1:=by
 have h:k=0\/k=1\/k=2\/k=3\/k=4\/k=5:=by omega
 rcases h with rfl|rfl|rfl|rfl|rfl|rfl
 ·exact ⟨by show ∀s∈cG.YV.map Pr.name,nO s;decide,by show ∀s∈cG.YW,s.size=1;decide⟩
 ·exact ⟨by show ∀s∈co.YV.map Pr.name,nO s;decide,by show ∀s∈co.YW,s.size=1;decide⟩
 ·exact ⟨by show ∀s∈dm.YV.map Pr.name,nO s;decide,by show ∀s∈dm.YW,s.size=1;decide⟩
 ·exact ⟨by show ∀s∈jJ.YV.map Pr.name,nO s;decide,by show ∀s∈jJ.YW,s.size=1;decide⟩
 ·exact ⟨by show ∀s∈gU.YV.map Pr.name,nO s;decide,by show ∀s∈gU.YW,s.size=1;decide⟩
 ·exact ⟨by show ∀s∈gV.YV.map Pr.name,nO s;decide,by show ∀s∈gV.YW,s.size=1;decide⟩
theorem yM (x:Rw):(∀p∈(dC x).YV,nO p.name)/\∀s∈(dC x).YW,s.size=1:=by
 unfold dC;split
 ·rename_i h;obtain ⟨h1,h2⟩:=yL (ε h);exact ⟨λp hp=>h1 _ (YQ hp),h2⟩
 ·refine ⟨λp hp=> ?_,λs hs=> ?_⟩
  ·rw [W5.1 hp];decide
  ·have:∀s∈([⟨#[83]⟩,⟨#[80]⟩,⟨#[81]⟩]:List ο),s.size=1:=by decide
   exact this s (Yc hs)
theorem Bm (x:Rw):(∀p∈(dt x).YV,nO p.name)/\∀s∈(dt x).YW,s.size=1:=by
 obtain ⟨h1,h2⟩:=Bk x;obtain ⟨a1,a2⟩:=yM x;refine ⟨λp hp=> ?_,by rw [h1];exact a2⟩;rcases h2 p hp with h|⟨⟨k,h⟩,_⟩
 ·exact a1 p h
 ·rw [h];exact ED k
def cf (nn b:Nat):Sy:=if 200<b then ⟨Y8,((b % 9:Nat):Int)⟩ else ⟨Y6,((b % nn:Nat):Int)⟩
def nP (g:Gr) (i:Nat) (y:Ln):Pr:={bE (fD i) ((y.left % g.YW.length:Nat):Int) ((y.right.take 3).map (cf g.YW.length)) with cond:=dia (jc y.cond g.YY.length)}
def IN (g:Gr) (i:Nat) (y:Ln):Gr:={g with YV:=g.YV++[nP g i y]}
def eS (g:Gr):Nat->List Ln->Gr
 |_,[]=>g
 |i,y::l=>eS (IN g i y) (i+1) l
def gn (x:Rw) (more:List Ln):Gr:=eS (dt x) 0 (more.take 4)
theorem oK (y:Ln):∀(l:List Ln) (g:Gr) (i:Nat),eS g i (l++[y])=IN (eS g i l) (i+l.length) y
 |[],g,i=>rfl
 |z::l,g,i=>by rw [XP];unfold eS;rw [oK y l,Xl];congr 1;omega
theorem EF {g:Gr} (i:Nat) (y:Ln) (hc:g.YY.length<=3) (hn:g.YW.length≠0):PrI g.YY.length g.YW.length (nP g i y):=by
 have hlen:((y.right.take 3).map (cf g.YW.length)).length<=3:=by rw [Xd,Xe];omega
 refine ⟨⟨_,jO (by omega),rfl⟩,⟨by show (0:Int)<=((y.left % g.YW.length:Nat):Int);omega,?_⟩,by show ((y.right.take 3).map _).length<=5;omega,λs hs=> ?_,⟨by show (-1:Int)<=0;decide,by show (0:Int)<=1;decide⟩,by show 0<=2;decide,⟨λy hy=>(by cases hy),jj _ _ _,jj _ _ _,λh=>(by cases h)⟩,?_,?_⟩
 ·show ((y.left % g.YW.length:Nat):Int)<_;have:=X8 y.left (YD hn);omega
 ·obtain ⟨b,hb,rfl⟩:=Xi.1 (show s∈(y.right.take 3).map (cf g.YW.length) from hs);unfold cf;split
  ·exact ⟨by show (0:Int)<=((b % 9:Nat):Int);omega,λ_=>by show ((b % 9:Nat):Int)<9;omega,λh=>(by cases h)⟩
  ·refine ⟨by show (0:Int)<=((b % g.YW.length:Nat):Int);omega,λh=>(by cases h),λ_=> ?_⟩;show ((b % g.YW.length:Nat):Int)<_;have:=X8 b (YD hn);omega
 ·intro e;have h2:(2:Nat)=0:=congrArg ByteArray.size (show fD i=emp from e);cases h2
 ·show (fD i).size<=13;show 2<=13;decide
structure LG (g:Gr) (i:Nat):Prop where
 mg:MG g
 bd:Bd g (18+i) 10
 nm:∀p∈g.YV,∀k,i<=k->k<100->p.name≠fD k
theorem LG.made (x:Rw):LG (dt x) 0:=⟨(Bu x).1,(Bu x).2,λp hp k _ _=>PI ((Bm x).1 p hp) k⟩
theorem LG.add {g:Gr} {i:Nat} (h:LG g i) (hi:i<50) (y:Ln):LG (IN g i y) (i+1):=by
 refine ⟨h.mg.addP (λq hq=>h.nm q hq i (W8 _) (by omega)) (λk=>Bl i k) (EF i y h.bd.c h.bd.n0),h.bd.addP _,λp hp k hk hk2=> ?_⟩;rcases W9.1 (show p∈g.YV++[nP g i y] from hp) with hp|hp
 ·exact h.nm p hp k (by omega) hk2
 ·rw [W5.1 hp];intro e;have:=EE (by omega) hk2 (show fD i=fD k from e);omega
theorem LG.list:∀(l:List Ln) {g:Gr} {i:Nat},LG g i->i+l.length<50->LG (eS g i l) (i+l.length)
 |[],_,_,h,_=>h
 |y::l,g,i,h,hl=>by rw [Xl] at hl ⊢;have:=LG.list l (h.add (by omega) y) (by omega);rwa [show i+1+l.length=i+(l.length+1) by omega] at this
theorem IP (x:Rw) (more:List Ln):LG (gn x more) (min 4 more.length):=by have:=LG.list (more.take 4) (LG.made x) (by rw [Xe];omega);rwa [Xe,Xm] at this
section
variable {g:Gr} {i:Nat}
theorem LG.ok (h:LG g i) (hi:i<=50):OkK g g.YY.length:=⟨h.mg.ok h.bd (by omega) (by decide),rfl,by have:=h.bd.c;omega⟩
theorem LG.ti (h:LG g i) (hi:i<=50):Ti 50 g:=by
 have hcl:=h.bd.c;have hpl:=h.bd.p;have hnl:=h.bd.n;have htl:=h.bd.t;have hll:=h.bd.l;have hfl:=h.bd.f;obtain ⟨t,ht,ht0,hf⟩:=h.mg.fam;refine ⟨hcl,λs hs=> ?_,by have:=ht.brl (by omega);rw [hf];omega,by omega,λx hx=> ?_,by omega,λs hs=>by have:=h.mg.YW.2 s hs;omega,by omega,λx hx=> ?_,by omega,λx hx=> ?_,by omega,λx hx=> ?_⟩
 ·obtain ⟨n,hn,hc⟩:=h.mg.cs;rw [hc] at hs;have:∀s∈abc,s.size<=100:=by decide
  exact this s (Yc hs)
 ·have:qx x∈dN:=by rw [<- h.mg.YX.1];exact YQ hx
  have h2:∀u∈dN,u.name.size<=100/\u.lit.size<=100/\u.pat.length<=100/\u.smp.size<=100:=by decide
  obtain ⟨a1,a2,a3,a4⟩:=h2 _ this;exact ⟨a1,a2,a3,a4,by have:=(h.mg.YX.2 x hx).len (by omega);omega⟩
 ·have k:=h.mg.YV x hx;exact ⟨by have:=k.nm.2;omega,by have:=k.rl;omega,by have:=k.cond.len (by omega);omega,by have:=k.lay;omega⟩
 ·exact ⟨by have:=h.bd.lp x hx;omega,by have:=(h.mg.lvs.2 x hx).len (by omega);omega⟩
 ·exact ⟨by have:=(h.mg.fils x hx).2.2;omega,by have:=(h.mg.fils x hx).2.1.len (by omega);omega⟩
theorem LG.rl (h:LG g i):∀x∈g.YV,x.right.length<=1000000:=λx hx=>by have:=(h.mg.YV x hx).rl;omega
end
