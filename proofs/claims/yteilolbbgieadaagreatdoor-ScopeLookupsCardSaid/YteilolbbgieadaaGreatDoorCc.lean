/-
  Package facts: Cyclic, Check.
-/
import Derived.Test.YteilolbbgieadaaGreatDoorAb
import Derived.Tactics
import Derived.Tactics2
import Derived.Recover
import Derived.MapKept
import Derived.RangeFuncBox
import Derived.RangeFuncLeaves
import Derived.Shelf.Abstract
import Derived.WalkKit
import Derived.OwnWalkIn
import Derived.TacticsInMore
import Derived.LoopNIn
import Derived.LoopIn
set_option maxRecDepth 10000
open Option renaming some->V,none->I
open Go.Obj renaming cells->Y
open Bool renaming false->mz,true->mY
open Go.Value renaming agg->nL,bool->nS,pointer->ph,tuple->pk,slice->tS
open Go.Addr renaming add->nR,mk->ou
open Int renaming toNat->nT
noncomputable section
namespace Go.Proofs.YteilolbbgieadaaGreatDoor
open Go.IntKind (i64 u8 u64)
open Sl renaming v->nE,nil->pi,mk->ua
open Go Go.Proofs.Tryz Tr
section
def WY (l:List Pr) (P:Nat->Tr) (c:Cf) (a b:Int):Prop:=∃(i j:Nat) (x:Pr) (s:Sy),l[i]? =V x/\x.right[j]? =V s/\s.t=mz/\x.left=a/\s.i=b/\(P i).ev c=mY/\
 ∀(m:Nat) (y:Sy),m≠j->x.right[m]? =V y->y.t=mz/\Der l P mY c y.i
inductive Tg {α:Type} (R:α->α->Prop) (a:α):α->Prop
 |one {b:α}:R a b->Tg R a b
 |snoc {b d:α}:Tg R a b->R b d->Tg R a d
section
variable {α:Type} {R:α->α->Prop}
theorem Tg.head {a b:α} (h:Tg R a b):∃d,R a d:=by
 induction h with
 |one g=>exact ⟨_,g⟩
 |snoc _ _ ih=>exact ih
end
variable {R:VR} {F:PH}
set_option maxHeartbeats 4000000
def UU (c:Γ) (R:VR) (F:PH):Prop:=Nb F (Y c 39) λf F=>Nb F (Y (#[nS mz]) 4) λd F=>qW F (Z d 0) (nS mz) λF=>Lr F 9 (Z f 0) λe=>Ci 78 #[nL e,.func (.func 79) #[] #[(Pp d)]] F λa F=>Bc (a=0) (Lb F (Z d 0) λb=>Bb (b) (R (U 60) F) (R (U a) F)) (R (U a) F)
theorem qgl {a:Γ} (h:UU a R F):ν 47 #[nL a] F R:=Rx.Λ .N h
def In (b:ξ) (g e:Nat) (R:VR) (F:PH):Prop:=Fn b λf c d=>aj prog f (c++([(Pp e)]).toArray++d) F λv F=>v=(pk #[])/\qW F (Z g 0) (U 0) λF=>Li F (Z g 0) λa=>R (U a) F
def Io (d:Ω) (_:ξ) (_ _ _:Nat) (_:Sl) (a:Int) (_:VR) (F:PH):Prop:=d (i64.wrap (a+1)) F
def Bk (i:Ω) (b:ξ) (j k c l:Nat) (d:Sl) (e:Int) (R:VR) (F:PH):Prop:=Ls F (Z c 9) λf=>Lr F 2 (Z l 0) λa=>a.size=2/\Nb F (Y a 33) λh F=>Ap 205 #[nE f,nE (Sb h 1)] F λg F=>qW F (Z c 9) (nE g) λF=>Io i b j k c d e R F
def vR (_ f:Ω) (_:ξ) (_ _ _ _:Nat) (_:Sl) (_:Int) (_:Sl) (a:Int) (_:VR) (F:PH):Prop:=f (i64.wrap (a+1)) F
def vS (u x:Ω) (b:ξ) (l w k m:Nat) (f:Sl) (g:Int) (c:Sl) (R:VR) (a:Int) (F:PH):Prop:=Bc (a<(c.len:Int)) (Ix c a λn=>Lr F 2 (nR n (nT a*2)) λo=>Nb F (Y (#[nS mz,U 0]) 130) λh F=>aA F (Z h 0) 2 o λF=>Lb F (Z h 0) λp=>Bb (p) (Lr F 2 (Z m 0) λq=>Ls F (Z l 3) λi=>Li F (Z h 1) λd=>Ix i d λr=>Lr F 2 (nR (nR r (nT d*7)) 5) λs=>ν 109 #[nL q,nL s] F λv F=>∃j,∃e,v=(pk #[nL j,(U e)])/\F.cell (Z h 1)=V (U d)/\F.cell (Z l 3)=V (nE i)/\Ca 108 #[nL j,(U e)] F λt F=>F.cell (Z h 1)=V (U d)/\F.cell (Z l 3)=V (nE i)/\aA F (Z m 0) 2 t λF=>vR u x b l w k m f g c a R F) (vR u x b l w k m f g c a R F)) (Bk u b l w k m f g R F)
def Bl (t:Ω) (c:ξ) (q r g:Nat) (d:Sl) (R:VR) (a:Int) (F:PH):Prop:=Bc (a<(d.len:Int)) (Ix d a λh=>Lr F 13 (nR h (nT a*13)) λi=>Nb F (Y zP 64) λo F=>aA F (Z o 0) 13 i λF=>Lr F 2 (Z q 1) λj=>Lr F 2 (Z o 3) λk=>ν 109 #[nL j,nL k] F λv F=>∃e,∃b,v=(pk #[nL e,(U b)])/\Ca 108 #[nL e,(U b)] F λl F=>Nb F (Y zD 33) λs F=>aA F (Z s 0) 2 l λF=>Ls F (Z o 2) λm=>(∃(p:Nat->Ω) (n:Nat),p n 0 F/\∀n f F,p n f F-> vS t (Xg p n) c q r g s d a m R f F)) (In c r g R F)
def UV (j:Γ) (d:ξ) (R:VR) (F:PH):Prop:=Nb F (Y j 39) λh F=>Nb F (Y (#[U 0]) 49) λi F=>Lr F 9 (Z h 0) λe=>Ci 104 #[nL e] F λb F=>Bc (b≠0) (qW F (Z i 0) (U b) λF=>Li F (Z i 0) λa=>R (U a) F) (Cz prog ⟨.fn (.func 107) #[(Pp i)],#[]++[].toArray⟩/\Lr F 9 (Z h 0) λc=>c.size=9/\Nb F (Y (wr (#[tS I 0 0,.slice I 0 0,U 0,.slice I 0 0,.slice I 0 0,.slice I 0 0,U 0,.slice I 0 0,.slice I 0 0,.slice I 0 0]:Γ) 0 c.toList) 207) λk F=>Ls F (Z h 5) λf=>Lp 0 F λN g F=>Bl N d h i k f R g F)
theorem qgm {b:Γ} {a:ξ} (h:UV b a R F):ν 78 #[nL b,a] F R:=Rx.Λ (.qa8 (.qa8 (.qa8 (.qa8 (.J mz [] (.qa8 (.L [(24,.int .i64)] (.qa8 (.qa8 (.J mz [] (.qa8 (.qa8 (.J mz [] (.qa8 (.L [(39,.int .i64)] (.qa8 (.qa8 (.J mz [] .N .N))))) .N))) .N))))) .N))))) h
def Ip (i:Ψ) (h:Θ) (j:Nat) (R:VR) (F:PH):Prop:=aG prog (Instr.next (Pp j) mz 0) F λv F=>∃d,v=(pk d)/\∃e,d[0]? =V (nS e)/\Bb (e) (∃b,pn prog (Instr.entry (Pp j)) F (pk b)/\∃c,b[1]? =V (nL c)/\Nb F (Y zD 33) λk F=>aA F (Z k 0) 2 c λF=>∃a,h=V a/\Lb F a λf=>Bb (f) (qW F a (nS mY) λF=>i F) (Li F (Z k 1) λg=>qW F a (nS (decide (g≠0))) λF=>i F)) (R (pk #[]) F)
def UW (c d:Θ) (R:VR) (F:PH):Prop:=ν 80 #[ph c] F λv F=>∃a:Option Nat,v=(.map a)/\aG prog (Instr.range 170 (.map a)) F λv F=>∃f:Nat,v=(Pp f)/\(∃(e:Nat->Ψ) (b:Nat),e b F/\∀b F,e b F-> Ip (λF=>∃g,g<b/\e g F) d f R F)
theorem qgn {a:Θ} {b:Θ} (h:UW a b R F):ν 79 #[ph a,ph b] F R:=Rx.Λ (.qa8 (.L [] .N)) h
def Iq (a:Nat) (R:VR) (F:PH):Prop:=R (.map (V a)) F
def vT (e:Ω) (_:Addr) (_ _ _:Nat) (_:Sl) (a:Int) (_:VR) (F:PH):Prop:=e (i64.wrap (a+1)) F
def Ir (i:Ω) (f:Addr) (j g c:Nat) (a:Int) (h:Nat) (d:Sl) (R:VR) (F:PH):Prop:=∃b:Option Nat,F.cell (Z h 0)=V (.map b)/\Ca 116 #[.map b,(U a)] F λe F=>aG prog (Instr.mapUpdate 170 (.map (V c)) (U a) (nL e)) F λ_ F=>vT i f j g c d a R F
def Is (q:Ω) (o:Ψ) (l:Addr) (p m n:Nat) (c:Int) (g d:Nat) (h:Sl) (R:VR) (F:PH):Prop:=Ls F (Z d 0) λi=>Bc ((0:Int)<(i.len:Int)) (Ls F (Z d 0) λj=>Ix j 0 λk=>Li F (nR k (nT 0*1)) λb=>Ls F (Z d 0) λa=>1<=a.len/\a.len<=a.cap/\qW F (Z d 0) (nE (Sl.cut a 1 1 a.len a.cap)) λF=>Bc (b≠c) (∃e:Option Nat,F.cell (Z g 0)=V (.map e)/\∃f,pn prog (Instr.lookup 170 (.map e) (U b) mz) F (nL f)/\Cu 115 #[(U b),nL f,(Pp m),(Pp g),(Pp p),(Pp d)] F λF=>o F) (o F)) (Ir q l p m n c g h R F)
def Bm (p:Ω) (c:Addr) (n g d:Nat) (b:Sl) (R:VR) (a:Int) (F:PH):Prop:=Bc (a<(b.len:Int)) (∃e:Option Nat,F.cell (Z g 0)=V (.map e)/\∃f,pn prog (Instr.lookup 215 (.map e) (U a) mz) F (nE f)/\Bc ((f.len:Int)=0) (vT p c n g d b a R F) (Nb F (.map #[] 0) λk F=>Nb F (Y (#[.map I]) 170) λh F=>qW F (Z h 0) (.map (V k)) λF=>Nb F (Y #[] 3) λl F=>Nb F (Y (#[tS I 0 0]) 76) λi F=>qW F (Z i 0) (nE (Sb l 0)) λF=>Lr F 2 (nR c 1) λj=>Cu 115 #[(U a),nL j,(Pp g),(Pp h),(Pp n),(Pp i)] F λF=>(∃(o:Nat->Ψ) (m:Nat),o m F/\∀m F,o m F-> Is p (λF=>∃q,q<m/\o q F) c n g d a h i b R F))) (Iq d R F)
def vU (e:Θ) (g f:Nat) (R:VR) (F:PH):Prop:=Nb F (.map #[] 0) λd F=>∃a,e=V a/\Ls F (nR a 4) λb=>Lp 0 F λN c F=>Bm N a g f d b R c F
def It (q:Ψ) (p:Θ) (r d l:Nat) (R:VR) (F:PH):Prop:=aG prog (Instr.next (Pp l) mz 0) F λv F=>∃e,v=(pk e)/\∃f,e[0]? =V (nS f)/\Bb (f) (∃g,pn prog (Instr.entry (Pp l)) F (pk g)/\∃h,g[0]? =V (nL h)/\Nb F (Y (#[U 0,U 0]) 213) λc F=>aA F (Z c 0) 2 h λF=>∃a:Option Nat,F.cell (Z d 0)=V (.map a)/\0<=(0:Int)/\(0:Int)<2/\Li F (nR (Z c 0) (nT 0*1)) λi=>∃b:Option Nat,F.cell (Z d 0)=V (.map b)/\0<=(0:Int)/\(0:Int)<2/\Li F (nR (Z c 0) (nT 0*1)) λj=>∃k,pn prog (Instr.lookup 215 (.map b) (U j) mz) F (nE k)/\0<=(1:Int)/\(1:Int)<2/\Li F (nR (Z c 0) (nT 1*1)) λm=>Nb F (Y #[(U m)] 3) λo F=>Ap 76 #[nE k,nE (Sb o 1)] F λn F=>F.cell (nR (Z c 0) (nT 0*1))=V (U j)/\F.cell (Z d 0)=V (.map b)/\F.cell (nR (Z c 0) (nT 0*1))=V (U i)/\F.cell (Z d 0)=V (.map a)/\aG prog (Instr.mapUpdate 215 (.map a) (U i) (nE n)) F λ_ F=>q F) (vU p r d R F)
def vV (e:Θ) (h:Nat) (R:VR) (F:PH):Prop:=Nb F (.map #[] 0) λf F=>Nb F (Y (#[.map I]) 215) λc F=>qW F (Z c 0) (.map (V f)) λF=>∃a:Option Nat,F.cell (Z h 0)=V (.map a)/\aG prog (Instr.range 211 (.map a)) F λv F=>∃b:Nat,v=(Pp b)/\(∃(g:Nat->Ψ) (d:Nat),g d F/\∀d F,g d F-> It (λF=>∃i,i<d/\g i F) e h c b R F)
def Iu (e:Ω) (_:Addr) (_:Option Nat) (_:Nat) (_:Sl) (a:Int) (_:VR) (F:PH):Prop:=e (i64.wrap (a+1)) F
def nD (_ g:Ω) (_:Addr) (_:Option Nat) (_:Nat) (_:Int) (_:Nat) (_ _:Sl) (a:Int) (_:VR) (F:PH):Prop:=g (i64.wrap (a+1)) F
def Iv (x y:Ω) (b:Addr) (f:Option Nat) (n:Nat) (g:Int) (w z o:Nat) (h i:Sl) (j:Int) (R:VR) (F:PH):Prop:=Li F (Z o 1) λp=>Bc (p≠0) (Li F (Z w 1) λq=>Li F (Z z 1) λr=>Nb F (Y (#[U 0,U 0]) 213) λe F=>aA F (Z e 0) 2 (#[(U q),(U r)]:Γ) λF=>∃a:Option Nat,F.cell (Z n 0)=V (.map a)/\Lr F 2 (Z e 0) λc=>∃k:Option Nat,F.cell (Z n 0)=V (.map k)/\Lr F 2 (Z e 0) λs=>Lr F 2 (Z o 0) λl=>Ca 114 #[.map k,nL s] F λt F=>F.row (Z o 0) l/\F.row (Z e 0) c/\F.cell (Z n 0)=V (.map a)/\ν 113 #[nL t,nL l] F λv F=>∃m,∃d,v=(pk #[nL m,(U d)])/\F.row (Z e 0) c/\F.cell (Z n 0)=V (.map a)/\Ca 108 #[nL m,(U d)] F λu F=>F.row (Z e 0) c/\F.cell (Z n 0)=V (.map a)/\aG prog (Instr.mapUpdate 211 (.map a) (nL c) (nL u)) F λ_ F=>nD x y b f n g w h i j R F) (nD x y b f n g w h i j R F)
def vW (_ _ i:Ω) (_:Addr) (_:Option Nat) (_:Nat) (_:Int) (_ _ _:Nat) (_ _:Sl) (_:Int) (_:Sl) (a:Int) (_:VR) (F:PH):Prop:=i (i64.wrap (a+1)) F
def Bn (o p t:Ω) (a:Addr) (d:Option Nat) (q:Nat) (e:Int) (r s i:Nat) (f g:Sl) (h:Int) (c:Sl) (R:VR) (b:Int) (F:PH):Prop:=Bc (b<(c.len:Int)) (Ix c b λj=>Lr F 2 (nR j (nT b*2)) λk=>Nb F (Y (#[nS mz,U 0]) 130) λl F=>aA F (Z l 0) 2 k λF=>Lb F (Z l 0) λm=>Bb (m) (Ca 112 #[nS mz] F λn F=>aA F (Z i 0) 2 n λF=>vW o p t a d q e r s i f g h c b R F) (vW o p t a d q e r s i f g h c b R F)) (Iv o p a d q e r s i f g h R F)
def Bo (v A:Ω) (c:Addr) (f:Option Nat) (w:Nat) (d:Int) (i:Nat) (h g:Sl) (R:VR) (a:Int) (F:PH):Prop:=Bc (a<(g.len:Int)) (Ix g a λl=>Lr F 2 (nR l (nT a*2)) λm=>Nb F (Y (#[nS mz,U 0]) 130) λx F=>aA F (Z x 0) 2 m λF=>Lb F (Z x 0) λn=>Bb (n) (nD v A c f w d i h g a R F) (Ls F (Z i 2) λe=>0<=a/\0<=(nT a)/\(nT a)<=e.cap/\Ls F (Z i 2) λb=>0<=(i64.wrap (a+1))/\(nT (i64.wrap (a+1)))<=b.len/\b.len<=b.cap/\Nb F (Y #[] 130) λy F=>Ap 61 #[nE (Sb y 0),nE (Sl.cut e 2 0 (nT a) e.cap)] F λo F=>F.cell (Z i 2)=V (nE b)/\F.cell (Z i 2)=V (nE e)/\Ap 61 #[nE o,nE (Sl.cut b 2 (nT (i64.wrap (a+1))) b.len b.cap)] F λj F=>F.cell (Z i 2)=V (nE b)/\F.cell (Z i 2)=V (nE e)/\Ls F (nR c 9) λp=>Ix p d λq=>Lr F 2 (nR q (nT d*2)) λr=>Ca 111 #[nL r,nE j,.map f] F λs F=>Nb F (Y zD 33) λt F=>aA F (Z t 0) 2 s λF=>(∃(z:Nat->Ω) (u:Nat),z u 0 F/\∀u k F,z u k F-> Bn v A (Xg z u) c f w d i x t h g a j R k F))) (Iu v c f w h d R F)
def vX (m:Ω) (a:Addr) (e:Option Nat) (l:Nat) (c:Sl) (R:VR) (b:Int) (F:PH):Prop:=Bc (b<(c.len:Int)) (Ix c b λf=>Lr F 13 (nR f (nT b*13)) λg=>Nb F (Y zP 64) λj F=>aA F (Z j 0) 13 g λF=>Ls F (Z j 2) λh=>(∃(k:Nat->Ω) (i:Nat),k i 0 F/\∀i d F,k i d F-> Bo m (Xg k i) a e l b j c h R d F)) (vV (V a) l R F)
def UX (c:Θ) (R:VR) (F:PH):Prop:=ν 110 #[ph c,nS mY] F λv F=>∃b:Option Nat,v=(.map b)/\Nb F (.map #[] 0) λf F=>Nb F (Y (#[.map I]) 211) λg F=>qW F (Z g 0) (.map (V f)) λF=>∃a,c=V a/\Ls F (nR a 5) λd=>Lp 0 F λN e F=>vX N a b g d R e F
theorem qgo {a:Θ} (h:UX a R F):ν 80 #[ph a] F R:=Rx.Λ (.qa8 (.qa8 (.qa8 (.J mz [(0,.ptr)] (.qa8 (.L [(31,.int .i64)] (.qa8 (.qa8 (.J mz [] (.qa8 (.qa8 (.L [(39,.int .i64)] (.qa8 (.qa8 (.J mz [] (.qa8 (.qa8 (.qa8 (.qa8 (.J mz [] (.qa8 (.L [(70,.int .i64)] (.qa8 (.qa8 (.J mz [] .N .N))))) .N))))) .N)))))) .N))))) (.qa8 (.J mz [] (.qa8 (.L [] .N)) (.qa8 (.J mz [] (.qa8 (.L [(123,.int .i64)] (.qa8 (.qa8 (.J mz [] (.qa8 (.qa8 (.qa8 (.qa8 (.qa8 (.qa8 (.J mz [] (.L [] .N) .N))))))) .N))))) .N)))))))) h
def OA (b:Γ) (c:Int) (R:VR) (F:PH):Prop:=Nb F (Y b 33) λe F=>Nb F (Y zD 33) λd F=>Bc (c≠0) (False) (Lr F 2 (Z e 0) λa=>aA F (Z d 0) 2 a λF=>Rr 2 (Z d 0) R F)
theorem qcS {a:Γ} {b:Int} (h:OA a b R F):ν 108 #[nL a,(U b)] F R:=Rx.Λ .N h
def OB (e:Θ) (a:Bool) (R:VR) (F:PH):Prop:=Nb F (Y #[ph e] 169) λf F=>Nb F (Y #[nS a] 4) λg F=>Nb F (.map #[] 0) λh F=>Nb F (Y (#[.map I]) 170) λd F=>qW F (Z d 0) (.map (V h)) λF=>∃c:Option Nat,F.cell (Z d 0)=V (.map c)/\Cu 150 #[.map c,.func (.func 151) #[] #[(Pp f),(Pp g),(Pp d)]] F λF=>∃b:Option Nat,F.cell (Z d 0)=V (.map b)/\R (.map b) F
theorem qcT {b:Θ} {a:Bool} (h:OB b a R F):ν 110 #[ph b,nS a] F R:=Rx.Λ .N h
def Dn (c b:Nat) (R:VR) (F:PH):Prop:=Lr F 2 (Z c 0) λa=>aA F (Z b 0) 2 a λF=>Rr 2 (Z b 0) R F
def pD (c:Ω) (_:Option Nat) (_ _:Nat) (_:Sl) (a:Int) (_:VR) (F:PH):Prop:=c (i64.wrap (a+1)) F
def pE (l:Ω) (a:Option Nat) (f m n:Nat) (g:Sl) (c:Int) (h:Bool) (R:VR) (F:PH):Prop:=Bb (h) (Lr F 2 (Z f 0) λd=>Li F (Z n 1) λi=>Ca 116 #[.map a,(U i)] F λj F=>F.row (Z f 0) d/\ν 109 #[nL d,nL j] F λv F=>∃e,∃b,v=(pk #[nL e,(U b)])/\Ca 108 #[nL e,(U b)] F λk F=>aA F (Z f 0) 2 k λF=>pD l a f m g c R F) (pD l a f m g c R F)
def vY (k:Ω) (b:Option Nat) (h j:Nat) (c:Sl) (R:VR) (a:Int) (F:PH):Prop:=Bc (a<(c.len:Int)) (Ix c a λd=>Lr F 2 (nR d (nT a*2)) λe=>Nb F (Y (#[nS mz,U 0]) 130) λi F=>aA F (Z i 0) 2 e λF=>Lb F (Z i 0) λf=>Bb ((!f)) (Li F (Z h 1) λg=>pE k b h j i c a (decide (g≠0)) R F) (pE k b h j i c a mz R F)) (Dn h j R F)
def OC (c:Γ) (d:Sl) (a:Option Nat) (R:VR) (F:PH):Prop:=Nb F (Y c 33) λe F=>Nb F (Y zD 33) λf F=>Lp 0 F λN b F=>vY N a e f d R b F
theorem U0 {b:Γ} {c:Sl} {a:Option Nat} (h:OC b c a R F):ν 111 #[nL b,nE c,.map a] F R:=Rx.Λ (.qa8 (.J mz [] (.qa8 (.L [(11,.int .i64)] (.qa8 (.qa8 (.J mz [] (.qa8 (.J mz [(22,.bool)] .N .N)) .N))))) .N)) h
def OD (b:Option Nat) (g:Γ) (R:VR) (F:PH):Prop:=Nb F (Y g 213) λj F=>Nb F (Y zD 33) λf F=>Lr F 2 (Z j 0) λh=>∃(c:Γ) (a:Bool),pn prog (Instr.lookup 211 (.map b) (nL h) mY) F (pk #[nL c,nS a])/\Nb F (Y zD 33) λi F=>aA F (Z i 0) 2 c λF=>Bb (a) (Lr F 2 (Z i 0) λd=>aA F (Z f 0) 2 d λF=>Rr 2 (Z f 0) R F) (Ca 112 #[nS mz] F λe F=>aA F (Z f 0) 2 e λF=>Rr 2 (Z f 0) R F)
theorem U1 {a:Option Nat} {b:Γ} (h:OD a b R F):ν 114 #[.map a,nL b] F R:=Rx.Λ .N h
def pF (d:Ω) (_:Int) (_ _ _:Θ) (_:Nat) (_:Sl) (a:Int) (_:VR) (F:PH):Prop:=d (i64.wrap (a+1)) F
def ic (t:Ω) (b:Int) (d:Addr) (j k:Θ) (u:Nat) (f:Int) (r:Nat) (g:Sl) (h:Int) (e:Θ) (R:VR) (F:PH):Prop:=Lr F 2 (Z r 0) λl=>∃a,e=V a/\Lr F 2 a λm=>ud 117 #[nL l,nL m] F λn F=>Bb ((!n)) (∃i:Option Nat,F.cell d=V (.map i)/\Lr F 2 a λo=>aG prog (Instr.mapUpdate 170 (.map i) (U f) (nL o)) F λ_ F=>∃c,k=V c/\Ls F c λp=>Nb F (Y #[(U f)] 3) λs F=>Ap 76 #[nE p,nE (Sb s 1)] F λq F=>qW F c (nE q) λF=>pF t b (V d) j (V c) u g h R F) (pF t b (V d) j k u g h R F)
def vZ (N:Ω) (c:Int) (T z0 t:Θ) (M:Nat) (g:Sl) (R:VR) (e:Int) (F:PH):Prop:=Bc (e<(g.len:Int)) (Ix g e λO=>Li F (nR O (nT e*1)) λh=>∃i,T=V i/\∃z2:Option Nat,F.cell i=V (.map z2)/\Ca 116 #[.map z2,(U h)] F λP F=>Nb F (Y zD 33) λf F=>aA F (Z f 0) 2 P λF=>Lr F 2 (Z f 0) λd=>Lr F 2 (Z M 0) λK=>∃a,z0=V a/\∃b:Option Nat,F.cell a=V (.map b)/\∃u,pn prog (Instr.lookup 211 (.map b) (nL (#[(U c),(U h)]:Γ)) mz) F (nL u)/\((ν 109 #[nL K,nL u] F λv F=>∃w,∃j,v=(pk #[nL w,(U j)])/\F.cell a=V (.map b)/\F.row (Z f 0) d/\((Ca 108 #[nL w,(U j)] F λL F=>F.cell a=V (.map b)/\F.row (Z f 0) d/\((ν 113 #[nL d,nL L] F λv F=>∃x,∃k,v=(pk #[nL x,(U k)])/\F.cell a=V (.map b)/\((Ca 108 #[nL x,(U k)] F λQ F=>F.cell a=V (.map b)/\Nb F (Y zD 33) λS F=>aA F (Z S 0) 2 Q λF=>ic N c i (V a) t M h f g e (V (Z S 0)) R F)/\(Nb F (Y zD 33) λy F=>Ca 108 #[nL x,(U k)] F λC F=>F.cell a=V (.map b)/\aA F (Z y 0) 2 C λF=>ic N c i (V a) t M h f g e (V (Z y 0)) R F)))/\(Nb F (Y zD 33) λz F=>ν 113 #[nL d,nL L] F λv F=>∃l,∃m,v=(pk #[nL l,(U m)])/\F.cell a=V (.map b)/\Ca 108 #[nL l,(U m)] F λD F=>F.cell a=V (.map b)/\aA F (Z z 0) 2 D λF=>ic N c i (V a) t M h f g e (V (Z z 0)) R F)))/\(Nb F (Y zD 33) λA F=>Ca 108 #[nL w,(U j)] F λE F=>F.cell a=V (.map b)/\F.row (Z f 0) d/\ν 113 #[nL d,nL E] F λv F=>∃n,∃o,v=(pk #[nL n,(U o)])/\F.cell a=V (.map b)/\Ca 108 #[nL n,(U o)] F λG F=>F.cell a=V (.map b)/\aA F (Z A 0) 2 G λF=>ic N c i (V a) t M h f g e (V (Z A 0)) R F)))/\(Nb F (Y zD 33) λB F=>ν 109 #[nL K,nL u] F λv F=>∃p,∃q,v=(pk #[nL p,(U q)])/\F.cell a=V (.map b)/\F.row (Z f 0) d/\Ca 108 #[nL p,(U q)] F λH F=>F.cell a=V (.map b)/\F.row (Z f 0) d/\ν 113 #[nL d,nL H] F λv F=>∃r,∃s,v=(pk #[nL r,(U s)])/\F.cell a=V (.map b)/\Ca 108 #[nL r,(U s)] F λz1 F=>F.cell a=V (.map b)/\aA F (Z B 0) 2 z1 λF=>ic N c i (V a) t M h f g e (V (Z B 0)) R F))) (R (pk #[]) F)
def OE (a:Int) (f:Γ) (g h i j:Θ) (R:VR) (F:PH):Prop:=Nb F (Y f 33) λk F=>∃b,g=V b/\∃c:Option Nat,F.cell b=V (.map c)/\∃d,pn prog (Instr.lookup 215 (.map c) (U a) mz) F (nE d)/\Lp 0 F λN e F=>vZ N a h i j k d R e F
theorem U2 {a:Int} {b:Γ} {c:Θ} {d:Θ} {e:Θ} {f:Θ} (h:OE a b c d e f R F):ν 115 #[(U a),nL b,ph c,ph d,ph e,ph f] F R:=Rx.Λ (.qa8 (.qa8 (.L [(16,.int .i64)] (.qa8 (.qa8 (.J mz [(3,.ptr),(5,.ptr)] (.qa8 (.qa8 (.J mz [(4,.ptr),(11,.ptr)] .N .N))) .N)))))) h
def OF (b:Option Nat) (g:Int) (R:VR) (F:PH):Prop:=Nb F (Y zD 33) λf F=>∃(c:Γ) (a:Bool),pn prog (Instr.lookup 170 (.map b) (U g) mY) F (pk #[nL c,nS a])/\Nb F (Y zD 33) λh F=>aA F (Z h 0) 2 c λF=>Bb (a) (Lr F 2 (Z h 0) λd=>aA F (Z f 0) 2 d λF=>Rr 2 (Z f 0) R F) (Ca 112 #[nS mz] F λe F=>aA F (Z f 0) 2 e λF=>Rr 2 (Z f 0) R F)
theorem U3 {a:Option Nat} {b:Int} (h:OF a b R F):ν 116 #[.map a,(U b)] F R:=Rx.Λ .N h
def Do (i:Θ->Ψ) (c:ξ) (j:Nat) (R:VR) (b:Θ) (F:PH):Prop:=∃a,b=V a/\Lb F a λg=>Bb (g) (qW F a (nS mz) λF=>Fn c λk e f=>aj prog k (e++([(Value.func (.func 187) #[] #[(Pp j),(ph (V a))])]).toArray++f) F λv F=>v=(pk #[])/\Lb F a λh=>Nb F (Y (#[nS mz]) 4) λd F=>qW F (Z d 0) (nS h) λF=>i (V (Z d 0)) F) (R (pk #[]) F)
def OG (c:Option Nat) (b:ξ) (R:VR) (F:PH):Prop:=Nb F (Y #[.map c] 170) λg F=>Nb F (Y (#[nS mz]) 4) λf F=>qW F (Z f 0) (nS mY) λF=>(∃(e:Nat->Θ->Ψ) (d:Nat),e d (V (Z f 0)) F/\∀d a F,e d a F-> Do (Xg e d) b g R a F)
theorem U4 {b:Option Nat} {a:ξ} (h:OG b a R F):ν 150 #[.map b,a] F R:=Rx.Λ (.qa8 (.qa8 (.L [(4,.ptr)] .N))) h
def pG (e:Ω) (_:ξ) (_:Addr) (_ _:Θ) (_:Sl) (a:Int) (_:VR) (F:PH):Prop:=e (i64.wrap (a+1)) F
def Dp (u:Ω) (c:ξ) (b:Addr) (q r:Θ) (d:Int) (s:Nat) (l:Sl) (R:VR) (F:PH):Prop:=Li F (Z s 1) λh=>Lq F b λe=>∃a,e=V a/\Ls F (nR a 9) λf=>Ix f d λm=>Lr F 2 (nR m (nT d*2)) λn=>Ls F (Z s 2) λo=>∃g,r=V g/\∃i:Option Nat,F.cell g=V (.map i)/\Ca 111 #[nL n,nE o,.map i] F λp F=>F.cell (nR a 9)=V (nE f)/\F.cell b=V (ph e)/\F.cell (Z s 1)=V (U h)/\Fn c λt j k=>aj prog t (j++([(U h),(nL p)]).toArray++k) F λv F=>v=(pk #[])/\F.cell (nR a 9)=V (nE f)/\F.cell b=V (ph e)/\pG u c b q (V g) l d R F
def pH (_ g:Ω) (_:ξ) (_:Addr) (_ _:Θ) (_:Int) (_:Nat) (_ _:Sl) (a:Int) (_:VR) (F:PH):Prop:=g (i64.wrap (a+1)) F
def wa (n p:Ω) (a:ξ) (c:Addr) (i h:Θ) (d:Int) (o:Nat) (e f:Sl) (R:VR) (b:Int) (F:PH):Prop:=Bc (b<(f.len:Int)) (Ix f b λj=>Lr F 2 (nR j (nT b*2)) λk=>Nb F (Y (#[nS mz,U 0]) 130) λq F=>aA F (Z q 0) 2 k λF=>Lb F (Z q 0) λl=>Bb (l) (∃g,i=V g/\Lb F g λm=>Bb (m) (pG n a c (V g) h e d R F) (pH n p a c (V g) h d o e f b R F)) (pH n p a c i h d o e f b R F)) (Dp n a c i h d o e R F)
def wb (n:Ω) (d:ξ) (e:Addr) (j k:Θ) (b:Sl) (R:VR) (a:Int) (F:PH):Prop:=Bc (a<(b.len:Int)) (Ix b a λf=>Lr F 13 (nR f (nT a*13)) λg=>Nb F (Y zP 64) λl F=>aA F (Z l 0) 13 g λF=>Ls F (Z l 2) λh=>(∃(m:Nat->Ω) (i:Nat),m i 0 F/\∀i c F,m i c F-> wa n (Xg m i) d e j k a l b h R c F)) (R (pk #[]) F)
def OH (c:ξ) (f g h:Θ) (R:VR) (F:PH):Prop:=∃a,f=V a/\Lq F a λi=>∃b,i=V b/\Ls F (nR b 5) λd=>Lp 0 F λN e F=>wb N c a g h d R e F
theorem qcK {a:ξ} {b:Θ} {c:Θ} {d:Θ} (h:OH a b c d R F):ν 151 #[a,ph b,ph c,ph d] F R:=Rx.Λ (.qa8 (.qa8 (.L [(15,.int .i64)] (.qa8 (.qa8 (.J mz [(2,.ptr),(3,.ptr)] (.qa8 (.J mz [] (.qa8 (.L [(23,.int .i64)] (.qa8 (.qa8 (.J mz [(2,.ptr)] .N .N))))) .N)) .N)))))) h
def OI (g:Int) (p:Γ) (q r:Θ) (R:VR) (F:PH):Prop:=Nb F (Y p 33) λw F=>Li F (Z w 1) λs=>Bc (s=0) (R (pk #[]) F) (∃b,q=V b/\∃c:Option Nat,F.cell b=V (.map c)/\Ca 116 #[.map c,(U g)] F λh F=>Nb F (Y zD 33) λt F=>aA F (Z t 0) 2 h λF=>Lr F 2 (Z t 0) λi=>Lr F 2 (Z w 0) λj=>ν 113 #[nL i,nL j] F λv F=>∃d,∃a,v=(pk #[nL d,(U a)])/\Ca 108 #[nL d,(U a)] F λk F=>Nb F (Y zD 33) λu F=>aA F (Z u 0) 2 k λF=>Lr F 2 (Z t 0) λl=>Lr F 2 (Z u 0) λm=>ud 117 #[nL l,nL m] F λn F=>Bb ((!n)) (∃e:Option Nat,F.cell b=V (.map e)/\Lr F 2 (Z u 0) λo=>aG prog (Instr.mapUpdate 170 (.map e) (U g) (nL o)) F λ_ F=>∃f,r=V f/\qW F f (nS mY) λF=>R (pk #[]) F) (R (pk #[]) F))
theorem qcL {a:Int} {b:Γ} {c:Θ} {d:Θ} (h:OI a b c d R F):ν 187 #[(U a),nL b,ph c,ph d] F R:=Rx.Λ .N h
section
variable {κ:Type} {enc:κ->ξ} {G G0 G1 F:PH} {As:List (Ψ)} {m:Nat} {S S':κ->Tr} {mp mp':κ->Option ξ}
def i7 (G:PH) (S:κ->Tr) (mp:κ->Option ξ):Prop:=∀n,(mp n=I/\S n=qa6 mz)\/∃w,mp n=V (nL w)/\DV G w (pg (S n))
theorem i7.le (h:i7 G0 S mp) (l:G0.le G):i7 G S mp:=λn=>(h n).imp id λ⟨w,g,r⟩=>⟨w,g,r.le l⟩
theorem i7.empty (G:PH):i7 G (λ_:κ=>qa6 mz) (λ_=>I):=λ_=> .inl ⟨rfl,rfl⟩
variable [DecidableEq κ]
theorem i7.put (h:i7 G S mp) {n:κ} {w:Γ} {t:Tr} (hd:DV G w (pg t)):i7 G (j9 S n t) (λk=>if k=n then V (nL w) else mp k):=λk=>by
 unfold j9;dsimp only;by_cases e:k=n
 ·rw [Χ e,Χ e];exact .inr ⟨w,rfl,hd⟩
 ·rw [Υ e,Υ e];exact h k
def mS (enc:κ->ξ) (G:PH) (m:Nat) (S:κ->Tr):Ψ:=λH=>∃o mp,H m=V o/\dX enc mp o/\i7 G S mp
theorem St.mS_at (h:St G F As) {i:Nat} (hi:As[i]? =V (mS enc G0 m S)):∃o mp,F m=V o/\dX enc mp o/\i7 G0 S mp:=by obtain ⟨H,⟨o,mp,r,g,w⟩,_,A⟩:=h.get hi;exact ⟨o,mp,A _ _ r,g,w⟩
theorem St.mS_set (h:St G F As) (i:Nat) (hi:As[i]? =V (mS enc G0 m S)) {o':Obj} (B:dX enc mp' o') (C:i7 G1 S' mp'):St G (F.set m o') (As.set i (mS enc G1 m S')):=by
 obtain ⟨H,⟨o,mp,w,_,_⟩,E,A,D⟩:=h.set (A':=mS enc G1 m S') hi;refine D (H.set m o') _ ⟨o',mp',aq _ _ _,B,C⟩ (λx g=> ?_) (λx p g=> ?_) (λx p g r=> ?_)
 ·by_cases e:x=m
  ·rw [e,w];exact .inl (by simp)
  ·rw [aw _ _ e] at g;exact .inl g
 ·by_cases e:x=m
  ·rw [e,aq] at g ⊢;exact g
  ·rw [aw _ _ e] at g ⊢;exact A _ _ g
 ·have e:x≠m:=λe=>by rw [e,w] at r;cases r
  rw [aw _ _ e];exact g
end
theorem Iw:fS prog 170 be (.agg zD):=⟨_,_,underlying170,Tu,M0⟩
theorem RX:fS prog 211 gA (.agg zD):=⟨_,_,underlying211,Tu,aal⟩
theorem cj {F:PH} {w:Γ} {d:vE} (hd:DV F w d):ν 108 #[nL w,U 0] F λr g=>r=nL w/\F.le g:=by refine qcS ?_;unfold OA;refine fresh λE B A q2 _=> ?_;refine (St.start B).new λG F2 h=>⟨λC=>absurd rfl C,λ_=>⟨w,hd.size,ai (h.le _ _ q2),?_⟩⟩;refine h.put0 (w':=w) hd.size rfl hd.st λD h=>⟨w,hd.size,ai (h.ptAt (i:=0) rfl),rfl,aa A h.le⟩
section
variable {G G0 F:PH} {As:List (Ψ)} {m:Nat} {k:Nat}
theorem lO {S:Int->Tr} (h:St G F (mS be G0 m S::As)) (N:G0.le G) (n:Int):
  ν 116 #[.map (V m),U n] F λr M=>∃B w,r=nL w/\DV B w (pg (S n))/\G.le B/\St B M (mS be G0 m S::As):=by
 refine U3 ?_;unfold OF;refine h.new λb4 W h=> ?_;obtain ⟨o,mp,P,K,H⟩:=h.mS_at (i:=1) rfl;have A:=bM (F:=W) Iw P K n mY;rcases H n with ⟨D,C⟩|⟨w,D,C⟩
 ·rw [D] at A;refine ⟨_,_,A,?_⟩;refine h.new λQ F2 h=> ?_;refine h.put0 (w':=zD) rfl rfl (by simp [ak]) λL h=>⟨λE=>(by cases E),λ_=> ?_⟩;refine (h.call (gB mz)).mono ?_;rintro _ X ⟨B,⟨w,rfl,g,O⟩,h⟩;refine ⟨w,rfl,?_⟩;refine h.put1 (w':=w) g.size rfl g.st λJ h=>⟨w,g.size,ai (h.ptAt (i:=1) rfl),?_⟩;exact ⟨B,w,rfl,by rw [C];exact g,O,h.tail.tail⟩
 ·rw [D] at A;refine ⟨_,_,A,?_⟩;have g:=C.le N;refine h.new λQ F2 h=> ?_;refine h.put0 (w':=w) g.size rfl g.st λL h=>⟨λ_=>⟨w,g.size,ai (h.ptAt (i:=0) rfl),?_⟩,λE=>(by cases E)⟩;refine h.put1 (w':=w) g.size rfl g.st λJ h=>⟨w,g.size,ai (h.ptAt (i:=1) rfl),?_⟩;exact ⟨G,w,rfl,g,au _,h.tail.tail⟩
theorem Bp {a b:Tr} {u w:Γ} (g:k<=6) (B:Sx k a) (A:Sx k b) (E:DV F u (pg a)) (D:DV F w (pg b)):
  ν 113 #[nL u,nL w] F λr h=>∃x,r=pk #[nL x,U 0]/\DV h x (pg (ap2 zS a b))/\F.le h:=by
 refine (Nf E D).mono ?_;rintro r h ⟨⟨x,rfl,C⟩,l⟩;rw [J5 (B.small g) (A.small g) ((B.ap2 (o:=zS) A).small g) (cE B.1 A.1).2] at C ⊢;exact ⟨x,rfl,C,l⟩
theorem pI {a b:Tr} {u w:Γ} (g:k<=6) (B:Sx k a) (A:Sx k b) (E:DV F u (pg a)) (D:DV F w (pg b)):
  ν 109 #[nL u,nL w] F λr h=>∃x,r=pk #[nL x,U 0]/\DV h x (pg (ap2 bW a b))/\F.le h:=by
 refine (J0 E D).mono ?_;rintro r h ⟨⟨x,rfl,C⟩,l⟩;rw [J5 (B.small g) (A.small g) ((B.ap2 (o:=bW) A).small g) (cE B.1 A.1).2] at C ⊢;exact ⟨x,rfl,C,l⟩
theorem i8 {t:Tr} (h:t.ok):(pg t).2=0↔t=qa6 mz:=by
 refine ⟨λg=> ?_,λg=>by rw [g];rfl⟩;have w:num (aU t) t=0:=by have:((num (aU t) t:Nat):Int)=0:=g;omega
 have r:=qK (S:=aU t) (t:=t) (by omega);cases t with
 |qa7 _ _ _=>cases r
 |qa6 b=>
  cases b with
  |false=>rfl
  |true=>cases w
theorem qhN {a:Tr} (g:a.ok):ap2 zS a (qa6 mz)=a:=eq_of_ev (cE g (b:=qa6 mz) trivial).1 g λc=>by rw [(cE g (b:=qa6 mz) trivial).2];exact Yp _
theorem kN {g:Type} [DecidableEq g] {S:g->Tr} (h:Sxs k S) (n:g):dV S n (qa6 mz)=S:=by unfold dV;rw [qhN (h n).1,uD]
theorem pJ {g:Type} [DecidableEq g] {S:g->Tr} {n:g} {d:Tr}:dV S n d=S↔ap2 zS (S n) d=S n:=by
 constructor
 ·intro h;have:=congrFun h n;unfold dV j9 at this;rwa [Χ rfl] at this
 ·intro h;unfold dV;rw [h,uD]
theorem FQ {S:Int->Tr} {b2 b4:Nat} {ch:Bool} {w:Γ} {d:Tr} (h:St G F (mS be G0 m S::pt b4 (Y #[nS ch] 4)::As)) (X:G0.le G) (hk:k<=6) (L:Sxs k S) (hx:Sx k d) (hd:DV G w (pg d))
  (h2:G.cell ⟨b2,0,I⟩=V (.map (V m))) (n:Int):
  ν 187 #[U n,nL w,ph (V ⟨b2,0,I⟩),ph (V ⟨b4,0,I⟩)] F λr N=>∃Q W,r=pk #[]/\(W=mY↔ch=mY\/dV S n d≠S)/\G.le Q/\
   St Q N (mS be Q m (dV S n d)::pt b4 (Y #[nS W] 4)::As):=by
 refine qcL ?_;unfold OI;have up:∀{G1 M N:PH} {S':Int->Tr} {J:List (Ψ)},St M N (mS be G1 m S'::J)->G1.le M->St M N (mS be M m S'::J):=λ{G1 M N S' J} h l=>h.imp 0 rfl λH _ ⟨o,mp,a1,a2,a3⟩=>⟨o,mp,a1,a2,a3.le l⟩;obtain ⟨s,rfl,_⟩:=id hd;refine h.newG λb5 G1 F1 B q5 _ h=>⟨_,ld (h.le _ _ q5) rfl,λh0=> ?_,λh0=> ?_⟩
 ·have e:=(i8 hx.1).1 h0;refine ⟨G1,ch,rfl,?_,B,?_⟩
  ·rw [e,kN L];simp
  ·rw [e,kN L];exact up h (aa X B)
 ·refine ⟨_,rfl,_,aK (aa B h.le) h2,?_⟩;refine (lO h (aa X B) n).mono ?_;rintro _ F2 ⟨M,u,rfl,K,l2,h⟩;refine ⟨u,rfl,?_⟩;refine h.var K.st (λb6 G3 F3 l3 q6 h=> ?_) rfl K.size;have D:=aa l2 l3;refine ⟨u,K.size,ai (h.le _ _ q6),_,rfl,ai (h.le _ _ (D _ _ q5)),?_⟩;refine h.run (P:=λr Q=>∃x,r=pk #[nL x,U 0]/\DV Q x (pg (ap2 zS (S n) d))) ((Bp hk (L n) hx (K.le l3) (hd.le (aa B D))).mono λr N ⟨x,a,b,c⟩=>⟨⟨x,a,b⟩,c⟩) λ_ G4 F4 hr l4 h=> ?_;obtain ⟨x,rfl,g⟩:=hr;refine ⟨_,_,rfl,?_⟩;refine h.runv (cj g) λG5 F5 l5 h=>⟨_,rfl,?_⟩;refine h.var g.st (λb7 G6 F6 l6 q7 h=> ?_) rfl g.size;have E:=aa l4 (aa l5 l6);refine ⟨u,K.size,ai (h.le _ _ (E _ _ q6)),x,g.size,ai (h.le _ _ q7),?_⟩;refine h.runv (nX (K.le (aa l3 E)) (g.le (aa l5 l6)) (EB ((L n).small hk))) λG7 F7 l7 h=>⟨_,rfl,?_⟩;have A:=aa D (aa E l7);have kk:=(L n).ap2 (o:=zS) hx;refine ⟨λC=> ?_,λhe=> ?_⟩
  ·have C:ap2 zS (S n) d≠S n:=λe=>by rw [e,ε rfl] at C;cases C
   refine ⟨_,aK (aa (aa B A) h.le) h2,x,g.size,ai (h.le _ _ (l7 _ _ q7)),?_⟩;obtain ⟨o,mp,m1,m2,m3⟩:=h.mS_at (i:=0) rfl;refine bh Iw m1 m2 n (nL x) λo' a0=> ?_;have O:=g.le (aa l5 (aa l6 l7));have h:=h.mS_set 0 rfl (G1:=G7) (S':=dV S n d) a0 ((m3.le (aa (aa X B) A)).put O);refine ⟨_,rfl,h.set1 (w':= #[nS mY]) (vx rfl) rfl λF8 h=> ?_⟩;exact ⟨G7,mY,rfl,⟨λ_=> .inr λe=>C (pJ.1 e),λ_=>rfl⟩,aa B A,h⟩
  ·have e:ap2 zS (S n) d=S n:=by
    have:decide (pg (S n)=pg (ap2 zS (S n) d))=mY:=by simpa using he
    exact (xT (L n).1 kk.1 (ζ this)).symm
   have e2:=pJ.2 e;refine ⟨G7,ch,rfl,?_,aa B A,?_⟩
   ·rw [e2];simp
   ·rw [e2];exact up h (aa (aa X B) A)
end
theorem un (S:Int->Tr) (s:Sy):∀(r:List Sy) (d:Tr),fj S d (r++[s])=if s.t=mY then fj S d r else ap2 bW (fj S d r) (S s.i)
 |[],d=>rfl
 |x::r,d=>by rw [zK];unfold fj;exact un S s r _
theorem qhu {a:Tr} (g:a.ok):ap2 bW (qa6 mz) a=qa6 mz:=eq_of_ev (cE (a:=qa6 mz) trivial g).1 trivial λc=>by rw [(cE (a:=qa6 mz) trivial g).2];rfl
theorem bo {α:Type} {r:List α} {i:Nat} {x:α} (h:r[i]? =V x):r.take (i+1)=r.take i++[x]:=by rw [Wv,h];rfl
section
variable {G G0 F:PH} {As:List (Ψ)} {m:Nat} {k:Nat}
theorem uo {S:Int->Tr} (h:St G F (mS be G0 m S::As)) (l0:G0.le G) (hk:k<=6) (hS:Sxs k S) {d:Tr} {w:Γ} (hx:Sx k d) (hd:DV G w (pg d)) {sl:Sl} {r:List Sy} (hr:RL G sl r) (hl:r.length<=1000000):
  ν 111 #[nL w,sl.v,.map (V m)] F λres C=>∃g u,res=nL u/\DV g u (pg (fj S d r))/\G.le g/\St g C (mS be G0 m S::As):=by
 have a3:=hr.len;refine U0 ?_;unfold OC;refine h.new λK F1 h=>h.new λM F2 h=> ?_;refine bC (vY · (V m) K M sl _) r.length (λi C=>∃(g:PH) (u:Γ),G.le g/\DV g u (pg (fj S d (r.take i)))/\St g C (pt M (Y zD 33)::pt K (Y u 33)::mS be G0 m S::As)) ⟨G,w,au _,by rw [Am];exact hd,h⟩ ?_;rintro i F3 N hi ⟨G1,u,L,B,h⟩ next;unfold vY;obtain ⟨fx,_⟩:=cM hS (r.take i) hx;refine ⟨λH=> ?_,λa4=> ?_⟩
 ·have H:i<r.length:=by omega
  refine t6 ((hr.le L).le h.le) (by decide) (by omega) (by omega) λa c s hs J W=>⟨c,Mem.len W,J,?_⟩;rw [N4] at hs;obtain rfl:c=s.arr:=W;have et:=bo hs;have A:=un S s (r.take i) d;refine h.var (by simp [ak]) (λb8 G2 F4 E q8 h=>⟨_,ld (h.le _ _ q8) rfl,?_⟩) rfl rfl;have fin:∀{g C:PH} {Q:Γ},G1.le g->DV g Q (pg (fj S d (r.take (i+1))))->St g C (pt M (Y zD 33)::pt K (Y Q 33)::mS be G0 m S::As)->
    pD N (V m) K M sl (i:Int) (λres C=>∃g u,res=nL u/\DV g u (pg (fj S d r))/\G.le g/\St g C (mS be G0 m S::As)) C:=λ{g C Q} l a1 h=>by
   unfold pD;rw [aC H];exact next _ H ⟨g,Q,aa L l,a1,h⟩
  refine ⟨λD=> ?_,λD=> ?_⟩
  ·have D:s.t=mz:=by simpa using D
   rw [D,Υ YK] at A;obtain ⟨su,rfl,_⟩:=id B;refine ⟨_,h.ld1 rfl,?_⟩;unfold pE;refine ⟨λa5=>⟨_,rfl,ai (h.ptAt (i:=1) rfl),_,ld (h.le _ _ q8) rfl,?_⟩,λhe=> ?_⟩
   ·refine (lO h.front2 (aa l0 (aa L E)) s.i).mono ?_;rintro _ F5 ⟨G3,x,rfl,X,l3,h⟩;have h:=h.back2;have a2:=B.le (aa E l3);refine ⟨x,rfl,ai (h.ptAt (i:=1) rfl),?_⟩;refine h.run (P:=λr' g=>∃y,r'=pk #[nL y,U 0]/\DV g y (pg (ap2 bW (fj S d (r.take i)) (S s.i)))) ((pI hk fx (hS s.i) a2 X).mono λr C ⟨x,a,b,c⟩=>⟨⟨x,a,b⟩,c⟩) λ_ G4 F6 a0 l4 h=> ?_;obtain ⟨y,rfl,O⟩:=a0;refine ⟨_,_,rfl,?_⟩;refine h.runv (cj O) λG5 F7 l5 h=>⟨_,rfl,?_⟩;refine h.put1 (w':=y) O.size rfl O.st λF8 h=> ?_;refine fin (aa E (aa l3 (aa l4 l5))) ?_ h;rw [et,A];exact O.le l5
   ·have e:fj S d (r.take i)=qa6 mz:=(i8 fx.1).1 (by simpa using he);refine fin E ?_ h;rw [et,A,e,qhu (hS _).1,<- e];exact B.le E
  ·have D:s.t=mY:=by simpa using D
   rw [D,Χ rfl] at A;unfold pE;refine ⟨λW=>(by cases W),λ_=>fin E ?_ h⟩;rw [et,A];exact B.le E
 ·have e:i=r.length:=by omega
  subst e;rw [wy] at B;unfold Dn;refine ⟨u,B.size,ai (h.ptAt (i:=1) rfl),?_⟩;refine h.put0 (w':=u) B.size rfl B.st λF5 h=>⟨u,B.size,ai (h.ptAt (i:=0) rfl),?_⟩;exact ⟨G1,u,rfl,B,L,h.tail.tail⟩
end
set_option maxRecDepth 100000
theorem Mp (p:Addr) (w:World):CallsD prog 107 #[ph (V p)] .returning w λe r w'=>(∃v,e=.returned v)/\r=.returning/\w'=w:=by refine callsD_of_wpS func107 rfl λg A h=> ?_;apply wpS_seq;apply wpS_region;simp [wpOpsS,go_sem,recoverD,h,ntmps107,Exit.thenS];apply wpS_seq;apply wpS_region;simp [wpOpsS,go_sem,Exit.thenS];refine wpS_cond (t:=mz) (by simp [Act.eval,Array.replicate]) ?_;simp only [VN,if_false];refine wpS_of_wp (wp_skip ?_);cases g;simp_all [bodyPostS,results,results107]
theorem Mq (p:Addr):Cz prog ⟨.fn (.func 107) #[ph (V p)],#[]++[].toArray⟩:=
 ⟨_,_,107,#[ph (V p)],rfl,λw=>⟨by simp [go_sem],Mp p w⟩⟩
structure OkK (g:Gr) (k:Nat):Prop where
 ok:OkG g
 len:g.qa4.length=k
 le:k<=6
theorem Bq {d:vE} {n:Nat} (h:iz d n):Sx n (uc d)/\d=pg (uc d):=by obtain ⟨t,w,A,g,_,r⟩:=uE h;rw [g];exact ⟨⟨w,r⟩,A⟩
theorem rp {n:Nat}:∀(l:List Tk) (g:List ο),fO n g l->∀t∈l,∃d,Jn n d t
 |[],_,_,_,h=>by cases h
 |t::l,g,⟨h1,h2⟩,x,r=>by
  rcases tD.1 r with rfl|r
  ·exact ⟨_,h1⟩
  ·exact rp l _ h2 x r
theorem ie {g:Gr}:∀(l:List Pr) (r:List ο),eD g r l=0->∀p∈l,jh g p/\∃d,MU g d p
 |[],_,_,_,h=>by cases h
 |p::l,r,h,x,A=>by
  unfold eD at h;by_cases B:jh g p
  ·rw [Υ (μ B)] at h;by_cases w:MU g r p
   ·rw [Υ (μ w)] at h;rcases tD.1 A with rfl|A
    ·exact ⟨B,_,w⟩
    ·exact ie l _ h x A
   ·rw [Χ w] at h;cases h
  ·rw [Χ B] at h;cases h
section
variable {g:Gr} {k:Nat}
theorem OkK.fam (h:OkK g k):Sx k (uc g.fam)/\g.fam=pg (uc g.fam):=by have:=Bq h.ok.fam.2.2.1;rwa [h.len] at this
theorem OkK.fam0 (h:OkK g k):uc g.fam≠qa6 mz:=λe=>by have r:=h.ok.fam.2.2.2;rw [h.fam.2,e] at r;exact r rfl
theorem OkK.tok (h:OkK g k) {t:Tk} (w:t∈g.qa2):Sx k (uc t.cond)/\t.cond=pg (uc t.cond):=by obtain ⟨d,_,_,_,_,r,_⟩:=rp _ _ h.ok.qa2 t w;have:=Bq r;rwa [h.len] at this
theorem OkK.prod (h:OkK g k) {x:Pr} (A:x∈g.qa0):Sx k (uc x.cond)/\x.cond=pg (uc x.cond)/\jh g x:=by obtain ⟨w,d,_,_,r,_⟩:=ie _ _ h.ok.qa0 x A;have:=Bq r;rw [h.len] at this;exact ⟨this.1,this.2,w⟩
def eG (g:Gr) (i:Int):Tr:=match g.qa2[i.toNat]? with
 |some t=>uc t.cond
 |none=>qa6 mz
theorem OkK.tkd (h:OkK g k) (i:Int):Sx k (eG g i):=by
 unfold eG;split
 ·rename_i t r;exact (h.tok (vQ r)).1
 ·exact Sx.qa6 k mz
def kO (g:Gr):Tr->List Sy->Tr
 |d,[]=>d
 |d,s::r=>kO g (if s.t=mY then ap2 bW d (eG g s.i) else d) r
theorem uq (s:Sy):∀(r:List Sy) (d:Tr),kO g d (r++[s])=if s.t=mY then ap2 bW (kO g d r) (eG g s.i) else kO g d r
 |[],d=>rfl
 |x::r,d=>by rw [zK];unfold kO;exact uq s r _
theorem fJ (h:OkK g k):∀(r:List Sy) {d:Tr},Sx k d->Sx k (kO g d r)/\∀c,(kO g d r).ev c=(d.ev c && r.all λs=> !s.t || (eG g s.i).ev c)
 |[],d,hd=>⟨hd,λc=>by simp [kO]⟩
 |s::r,d,hd=>by
  unfold kO;by_cases w:s.t=mY
  ·rw [Χ w];obtain ⟨A,B⟩:=fJ h r (hd.ap2 (o:=bW) (h.tkd s.i));refine ⟨A,λc=> ?_⟩;rw [B,Xv,(cE hd.1 (h.tkd s.i).1).2,w,Bool.and_assoc];rfl
  ·rw [Υ w];obtain ⟨A,B⟩:=fJ h r hd;exact ⟨A,λc=>by rw [B,Xv,XU.2 w];simp⟩
def bI (g:Gr) (i:Nat):Tr:=match g.qa0[i]? with
 |some x=>kO g (ap2 bW (uc g.fam) (uc x.cond)) x.right
 |none=>qa6 mz
theorem OkK.prs (h:OkK g k) (i:Nat):Sx k (bI g i):=by
 unfold bI;split
 ·rename_i x r;exact (fJ h _ (h.fam.1.ap2 (o:=bW) (h.prod (vQ r)).1)).1
 ·exact Sx.qa6 k mz
theorem OkK.prs_ev (h:OkK g k) {i:Nat} {x:Pr} (w:g.qa0[i]? =V x) (c:Cf):(bI g i).ev c=((uc g.fam).ev c && (uc x.cond).ev c && x.right.all λs=> !s.t || (eG g s.i).ev c):=by unfold bI;rw [w];have r:=(h.prod (vQ w)).1;dsimp only;rw [(fJ h _ (h.fam.1.ap2 (o:=bW) r)).2,(cE h.fam.1.1 r.1).2]
end
instance:Mem vE where
 n:=2
 rep F d c:=DV F c d
 len h:=h.size
 le hl h:=h.le hl
 st h:=h.st
theorem qgp:∃b z,SlT 205 33 2 b z:=⟨_,_,underlying205,aaI,Tu,rfl,by decide,by decide⟩
abbrev Y1 (g:Gr) (c n t s p l f q:Sl):Γ:= #[c.v,n.v,U g.fam.2,t.v,s.v,p.v,U g.start,l.v,f.v,q.v]
def tV (g:Gr) (n:Nat):List vE:=(List.range n).map λi=>pg (bI g i)
theorem FR (g:Gr) (n:Nat):tV g (n+1)=tV g n++[pg (bI g n)]:=by unfold tV;rw [YM,yT];rfl
theorem rq (g:Gr) (n:Nat):(tV g n).length=n:=by unfold tV;rw [ub,V4]
structure AnV (F:PH) (b:Nat) (g:Gr):Prop where
 ex:∃c n t s p l f q,F b=V (Y (Y1 g c n t s p l f q) 207)/\GS F g c n t s p l f/\RL F q (tV g g.qa0.length)
theorem AnV.le {F G:PH} {b:Nat} {g:Gr} (h:AnV F b g) (l:F.le G):AnV G b g:=by obtain ⟨c,n,t,s,p,lv,f,q,w,A,r⟩:=h;exact ⟨c,n,t,s,p,lv,f,q,l _ _ w,A.le l,r.le l⟩
theorem Iy (x:Addr) (i j:Nat):nR (nR x i) j=nR x (i+j):=by obtain ⟨a,o,p⟩:=x;by_cases hi:i=0<;>by_cases g:j=0<;>simp [nR,hi,g,V8]
section
variable {G F:PH} {As:List (Ψ)} {g:Gr} {k:Nat}
theorem qcM (hk:OkK g k) {N1:Ω} {rv:ξ} {b2 b4 E O i:Nat} {p r:Sl} {R:VR} {c n t s p' l f:Sl} {x:Pr} (hx:g.qa0[i]? =V x) (q2:G b2=V (Y (g.arr c n t s p' l f) 39)) (ht:RL G t g.qa2) (hr:RL G r x.right) (hl:x.right.length<=1000000)
  {w:Γ} {d:Tr} (hd:Sx k d) (hw:DV G w (pg d)) (h:St G F (pt O (Y w 33)::As))
  (fin:∀B H w',G.le B->DV B w' (pg (kO g d x.right))->St B H (pt O (Y w' 33)::As)->Bk N1 rv b2 b4 E O p (i:Int) R H):
  ∃(I2:Nat->Ω) (m2:Nat),I2 m2 (0:Int) F/\∀m2 M F,I2 m2 M F->vS N1 (λa4 F=>∃m',m'<m2/\I2 m' a4 F) rv b2 b4 E O p (i:Int) r R M F:=by
 have b1:=hr.len;have a9:=(hk.prod (vQ hx)).2.2.2;refine bC (vS N1 · rv b2 b4 E O p (i:Int) r R) x.right.length (λj H=>∃(B:PH) (u:Γ),G.le B/\DV B u (pg (kO g d (x.right.take j)))/\St B H (pt O (Y u 33)::As)) ⟨G,w,au _,by rw [Am];exact hw,h⟩ ?_;rintro j F3 N hj ⟨G1,u,W,hu,h⟩ next;obtain ⟨fx,_⟩:=fJ hk (x.right.take j) hd;unfold vS;refine ⟨λX=> ?_,λb3=> ?_⟩
 ·have X:j<x.right.length:=by omega
  refine t6 ((hr.le W).le h.le) (by decide) (by omega) (by omega) λa cc C hs a3 hc=>⟨cc,Mem.len hc,a3,?_⟩;rw [N4] at hs;obtain rfl:cc=C.arr:=hc;have et:=bo hs;have D:=uq (g:=g) C (x.right.take j) d;obtain ⟨s0,_,s2⟩:=a9 C (vQ hs);refine h.var (by simp [ak]) (λb5 G2 F4 L K h=>⟨_,ld (h.le _ _ K) rfl,?_⟩) rfl rfl;have Q:∀{B H:PH} {u':Γ},G1.le B->DV B u' (pg (kO g d (x.right.take (j+1))))->St B H (pt O (Y u' 33)::As)->
    vR N1 N rv b2 b4 E O p (i:Int) r (j:Int) R H:=λ{B H u'} l a8 h=>by
   unfold vR;rw [aC X];exact next _ X ⟨B,u',aa W l,a8,h⟩
  refine ⟨λA=> ?_,λA=> ?_⟩
  ·have A:C.t=mY:=A;rw [Χ A] at D;obtain ⟨tk,J,_⟩:=s2 A;have ed:eG g C.i=uc tk.cond:=by unfold eG;rw [J]
   obtain ⟨tx,td⟩:=hk.tok (vQ J);have a1:=ht.le (aa W L);have b8:=a1.len;have b7:C.i.toNat<g.qa2.length:=(N6.1 J).1;refine ⟨u,hu.size,ai (h.ptAt (i:=0) rfl),_,ld (h.le _ _ (L _ _ (W _ _ q2))) rfl,_,ld (h.le _ _ K) rfl,?_⟩;refine h.ix a1 (by decide) s0 (by omega) λa2 c2 y hy a0 a5=> ?_;rw [J] at hy;obtain rfl:=yC hy;obtain ⟨pp,nn,rfl,_,a7⟩:=a5;have b0:DV G2 #[nn.v,U tk.cond.2] (pg (eG g C.i)):=by rw [ed,<- td];exact DV.mk a7
   refine ⟨#[nn.v,U tk.cond.2],rfl,λq hq=> ?_,?_⟩
   ·have b6:q<2:=hq;have:=a0 (5+q) (by show 5+q<7;omega);rw [Iy];refine this.trans ?_;rcases (show q=0\/q=1 by omega) with rfl|rfl<;>rfl
   ·refine h.run (P:=λr' B=>∃y,r'=pk #[nL y,U 0]/\DV B y (pg (ap2 bW (kO g d (x.right.take j)) (eG g C.i)))) ((pI hk.le fx (hk.tkd C.i) (hu.le L) b0).mono λr H ⟨x,a,b,c⟩=>⟨⟨x,a,b⟩,c⟩) λ_ G4 F6 a6 l4 h=> ?_;obtain ⟨y,rfl,hy⟩:=a6;refine ⟨_,_,rfl,ld (h.le _ _ (l4 _ _ K)) rfl,ld (h.le _ _ (l4 _ _ (L _ _ (W _ _ q2)))) rfl,?_⟩;refine h.runv (cj hy) λG5 F7 l5 h=>⟨_,rfl,?_⟩;refine ⟨ld (h.le _ _ (l5 _ _ (l4 _ _ K))) rfl,ld (h.le _ _ (l5 _ _ (l4 _ _ (L _ _ (W _ _ q2))))) rfl,?_⟩;refine h.put0 (w':=y) hy.size hu.size hy.st λF8 h=> ?_;refine Q (aa L (aa l4 l5)) ?_ h;rw [et,D];exact hy.le l5
  ·have A:C.t≠mY:=λe=>by rw [show C.t=mY from e] at A;cases A
   rw [Υ A] at D;refine Q L ?_ h;rw [et,D];exact hu.le L
 ·have e:j=x.right.length:=by omega
  subst e;rw [wy] at hu;exact fin G1 _ u W hu h
end
section
variable {G F:PH} {As:List (Ψ)} {Bs:PH->List (Ψ)} {g:Gr} {k:Nat}
theorem St.rot {A:Ψ} (h:St G F (A::As)):St G F (As++[A]):=by
 refine h.pick (λi=>if i=As.length then 0 else i+1) (λi j _ _ e=> ?_) (λi hi=> ?_)
 ·split at e<;>split at e<;>omega
 ·rw [tT,Uc] at hi;split
  ·rename_i e;rw [e,UR (qX _),XL];rfl
  ·rw [zR (by omega)];rfl
theorem St.unrot {A:Ψ} (h:St G F (As++[A])):St G F (A::As):=by
 refine h.pick (λi=>if i=0 then As.length else i - 1) (λi j hi r e=> ?_) (λi hi=> ?_)
 ·rw [wc] at hi r;split at e<;>split at e<;>omega
 ·rw [wc] at hi;split
  ·rename_i e;rw [e,UR (qX _),XL];rfl
  ·rename_i e;obtain ⟨j,rfl⟩:∃j,i=j+1:=⟨i - 1,by omega⟩;rw [Nat.add_sub_cancel,zR (by omega)];rfl
theorem qh0 {v:Γ} (hT:Tab G) (hg:GV G v g) (hz:Sz g) (O:OkK g k) (hl:∀x∈g.qa0,x.right.length<=1000000) (hp:g.qa0.length<=1000000) (h:St G F As) {kr:Nat} {fst cap:Γ} (cb:aF prog kr=mY)
  (run:∀w b K,G.le w->AnV w b g->St w K As->aj prog kr (fst++ #[ph (V ⟨b,0,I⟩)]++cap) K λr a5=>∃J,r=pk #[]/\w.le J/\St J a5 (Bs J)):
  ν 78 #[nL v,.func (.func kr) fst cap] F λr K=>r=U 0/\∃w,G.le w/\St w K (Bs w):=by
 obtain ⟨_,_,T⟩:=qgp;have hc:=w8.2 O.ok;refine qgm ?_;unfold UV;refine h.newG λb2 G1 F1 l1 q2 _ h=>h.new λb4 F2 h=>⟨v,hg.size,ai (h.le _ _ q2),?_⟩;refine h.run (oL (hT.le l1) (hg.le l1) hz) λ_ G3 F3 hr l3 h=> ?_;rw [hr,hc];refine ⟨_,rfl,λhn=>absurd rfl hn,λ_=>⟨Mq _,v,hg.size,ai (h.le _ _ (l3 _ _ q2)),hg.size,?_⟩⟩;have L:=aa l1 l3;obtain ⟨c,n,t,s,p,lv,f,rfl,hs⟩:=hg.le L;have q2:=l3 _ _ q2;refine h.new λE F4 h=> ?_;rw [show wr (#[tS I 0 0,.slice I 0 0,U 0,.slice I 0 0,.slice I 0 0,.slice I 0 0,U 0,.slice I 0 0,.slice I 0 0,.slice I 0 0]:Γ) 0 (g.arr c n t s p lv f).toList=Y1 g c n t s p lv f pi by kernel_rfl] at h;refine ⟨_,ld (h.le _ _ q2) rfl,?_⟩;have h:=h.nilOwn 33 2;have ep:=hs.p.len
 refine bC (Bl · (.func (.func kr) fst cap) b2 b4 E p _) g.qa0.length (λi K=>∃(w:PH) (sl:Sl) (vs:List Γ),G3.le w/\bS w (tV g i) vs/\
  St w K (own sl 33 2 (tZ vs)::pt E (Y (Y1 g c n t s p lv f sl) 207)::pt b4 (Y #[U 0] 49)::As)) ⟨G3,pi,[],au _,.nil,h⟩ ?_
 rintro i F5 N hi ⟨G4,sl,vs,l4,hv,h⟩ next;have X:=hs.le l4;unfold Bl;refine ⟨λM=> ?_,λb5=> ?_⟩
 ·have M:i<g.qa0.length:=by omega
  refine h.ix X.p (by decide) (by omega) (by omega) λa c8 x hx W C=>⟨c8,Mem.len C,W,?_⟩;rw [N4] at hx;have a2:=vQ hx;obtain ⟨a0,a8,_⟩:=O.prod a2;refine h.var (Mem.st C) (λb8 G5 F6 D q8 h=> ?_) rfl (Mem.len C);obtain ⟨r8,n8,l8,rfl,b0,a9,_⟩:=C;have a4:=X.le D;have a3:=D _ _ (l4 _ _ q2);have d1:DV G5 #[n.v,U g.fam.2] (pg (uc g.fam)):=by rw [<- O.fam.2];exact DV.mk a4.n
  have d2:DV G5 #[n8.v,U x.cond.2] (pg (uc x.cond)):=by rw [<- a8];exact DV.mk (a9.le D)
  refine ⟨#[n.v,U g.fam.2],rfl,fX (h.le _ _ a3) rfl,#[n8.v,U x.cond.2],rfl,fX (h.le _ _ q8) rfl,?_⟩;refine h.run (P:=λr' w=>∃y,r'=pk #[nL y,U 0]/\DV w y (pg (ap2 bW (uc g.fam) (uc x.cond)))) ((pI O.le O.fam.1 a0 d1 d2).mono λr K ⟨x,a,b,c⟩=>⟨⟨x,a,b⟩,c⟩) λ_ G6 F7 b1 l6 h=> ?_;obtain ⟨y,rfl,hy⟩:=b1;refine ⟨_,_,rfl,?_⟩;refine h.runv (cj hy) λG7 F8 l7 h=>⟨_,rfl,?_⟩;have A:=aa l6 l7;refine h.new λb9 F9 h=> ?_;refine h.put0 (w':=y) hy.size rfl hy.st λc2 h=>⟨_,ld (h.le _ _ (A _ _ q8)) rfl,?_⟩;refine qcM O hx (A _ _ a3) (a4.le A).t (b0.le (aa D A)) (hl x a2) (O.fam.1.ap2 (o:=bW) a0) (hy.le l7) h λG8 c3 w' a6 hw h=> ?_;unfold Bk;refine ⟨_,h.ld2 rfl,w',hw.size,ai (h.ptAt (i:=0) rfl),hw.size,?_⟩;have a1:=aa A a6;have Q:=hv.le (aa D a1);have b6:sl.len=i:=by have:=RL.len ⟨vs,Q.le h.le,bP.rd (h.ownAt (i:=1) rfl).1⟩ (by decide);rw [rq] at this;exact this
  refine h.push1 T hw.size hw.st (by omega) λs' G9 b7 l9 h c5=> ?_;refine h.set2 (w':=Y1 g c n t s p lv f s') (vx rfl) rfl λc4 h=> ?_;unfold Io;rw [aC M];refine next _ M ⟨G9,s',vs++[w'],aa l4 (aa D (aa a1 l9)),?_,?_⟩
  ·rw [FR];have e:bI g i=kO g (ap2 bW (uc g.fam) (uc x.cond)) x.right:=by unfold bI;rw [hx]
   rw [e];exact (Q.append (.cons hw .nil)).le l9
  ·rw [ba,cI];exact h.tail
 ·have e:i=g.qa0.length:=by omega
  subst e;unfold In;obtain ⟨G5,D,hd,h⟩:=h.pinO;obtain ⟨G6,l6,⟨H,hA,hH⟩,h⟩:=h.pin;have b3:=hH _ _ hA;have B:=aa l4 (aa D l6);have a7:AnV G6 E g:=⟨c,n,t,s,p,lv,f,sl,b3,hs.le B,⟨vs,hv.le (aa D l6),hd.le l6⟩⟩;refine ⟨kr,fst,cap,rfl,cb,?_⟩;refine (h.rot.callL (Bs':=λ_ w=>Bs w) (P:=λr _=>r=pk #[]) λF1 h1=>run G6 E F1 (aa L B) a7 h1).mono ?_;rintro r F7 ⟨G7,rfl,l7,h⟩;refine ⟨rfl,?_⟩;have h:=h.unrot;refine h.set0 (w':= #[U 0]) (vx rfl) rfl λF8 h=>⟨_,h.ld0 rfl,rfl,G7,aa L (aa B l7),h.tail⟩
end
theorem RY:aF prog 187=mY:=by kernel_rfl
section
variable {G G0 F:PH} {m k:Nat} {σ:Type}
structure U8 (G:PH) (k m:Nat) (kr:Nat) (fst cap:Γ) (keys:Φ) (Inv:(Int->Tr)->Prop) (rnd:(Int->Tr)->Int->Tr) (aux:(Int->Tr)->σ) (As:PH->σ->List (Ψ)):Prop where
 cb:aF prog kr=mY
 sx:∀S,Sxs k S->Inv S->Sxs k (rnd S)/\Inv (rnd S)/\Lt' S (rnd S)/\∀n,rnd S n≠S n->n∈keys
 run:∀G' F' S x b2 b4,G.le G'->Sxs k S->Inv S->G'.cell ⟨b2,0,I⟩=V (.map (V m))->St G' F' (mS be G' m S::pt b4 (Y #[nS mz] 4)::As G' x)->
  aj prog kr (fst++ #[.func (.func 187) #[] #[ph (V ⟨b2,0,I⟩),ph (V ⟨b4,0,I⟩)]]++cap) F' λr F''=>∃G'' ch,r=pk #[]/\G'.le G''/\(ch=mY↔rnd S≠S)/\
   St G'' F'' (mS be G'' m (rnd S)::pt b4 (Y #[nS ch] 4)::As G'' (aux S))
theorem FS {kr:Nat} {fst cap:Γ} {keys:Φ} {Inv:(Int->Tr)->Prop} {g:(Int->Tr)->Int->Tr} {E:(Int->Tr)->σ} {As:PH->σ->List (Ψ)} (X:U8 G k m kr fst cap keys Inv g E As)
  (up:∀w A K x S,w.le A->St A K (mS be w m S::As w x)->St A K (mS be A m S::As A x)) {S:Int->Tr} {x:σ} (hS:Sxs k S) (hI:Inv S) (h:St G F (mS be G m S::As G x)):
  ν 150 #[.map (V m),.func (.func kr) fst cap] F λr K=>∃w S',r=pk #[]/\G.le w/\Sxs k S'/\Inv S'/\g S'=S'/\St w K (mS be w m S'::As w (E S')):=by
 refine U4 ?_;unfold OG;refine h.newG λb2 G1 F1 W q2 _ h=> ?_;have h:=up G G1 F1 x S W h;refine h.new λb4 F2 h=> ?_;refine h.set0 (w':= #[nS mY]) (vx rfl) rfl λF3 h=> ?_
 refine ⟨λq p K=>∃(b:Nat) (w:PH) (S':Int->Tr) (y:σ) (M:Bool),p=V (ou b 0 I)/\q=mu k keys S'+(if M=mY then 1 else 0)/\G1.le w/\Sxs k S'/\Inv S'/\(M=mz->g S'=S'/\y=E S')/\
  St w K (pt b (Y #[nS M] 4)::mS be w m S'::As w y),mu k keys S+1,⟨b4,G1,S,x,mY,rfl,rfl,au _,hS,hI,λN=>(by cases N),h⟩,?_⟩
 rintro q p F4 ⟨b,G2,C,y,M,rfl,rfl,O,D,J,Q,h⟩;unfold Do;refine ⟨_,rfl,M,h.ld0 rfl,λht=> ?_,λP=> ?_⟩
 ·subst ht;refine h.set0 (w':= #[nS mz]) (vx rfl) rfl λF5 h=>⟨kr,fst,cap,rfl,X.cb,?_⟩;obtain ⟨s1,s2,s3,s4⟩:=X.sx C D J;refine (X.run G2 F5 C y b2 b (aa W O) D J (ld (O _ _ q2) rfl) h.swap).mono ?_;rintro _ F6 ⟨G3,B,rfl,l3,L,h⟩;refine ⟨rfl,B,h.ld1 rfl,?_⟩;have h:=h.swap;refine h.new λb5 F7 h=> ?_;refine h.set0 (w':= #[nS B]) (vx rfl) rfl λF8 h=> ?_;refine ⟨mu k keys (g C)+(if B=mY then 1 else 0),?_,b5,G3,g C,E C,B,rfl,rfl,aa O l3,s1,s2,λP=> ?_,h.swap.tail.swap.swap⟩
  ·obtain ⟨m1,m2⟩:=Jk D s1 s3 keys;rw [Χ rfl];by_cases N:B=mY
   ·rw [Χ N];have H:=L.1 N;obtain ⟨n,hn⟩:∃n,g C n≠C n:=Classical.not_forall.1 λha=>H (funext ha);have:=m2 n (s4 n hn) (Ne.symm hn);omega
   ·rw [Υ N];omega
  ·have e:g C=C:=Classical.not_not.1 λH=>by rw [L.2 H] at P;cases P
   exact ⟨by rw [e,e],by rw [e]⟩
 ·subst P;obtain ⟨e1,e2⟩:=Q rfl;exact ⟨G2,C,rfl,aa W O,D,J,e1,by rw [<- e2];exact h.tail⟩
end
abbrev FT (b2 b4:Nat):Value:=.func (.func 187) #[] #[ph (V ⟨b2,0,I⟩),ph (V ⟨b4,0,I⟩)]
theorem Mr {D:Type} {k:Nat} {S T g:D->Tr} (E:Sxs k S) (C:Sxs k T) (B:Sxs k g) (A:Lt' S T) (w:Lt' T g):(T≠S\/g≠T)↔g≠S:=by
 constructor
 ·rintro h rfl;have e:T=g:=Lt'.antisymm C B w A;rcases h with h|h
  ·exact h e
  ·exact h e.symm
 ·intro h;by_cases e:T=S
  ·exact .inr λr=>h (r.trans e)
  ·exact .inl e
theorem ur {st:Bool} {x:Pr}:gg st x=mY↔st=mY/\∃s∈x.right,s.t=mY:=by unfold gg;rw [Xk,XI]
section
variable {G F:PH} {As:List (Ψ)} {g:Gr} {k m:Nat} {st:Bool}
structure DrE (G:PH) (g:Gr) (st:Bool) (m ban b1 b3 b5 b2:Nat):Prop where
 q1:G b1=V (Y #[ph (V ⟨ban,0,I⟩)] 169)
 q3:G b3=V (Y #[nS st] 4)
 q5:G b5=V (Y #[.map (V m)] 170)
 q2:G.cell ⟨b2,0,I⟩=V (.map (V m))
 an:AnV G ban g
theorem DrE.le {G w:PH} {r B A D C:Nat} (h:DrE G g st m r B A D C) (l:G.le w):DrE w g st m r B A D C:=⟨l _ _ h.q1,l _ _ h.q3,l _ _ h.q5,aK l h.q2,h.an.le l⟩
theorem Ms {e3 b1 b3 b5 b2 X:Nat} (hk:OkK g k) (hl:∀x∈g.qa0,x.right.length<=1000000) (hp:g.qa0.length<=1000000) (E:DrE G g st m e3 b1 b3 b5 b2) {S:Int->Tr} (hS:Sxs k S)
  (h:St G F (mS be G m S::pt X (Y #[nS mz] 4)::As)):
  ν 151 #[FT b2 X,.pointer (V ⟨b1,0,I⟩),ph (V ⟨b3,0,I⟩),ph (V ⟨b5,0,I⟩)] F λr a7=>∃w D,r=pk #[]/\G.le w/\(D=mY↔iV st (bI g) 0 g.qa0 S≠S)/\
   St w a7 (mS be w m (iV st (bI g) 0 g.qa0 S)::pt X (Y #[nS D] 4)::As):=by
 obtain ⟨c,n,t,s,p,lv,f,q,qa,hs,hq⟩:=E.an.ex;have ep:=hs.p.len;have eq:=hq.len;rw [rq] at eq;refine qcK ?_;unfold OH;refine ⟨_,rfl,_,ld (h.le _ _ E.q1) rfl,_,rfl,_,by rw [aI];exact ld (h.le _ _ qa) rfl,?_⟩
 refine bC (wb · (FT b2 X) (ou b1 0 I) _ _ p _) g.qa0.length (λi Q=>∃(B:PH) (S':Int->Tr) (D:Bool),G.le B/\Sxs k S'/\Lt' S S'/\iV st (bI g) 0 g.qa0 S=iV st (bI g) i (g.qa0.drop i) S'/\(D=mY↔S'≠S)/\
  St B Q (mS be B m S'::pt X (Y #[nS D] 4)::As)) ⟨G,S,mz,au _,hS,Lt'.refl S,by rw [Vf],by simp,h⟩ ?_
 rintro i F1 N hi ⟨G1,S1,D,l1,L,e1,O,d2,h⟩ next;have E1:=E.le l1;have up:∀{G1 G2 Q:PH} {S':Int->Tr} {d0:List (Ψ)},St G2 Q (mS be G1 m S'::d0)->G1.le G2->St G2 Q (mS be G2 m S'::d0):=λ{G1 G2 Q S' d0} h l=>h.imp 0 rfl λH _ ⟨o,mp,a1,a2,a3⟩=>⟨o,mp,a1,a2,a3.le l⟩;unfold wb;refine ⟨λa5=> ?_,λe5=> ?_⟩
 ·have a5:i<g.qa0.length:=by omega
  have e2:=hs.le l1;refine h.ix e2.p (by decide) (by omega) (by omega) λa c6 x hx d1 a0=>⟨c6,Mem.len a0,d1,?_⟩;rw [N4] at hx;have c3:=vQ hx;have b9:g.qa0.drop i=x::g.qa0.drop (i+1):=fG hx;obtain ⟨a1,a2⟩:=gh (st:=st) L (hk.prs i) x;refine h.var (Mem.st a0) (λb6 G2 F2 l2 q6 h=> ?_) rfl (Mem.len a0);obtain ⟨r,n6,l6,rfl,hr,e7,_⟩:=a0;have er:=(hr.le l2).len;refine ⟨_,ld (h.le _ _ q6) rfl,?_⟩;have a6:∀{B Q:PH} {P:Bool} {S':Int->Tr},G2.le B->S'=(if gg st x=mY then S1 else dV S1 x.left (fj S1 (bI g i) x.right))->(P=mY↔D=mY\/S'≠S1)->St B Q (mS be B m S'::pt X (Y #[nS P] 4)::As)->
    pG N (FT b2 X) (ou b1 0 I) (V (ou b3 0 I)) (V (ou b5 0 I)) p (i:Int) (λr a7=>∃w D,r=pk #[]/\G.le w/\(D=mY↔iV st (bI g) 0 g.qa0 S≠S)/\
   St w a7 (mS be w m (iV st (bI g) 0 g.qa0 S)::pt X (Y #[nS D] 4)::As)) Q:=λ{B Q P S'} l e J h=>by
   unfold pG;rw [aC a5];subst e;refine next _ a5 ⟨B,_,P,aa l1 (aa l2 l),a1,e1.trans a2,?_,?_,h⟩
   ·rw [O,b9];rfl
   ·rw [J,d2];exact Mr hS L a1 e1 a2
  refine bC (wa N · (FT b2 X) (ou b1 0 I) (V (ou b3 0 I)) (V (ou b5 0 I)) (i:Int) b6 p r _) x.right.length (λj Q=>∃B:PH,G2.le B/\(st=mY->∀(j':Nat) (y:Sy),j'<j->x.right[j']? =V y->y.t=mz)/\
   St B Q (mS be B m S1::pt X (Y #[nS D] 4)::As)) ⟨G2,au _,λ_ j' y hj=>by omega,up h l2⟩ ?_
  rintro j F3 N2 hj ⟨G3,l3,e0,h⟩ K;unfold wa;have E3:=E1.le (aa l2 l3);refine ⟨λW=> ?_,λe6=> ?_⟩
  ·have W:j<x.right.length:=by omega
   refine h.ix (hr.le (aa l2 l3)) (by decide) (by omega) (by omega) λa8 c8 y hy b0 d3=>⟨c8,Mem.len d3,b0,?_⟩;rw [N4] at hy;obtain rfl:c8=y.arr:=d3;refine h.var (by simp [ak]) (λb8 G4 F4 l4 q8 h=>⟨_,ld (h.le _ _ q8) rfl,λA=> ?_,λA=> ?_⟩) rfl rfl
   ·have A:y.t=mY:=A;refine ⟨_,rfl,_,ld (h.le _ _ (l4 _ _ E3.q3)) rfl,λM=> ?_,λM=> ?_⟩
    ·refine a6 (aa l3 l4) (S':=S1) ?_ (by simp) (up h l4);rw [Χ (ur.2 ⟨M,y,vQ hy,A⟩)]
    ·unfold pH;rw [aC W (by have:=hl x c3;omega)];exact K _ W ⟨G4,aa l3 l4,λh=>(by rw [show st=mz from M] at h;cases h),up h l4⟩
   ·unfold pH;rw [aC W (by have:=hl x c3;omega)];refine K _ W ⟨G4,aa l3 l4,λM j' z c7 hz=> ?_,up h l4⟩;by_cases e:j'=j
    ·subst e;rw [hy] at hz;cases hz;exact A
    ·exact e0 M j' z (by omega) hz
  ·have hj:j=x.right.length:=by omega
   subst hj;have c2:¬gg st x=mY:=λe4=>by obtain ⟨h1,y,hy,A⟩:=ur.1 e4;obtain ⟨j',c7⟩:=List.getElem?_of_mem hy;have:=e0 h1 j' y (N6.1 c7).1 c7;rw [A] at this;cases this
   unfold Dp;have d4:=aa l1 (aa l2 l3);have c5:=d4 _ _ qa;have b7:=l3 _ _ q6;refine ⟨_,ld (h.le _ _ b7) rfl,_,ld (h.le _ _ E3.q1) rfl,_,rfl,_,by rw [aI];exact ld (h.le _ _ c5) rfl,?_⟩;refine h.ix (hq.le d4) (by decide) (by omega) (by omega) λa9 c9 dd C c4 a4=>⟨c9,Mem.len a4,c4,?_⟩;rw [N4] at C;have C:dd=pg (bI g i):=by unfold tV at C;rw [yc,Xz a5] at C;exact (yC C).symm
   have a4:DV G3 c9 (pg (bI g i)):=by rw [<- C];exact a4
   refine ⟨_,ld (h.le _ _ b7) rfl,_,rfl,_,ld (h.le _ _ E3.q5) rfl,?_⟩;refine (uo h (au _) hk.le L (hk.prs i) a4 (hr.le (aa l2 l3)) (hl x c3)).mono ?_;rintro _ F5 ⟨G5,u,rfl,hu,l5,h⟩;have E5:=E3.le l5;refine ⟨u,rfl,by rw [aI];exact ld (h.le _ _ (l5 _ _ c5)) rfl,ld (h.le _ _ E5.q1) rfl,ld (h.le _ _ (l5 _ _ b7)) rfl,_,_,_,rfl,RY,?_⟩;refine (FQ h l5 hk.le L (cM L x.right (hk.prs i)).1 hu E5.q2 x.left).mono ?_;rintro _ F6 ⟨G6,P,rfl,J,l6,h⟩;refine ⟨rfl,by rw [aI];exact ld (h.le _ _ (l6 _ _ (l5 _ _ c5))) rfl,ld (h.le _ _ (l6 _ _ E5.q1)) rfl,?_⟩;exact a6 (aa l3 (aa l5 l6)) (by rw [Υ c2]) J h
 ·have e:i=g.qa0.length:=by omega
  subst e;rw [XW] at O;have O:iV st (bI g) 0 g.qa0 S=S1:=O;rw [O];exact ⟨G1,D,rfl,l1,d2,h⟩
end
theorem RZ:aF prog 151=mY:=by kernel_rfl
section
variable {G F:PH} {As:List (Ψ)} {g:Gr} {k m:Nat} {st:Bool}
theorem St.toMap {r:Type} [DecidableEq r] (enc:r->ξ) (h:St G F (pt m (.map #[] 0)::As)):St G F (mS enc G m (λ_=>qa6 mz)::As):=
 h.imp (A':=mS enc G m (λ_=>qa6 mz)) 0 rfl λ_ _ w=>⟨_,_,w,dX.empty enc,i7.empty G⟩
theorem Mt {w C A B:Nat} (E:OkK g k) (hl:∀x∈g.qa0,x.right.length<=1000000) (M:g.qa0.length<=1000000) (q1:G C=V (Y #[ph (V ⟨w,0,I⟩)] 169)) (q3:G A=V (Y #[nS st] 4))
  (q5:G B=V (Y #[.map (V m)] 170)) (H:AnV G w g):
  U8 G k m 151 #[] #[ph (V ⟨C,0,I⟩),ph (V ⟨A,0,I⟩),ph (V ⟨B,0,I⟩)] (g.qa0.map (·.left)) (Zr g.qa0 (bI g) st) (iV st (bI g) 0 g.qa0) (λ_=>()) (λ_ _=>As) where
 cb:=RZ
 sx S hS hI:=by obtain ⟨N,X,W⟩:=kZ (st:=st) E.prs g.qa0 0 hS;refine ⟨N,ze E.prs g.qa0 0 (λj x O=>by rw [ye];exact O) hS hI,X,λn Q=> ?_⟩;obtain ⟨x,P,e⟩:=W n Q;exact w9.2 ⟨x,P,e⟩
 run G' F' S x b2 b4 l hS hI hc h:=by
  have e:(#[]++ #[FT b2 b4]++ #[ph (V ⟨C,0,I⟩),ph (V ⟨A,0,I⟩),ph (V ⟨B,0,I⟩)]:Γ)= #[FT b2 b4,.pointer (V ⟨C,0,I⟩),ph (V ⟨A,0,I⟩),ph (V ⟨B,0,I⟩)]:=by simp
  rw [e];refine (Ms E hl M ⟨l _ _ q1,l _ _ q3,l _ _ q5,hc,H.le l⟩ hS h).mono ?_;rintro r K ⟨D,ch,h1,J,h3,L⟩;exact ⟨D,ch,h1,J,h3,L⟩
theorem qhn {C:Nat} (M:OkK g k) (hl:∀x∈g.qa0,x.right.length<=1000000) (Q:g.qa0.length<=1000000) (K:AnV G C g) (h:St G F As):
  ν 110 #[ph (V ⟨C,0,I⟩),nS st] F λr E=>∃A B S,r=.map (V B)/\G.le A/\Jl k g.qa0 (bI g) st S/\St A E (mS be A B S::As):=by
 refine qcT ?_;unfold OB;refine h.newG λb1 G1 F1 O q1 _ h=>h.newG λb3 G2 F2 L q3 _ h=>h.new λB F3 h=> ?_;have h:=h.toMap be;refine h.new λb5 F4 h=> ?_;refine h.set0 (w':= #[.map (V B)]) (vx rfl) rfl λF5 h=> ?_;obtain ⟨G3,J,⟨H,hA,hH⟩,h⟩:=h.pin;have q5:=hH _ _ hA;have D:=aa O (aa L J);have up:∀(A w E:PH) (x:Unit) (S:Int->Tr),A.le w->St w E (mS be A B S::As)->St w E (mS be w B S::As):=λA w E _ S l h=>h.imp 0 rfl λH _ ⟨o,mp,W,a2,a3⟩=>⟨o,mp,W,a2,a3.le l⟩;have h:=up _ _ _ () _ J h;refine ⟨_,ld (h.le _ _ q5) rfl,?_⟩;refine (FS (Mt (As:=As) M hl Q (J _ _ (L _ _ q1)) (J _ _ q3) q5 (K.le D)) up (x:=()) (λ_=>Sx.qa6 k mz) (λn c hc=>by cases hc) h).mono ?_;rintro _ F6 ⟨G6,S,rfl,N,P,X,he,h⟩;exact ⟨rfl,_,ld (h.le _ _ (N _ _ q5)) rfl,G6,B,S,rfl,aa D N,Jm M.prs P X he,h⟩
end
structure ut (k n:Nat) (l:List Pr) (P:Nat->Tr) (C:Int->Tr):Prop where
 sx:Sxs k C
 iff:∀(i:Nat) c,i<n->((C i).ev c=mY↔Tg (WY l P c) i i)
theorem St.exI {α:Type} {G F:PH} {As:List (Ψ)} {A:α->Ψ} (h:St G F As) (i:Nat) (hi:As[i]? =V λH=>∃x,A x H):∃x,St G F (As.set i (A x)):=by
 obtain ⟨E,J,w,D⟩:=h;obtain ⟨⟨x,K⟩,hd,r⟩:=w i _ hi;refine ⟨x,E,J,λj B g=> ?_,λj k g C=>D j k (by simpa using g) (by simpa using C)⟩;by_cases e:j=i
 ·subst e;rw [X0 (N6.1 hi).1] at g;cases g;exact ⟨K,hd,r⟩
 ·rw [Zh (Ne.symm e)] at g;exact w j B g
theorem St.prI {P:Prop} {G F:PH} {As:List (Ψ)} {A:Ψ} (h:St G F As) (i:Nat) (hi:As[i]? =V λH=>P/\A H):P/\St G F (As.set i A):=by obtain ⟨H,⟨g,_⟩,_⟩:=h.get hi;exact ⟨g,h.imp i hi λ_ _ h=>h.2⟩
theorem St.hd {G F:PH} {As:List (Ψ)} {A:Ψ} (h:St G F (A::As)):St G F [A]:=h.pick id (λ_ _ _ _ e=>e) λi hi=>by
 cases i with
 |zero=>rfl
 |succ i=>simp at hi
section
variable {G F Gd:PH} {g:Gr} {k m mu ms:Nat} {D:Int->Tr}
theorem mS.le {r:Type} [DecidableEq r] {enc:r->ξ} {G w:PH} {m:Nat} {S:r->Tr} {H:PH} (h:mS enc G m S H) (l:G.le w):mS enc w m S H:=by obtain ⟨o,mp,B,A,C⟩:=h;exact ⟨o,mp,B,A,C.le l⟩
end
theorem St.var1 {G F:PH} {As:List (Ψ)} (h:St G F As) {z v:ξ} {e:TypeId} {K:Nat->Ψ} (k:∀b g r,G.le g->g b=V (Y #[v] e)->St g r As->K b r):∀b,F b=I->xG (F.set b (Y #[z] e)) λF=>qW F (ou b 0 I) v (K b):=by refine h.new λb w h=> ?_;refine h.set0 (w':= #[v]) (vx rfl) rfl λF2 h=> ?_;exact h.pinb λg l q h=>k b g F2 l q h
def tW (n:Nat):Φ:=(List.range n).map λi:Nat=>(i:Int)
theorem Iz {n i:Nat} (h:i<n):(tW n)[i]? =V (i:Int):=by unfold tW;rw [yc,Xz h];rfl
instance:Mem (List vE) where
 n:=1
 rep F x c:=∃s:Sl,c= #[s.v]/\RL F s x
 len h:=by obtain ⟨s,rfl,_⟩:=h;rfl
 le hl h:=by obtain ⟨s,h1,h2⟩:=h;exact ⟨s,h1,h2.le hl⟩
 st h:=by obtain ⟨s,rfl,_⟩:=h;simp [ak,nE]
theorem f8 {α:Type} [DecidableEq α]:∀{l m:List α},l.Nodup->(∀x∈l,x∈m)->l.length<=m.length
 |[],_,_,_=>yv _
 |x::l,m,h,hs=>by rw [WT] at h;have g:=hs x (by simp);have:=f8 (m:=m.erase x) h.2 λy r=>(List.mem_erase_of_ne λe=>h.1 (by rw [<- e];exact r)).2 (hs y (Vm _ r));rw [List.length_erase_of_mem g] at this;have w:0<m.length:=List.length_pos_of_mem g;rw [wc];omega
theorem jx {K:Type} [DecidableEq K] {k:K} {v:ξ}:∀{L:List (K×ξ)},(L.map (·.1)).Nodup->(lk k L=V v↔(k,v)∈L)
 |[],_=>by simp [lk]
 |p::L,h=>by
  rw [xw,WT] at h;unfold lk;by_cases e:k=p.1
  ·rw [Χ e];constructor
   ·intro g;cases g;rw [e];exact XA ..
   ·intro g;rcases tD.1 g with g|g
    ·rw [<- g]
    ·exact absurd (w9.2 ⟨_,g,e⟩) h.1
  ·rw [Υ e,jx h.2,tD];exact ⟨.inr,λg=>g.resolve_left λg=>e (by rw [<- g])⟩
theorem uu {K:Type} [DecidableEq K] (k:K):∀(L:List (K×ξ)) (i:Nat),Wr k L i=I->∀p∈L,p.1≠k
 |[],_,_,p,h=>by cases h
 |q::L,i,h,p,g=>by
  unfold Wr at h;split at h
  ·cases h
  ·rename_i r;rcases tD.1 g with rfl|g
   ·exact λe=>r e.symm
   ·exact uu k L _ h p g
section
variable {K:Type} [DecidableEq K] {enc:K->ξ} {m:K->Option ξ} {F:PH} {r:Nat}
structure ry (enc:K->Value) (m:K->Option Value) (es:Array MapEntry) (c:Nat) (L:List (K×Value)):Prop where
 eq:es.toList.map (λe=>(e.key,e.val))=L.map (λp=>(enc p.1,p.2))
 lk:∀k,m k=lk k L
 st:MapKept.Stamped es c
def yB (enc:K->ξ) (m:K->Option ξ) (o:Obj):Prop:=∃es c L,o=.map es c/\ry enc m es c L
theorem yB.mapO {o:Obj} (h:yB enc m o):dX enc m o:=by obtain ⟨g,c,L,rfl,h⟩:=h;exact ⟨g,c,L,rfl,h.eq,h.lk⟩
theorem yB.empty (enc:K->ξ):yB enc (λ_=>I) (.map #[] 0):=⟨#[],0,[],rfl,rfl,λ_=>rfl,MapKept.stamped_empty 0⟩
theorem ry.len {g:Array MapEntry} {c:Nat} {L:List (K×ξ)} (h:ry enc m g c L):g.size=L.length:=by simpa using congrArg List.length h.eq
theorem ry.nodup {A:Array MapEntry} {c:Nat} {L:List (K×ξ)} (h:ry enc m A c L):(L.map (·.1)).Nodup:=by
 have w:=h.st.2.2;have e:A.toList.map (·.key)=(L.map (·.1)).map enc:=by have:=congrArg (List.map Prod.fst) h.eq;simpa [X3,Function.comp_def] using this
 rw [e] at w;exact (List.pairwise_map.1 w).imp λg e=>g (by rw [e])
theorem ry.entry {w:Array MapEntry} {c:Nat} {L:List (K×ξ)} (h:ry enc m w c L) {e:MapEntry} (B:e∈w.toList):∃k,e.key=enc k/\m k=V e.val:=by
 have A:(e.key,e.val)∈w.toList.map (λe=>(e.key,e.val)):=w9.2 ⟨e,B,rfl⟩;rw [h.eq] at A;obtain ⟨p,C,g⟩:=w9.1 A;injection g with g h3
 exact ⟨p.1,g.symm,by rw [h.lk,<- h3];exact (jx h.nodup).2 C⟩
theorem ry.of {B:Array MapEntry} {c:Nat} {L:List (K×ξ)} (h:ry enc m B c L) {k:K} {v:ξ} (w:m k=V v):∃e∈B.toList,e.key=enc k/\e.val=v:=by
 rw [h.lk,jx h.nodup] at w;have A:(enc k,v)∈L.map λp=>(enc p.1,p.2):=w9.2 ⟨_,w,rfl⟩;rw [<- h.eq] at A;obtain ⟨e,C,g⟩:=w9.1 A;injection g with g h3
 exact ⟨e,C,g,h3⟩
variable {P:Program} {mt:TypeId} {z:ξ}
theorem FU (hm:fS P mt enc z) (W:∀a b,enc a=enc b->a=b) {o:Obj} (N:F r=V o) (ho:yB enc m o) (k:K) (v:ξ) {Q:Unit->Ψ}
  (h:∀o',yB enc (λk'=>if k'=k then V v else m k') o'->Q () (F.set r o')):aG P (Instr.mapUpdate mt (.map (V r)) (enc k) v) F Q:=by
 obtain ⟨kt,e,h1,h2,X⟩:=hm.ex;have C:=ho.mapO.not_cells;obtain ⟨A,c,L,rfl,g⟩:=ho;have H:=g.eq;have hf:=nq k v L 0;have hn:=nk k v L 0;unfold Instr.mapUpdate;simp only [aD,bX h1];refine ⟨_,N,C,?_⟩;rw [show (Sem.pure (Obj.map A c):Sem Obj)=pure (Obj.map A c) from rfl];simp only [aL,aD];refine gW _ _ _ _ (X.chk F _ k) ?_;refine gW _ _ _ _ (gq X k _ _ H) ?_;have G:∀k',(if k'=k then V v else m k')=lk k' (WM k v L):=λk'=>by rw [CO,g.lk]
 cases hfd:Wr k L 0 with
 |none=>
  refine ⟨_,N,C,h _ ⟨_,_,WM k v L,rfl,?_,G,MapKept.stamped_push g.st λx hx=> ?_⟩⟩
  ·rw [(hn hfd).2];simp [H]
  ·obtain ⟨k',e1,e2⟩:=g.entry hx;rw [e1];intro e';have:=W _ _ e';rw [g.lk,jx g.nodup] at e2;exact uu k L 0 hfd _ e2 this
 |some q=>
  obtain ⟨j,w⟩:=q;obtain ⟨d,hj,hd,h5,h6,h7⟩:=hf j w hfd;obtain rfl:j=d:=by omega
  have D:=g.len;have a0:∀e∈A.toList,A[j]? =V e->enc k=e.key:=λe _ he=>by
   have:=congrArg (λl=>l[j]?) H;simp only [yc,h5,Vz,YG,he] at this;injection this with this
   injection this with this _
   exact this.symm
  have J:(A[j]?.map (·.key)).getD (enc k)=enc k:=by
   have:=congrArg (λl=>l[j]?) H;simp only [yc,h5,Vz] at this;have B:j<A.size:=by omega
   simp [B] at this ⊢;exact this.1
  simp only [aD,J,Instr.keyThatStays,X.same,if_true,aL];refine ⟨_,N,C,h _ ⟨_,_,WM k v L,rfl,?_,G,MapKept.stamped_modify g.st j _ (λ_ _=>rfl) (λe O M=>a0 e O M)⟩⟩;rw [h7];apply WJ;intro i;have E:=congrArg (λl=>l[i]?) H;simp only [yc] at E;simp only [Array.toList_modify,yc,YH,Yj];by_cases hi:j=i
  ·subst hi;have B:j<A.toList.length:=by simpa [D] using hd
   rw [N5 B];simp [hd]
  ·simp only [hi,if_false];simpa using E
end
section
variable {F:PH} {r:Nat}
theorem qg7 {n:Nat} (g:0<n) {F:PH} {Q:Nat->Ψ} (h:∀i,i<n->Q i F):aG prog (choose (.mapNext n)) F Q:=by
 unfold choose;unfold aG;by_cases w:(Question.mapNext n).forced=mY
 ·rw [Χ w];exact h 0 g
 ·rw [Υ w];intro t;exact h (t % n) (V7 _ g)
theorem Bt {w:Array MapEntry} {c b:Nat} {seen:Array Nat} {P:TypeId} (W:F r=V (.map w c)) (G:MapKept.Stamped w c) (L:F b=V (.mapIter (V r) c seen c)) {Q:ξ->Ψ}
  (O:(∀e∈w.toList,seen.contains e.born=mY)->Q (pk #[nS mz]) F)
  (X:∀e∈w.toList,seen.contains e.born=mz->Q (pk #[nS mY,e.key,e.val]) (F.set b (.mapIter (V r) c (seen.push e.born) c))):
  aG prog (Instr.next (ph (V ⟨b,0,I⟩)) mz P) F Q:=by
 unfold Instr.next;simp only [aD];refine ⟨_,L,λ_ _ _ h=>(by cases h),?_⟩;rw [show (Sem.pure (Obj.mapIter (V r) c seen c):Sem Obj)=pure (Obj.mapIter (V r) c seen c) from rfl];simp only [aL,aD];refine ⟨_,W,λ_ _ _ h=>(by cases h),?_⟩;rw [show (Sem.pure (Obj.map w c):Sem Obj)=pure (Obj.map w c) from rfl];simp only [aL];have C:(w.all λe=>decide (e.born≥c))=mz\/w.isEmpty=mY:=by
  by_cases E:w.isEmpty=mY
  ·exact .inr E
  ·left;rw [XU];intro N;rw [Array.all_eq_true'] at N;have H:w.toList≠[]:=λe=>E (by rw [Array.isEmpty_iff];exact Array.toList_eq_nil_iff.1 e);obtain ⟨x,M⟩:=List.exists_mem_of_ne_nil _ H;have h2:=G.1 x M;have K:=N x (Array.mem_def.2 M);simp at K;omega
 have J:(!seen.isEmpty && !w.isEmpty && w.all λe=>decide (e.born≥c))=mz:=by rcases C with h|h<;>simp [h]
 rw [J];simp only [VN,if_false,aD]
 refine qg7 (by
  rw [Array.size_append];by_cases B:((w.filter λe=> !seen.contains e.born).filter λx=>decide (x.born<c)).isEmpty=mY
  ·rw [Χ B];exact Nat.lt_of_lt_of_le Nat.zero_lt_one (Nat.le_add_right _ _)
  ·rw [Υ B];have:0<((w.filter λe=> !seen.contains e.born).filter λx=>decide (x.born<c)).size:=by
    rcases Yi ((w.filter λe=> !seen.contains e.born).filter λx=>decide (x.born<c)).size with h|h
    ·exact absurd (by simpa [Array.isEmpty] using h) B
    ·exact h
   rw [Array.size_map,Array.size_append]
   omega) λi hi=> ?_
 rw [Wt hi];have g:=Array.getElem_mem hi;revert g;generalize ((if ((w.filter λe=> !seen.contains e.born).filter λx=>decide (x.born<c)).isEmpty=mY then #[I] else #[])++Array.map V ((w.filter λe=> !seen.contains e.born).filter (λx=>decide (x.born<c))++(w.filter λe=> !seen.contains e.born).filter λx=>decide (x.born≥c)))[i]=y;intro g;rw [Array.mem_append] at g;cases y with
 |none=>
  simp only [aL];refine O λe E=> ?_;have K:=G.1 e E;rcases g with g|g
  ·by_cases B:((w.filter λe=> !seen.contains e.born).filter λx=>decide (x.born<c)).isEmpty=mY
   ·cases hs:seen.contains e.born with
    |true=>rfl
    |false=>
     exfalso;have A:e∈(w.filter λe=> !seen.contains e.born).filter λx=>decide (x.born<c):=by rw [Array.mem_filter,Array.mem_filter];exact ⟨⟨Array.mem_def.2 E,by rw [hs];rfl⟩,by simpa using K⟩
     rw [Array.isEmpty_iff] at B;rw [B] at A;exact absurd A (by simp)
   ·rw [Υ B] at g;exact absurd g (by simp)
  ·rw [Array.mem_map] at g;obtain ⟨_,_,h⟩:=g;cases h
 |some e=>
  have A:e∈w/\seen.contains e.born=mz:=by
   rcases g with g|g
   ·split at g
    ·simp at g
    ·simp at g
   ·rw [Array.mem_map] at g;obtain ⟨e',D,h⟩:=g;injection h with h
    subst h;simp only [Array.mem_append,Array.mem_filter] at D;rcases D with h|h
    ·exact ⟨h.1.1,by simpa using h.1.2⟩
    ·exact ⟨h.1.1,by simpa using h.1.2⟩
  simp only [aD,aL];refine ⟨_,L,λ_ _ _ h=>(by cases h),X e (Array.mem_def.1 A.1) A.2⟩
theorem qh1 {w C e:TypeId} (A:prog.underlying w=V (.map C e)) {g:Array MapEntry} {c:Nat} (B:F r=V (.map g c)) {Q:ξ->Ψ} (h:∀b,F b=I->Q (.pointer (V ⟨b,0,I⟩)) (F.set b (.mapIter (V r) c #[] c))):aG prog (Instr.range w (.map (V r))) F Q:=by unfold Instr.range;simp only [aD,bX A];refine ⟨_,B,λ_ _ _ h=>(by cases h),?_⟩;rw [show (Sem.pure (Obj.map g c):Sem Obj)=pure (Obj.map g c) from rfl];simp only [aL,aD,newObj,aG];exact h
theorem rz:∀{l:List MapEntry},(l.map (·.born)).Nodup->∀{a b},a∈l->b∈l->a.born=b.born->a=b
 |[],_,_,_,g,_,_=>by simp at g
 |x::l,h,a,b,g,w,e=>by
  rw [xw,WT] at h;rcases tD.1 g with g|g<;>rcases tD.1 w with w|w
  ·rw [g,w]
  ·exact absurd (w9.2 ⟨b,w,by rw [<- e,g]⟩) h.1
  ·exact absurd (w9.2 ⟨a,g,by rw [e,w]⟩) h.1
  ·exact rz h.2 g w e
theorem FV {F:PH} {g:Array MapEntry} {c r b:Nat} {seen:Array Nat} {e:MapEntry} (C:F r=V (.map g c)) (w:MapKept.Stamped g c) (D:F b=V (.mapIter (V r) c (seen.push e.born) c)) (A:e∈g.toList):
  pn prog (Instr.entry (ph (V ⟨b,0,I⟩))) F (pk #[e.key,e.val]):=by
 unfold Instr.entry;simp only [am];refine ⟨_,⟨_,D,λ_ _ _ h=>(by cases h),rfl⟩,?_⟩;simp only [Array.back?_push];simp only [am];refine ⟨_,⟨_,C,λ_ _ _ h=>(by cases h),rfl⟩,?_⟩;simp only [bne_self_eq_false,VN,if_false];have E:g.find? (λx=>x.born==e.born)=V e:=by
  cases h:g.find? (λx=>x.born==e.born) with
  |none=>rw [Array.find?_eq_none] at h;exact absurd (show (e.born==e.born)=mY by simp) (h e (Array.mem_def.2 A))
  |some y=>have G:=Array.mem_of_find?_eq_some h;have B:=Array.find?_some h;rw [rz w.2.1 (Array.mem_def.1 G) A (by simpa using B)]
 rw [E];rfl
end
section
variable {K:Type} [DecidableEq K] {enc:K->ξ} {m:K->Option ξ} {G F:PH} {As:List (Ψ)} {r b c:Nat} {es:Array MapEntry} {L:List (K×ξ)}
theorem St.newB (h:St G F As) {b:Nat} (w:F b=I) (o:Obj):St G (F.set b o) (pt b o::As):=h.push (H:=PH.set (λ_=>I) b o) (aq _ _ _) (λx g=>by
 by_cases e:x=b
 ·rw [e];exact w
 ·rw [aw _ _ e] at g;exact absurd rfl g) (λx p g=>by
 by_cases e:x=b
 ·rw [e,aq] at g ⊢;exact g
 ·rw [aw _ _ e] at g;cases g) (ae o w)
def itG (enc:K->ξ) (r b:Nat) (es:Array MapEntry) (c:Nat) (ks:List K):Ψ:=λH=>∃done:List MapEntry,done.map (·.key)=ks.map enc/\(∀e∈done,e∈es.toList)/\H b=V (.mapIter (V r) c (done.map (·.born)).toArray c)
theorem St.rangeG {w J e:TypeId} (A:prog.underlying w=V (.map J e)) (h:St G F As) (enc:K->ξ) (B:F r=V (.map es c)) {C:Nat->Ψ} (k:∀b g,St G g (itG enc r b es c []::As)->C b g):
  aG prog (Instr.range w (.map (V r))) F λv F=>∃b,v=ph (V ⟨b,0,I⟩)/\C b F:=by
 have _:=(inferInstance:DecidableEq K);refine qh1 A B λb D=>⟨b,rfl,?_⟩;have:=h.newB D (.mapIter (V r) c #[] c);exact k b _ (this.imp 0 rfl λH _ E=>⟨[],rfl,λ_ h=>(by cases h),E⟩)
theorem St.nextG (D:ry enc m es c L) (b2:∀a b,enc a=enc b->a=b) {ks:List K} (h:St G F (itG enc r b es c ks::As)) (hn:ks.Nodup) (hs:∀k∈ks,∃v,m k=V v) (hr:F r=V (.map es c)) {ty:TypeId} {Q:ξ->Ψ}
  (fin:(∀k v,m k=V v->k∈ks)->Q (pk #[nS mz]) F)
  (step:∀k v F',m k=V v->k ∉ ks->ks.length<es.size->St G F' (itG enc r b es c (ks++[k])::As)->F' r=V (.map es c)->pn prog (Instr.entry (ph (V ⟨b,0,I⟩))) F' (pk #[enc k,v])->Q (pk #[nS mY,enc k,v]) F'):
  aG prog (Instr.next (ph (V ⟨b,0,I⟩)) mz ty) F Q:=by
 obtain ⟨H,⟨g,h1,h2,h3⟩,hd,a7,a2⟩:=h.set (i:=0) (A':=itG enc r b es c ks) rfl;clear a2;have hb:=a7 _ _ h3;have N:∀e∈es.toList,e∈g↔∃k∈ks,e.key=enc k:=λe B=>by
  constructor
  ·intro hi;have:e.key∈g.map (·.key):=w9.2 ⟨e,hi,rfl⟩;rw [h1] at this;obtain ⟨k,M,A⟩:=w9.1 this;exact ⟨k,M,A.symm⟩
  ·rintro ⟨k,M,A⟩;have:enc k∈ks.map enc:=w9.2 ⟨k,M,rfl⟩;rw [<- h1] at this;obtain ⟨x,w,O⟩:=w9.1 this;have:x=e:=qp D.st.2.2 (h2 x w) B (by rw [O,A]);rw [<- this];exact w
 have C:∀e∈es.toList,((g.map (·.born)).toArray.contains e.born=mY↔e∈g):=λe B=>by
  rw [Array.contains_iff_mem,Array.mem_def];constructor
  ·intro hi;obtain ⟨a,ha,A⟩:=w9.1 hi;rw [<- rz D.st.2.1 (h2 a ha) B A];exact ha
  ·intro hi;exact w9.2 ⟨e,hi,rfl⟩
 refine Bt hr D.st hb (λP=>fin λk v M=> ?_) λe B J=> ?_
 ·obtain ⟨e,B,W,_⟩:=D.of M;obtain ⟨k',b0,O⟩:=(N e B).1 ((C e B).1 (P e B));rw [b2 k k' (by rw [<- W,O])];exact b0
 ·obtain ⟨k,W,O⟩:=D.entry B;have a8:e ∉ g:=λhi=>by rw [(C e B).2 hi] at J;cases J
  have M:k ∉ ks:=λhi=>a8 ((N e B).2 ⟨k,hi,W⟩);have a4:r≠b:=λA=>by rw [A,hb] at hr;cases hr
  have a1:(F.set b (.mapIter (V r) c ((g.map (·.born)).toArray.push e.born) c)) r=V (.map es c):=by rw [aw _ _ a4];exact hr
  have a5:ks.length<es.size:=by
   have X:∀x∈ks++[k],x∈L.map (·.1):=λx w=>by
    have:∃v,m x=V v:=by
     rcases vd.1 w with w|w
     ·exact hs x w
     ·rw [vy.1 w];exact ⟨_,O⟩
    obtain ⟨v,hv⟩:=this;rw [D.lk,jx D.nodup] at hv;exact w9.2 ⟨_,hv,rfl⟩
   have a6:(ks++[k]).Nodup:=by rw [Vw];exact ⟨hn,by simp,λa ha b' a9 A=>M (by rw [vy.1 a9] at A;rw [<- A];exact ha)⟩
   have:=f8 a6 X;rw [tT,Uc,ub,<- D.len] at this;omega
  have b1:St G (F.set b (.mapIter (V r) c ((g.map (·.born)).toArray.push e.born) c)) (itG enc r b es c (ks++[k])::As):=by
   obtain ⟨H2,⟨d2,g1,g2,g3⟩,gd,a3,a0⟩:=h.set (i:=0) (A':=itG enc r b es c (ks++[k])) rfl;have ed:d2.map (·.born)=g.map (·.born):=by
    have:=a3 _ _ g3;rw [hb] at this;injection this with this
    injection this with _ _ this _
    simpa using this.symm
   refine a0 (H2.set b (.mapIter (V r) c ((g.map (·.born)).toArray.push e.born) c)) _ ⟨d2++[e],by simp [g1,W],λx w=> ?_,?_⟩ (λx w=> ?_) (λx p w=> ?_) (λx p w hn=> ?_)
   ·rcases vd.1 w with w|w
    ·exact g2 x w
    ·rw [vy.1 w];exact B
   ·rw [aq,yT,ed];simp
   ·by_cases A:x=b
    ·rw [A,g3];exact .inl (by simp)
    ·rw [aw _ _ A] at w;exact .inl w
   ·by_cases A:x=b
    ·rw [A,aq] at w ⊢;exact w
    ·rw [aw _ _ A] at w ⊢;exact a3 _ _ w
   ·have A:x≠b:=λA=>by rw [A,g3] at hn;cases hn
    rw [aw _ _ A];exact w
  have E:=FV (e:=e) a1 D.st (aq F b (.mapIter (V r) c ((g.map (·.born)).toArray.push e.born) c)) B;rw [W] at E ⊢;exact step k e.val _ O M a5 b1 a1 E
where
 qp:∀{l:List MapEntry},(l.map (·.key)).Nodup->∀{a b:MapEntry},a∈l->b∈l->a.key=b.key->a=b
  |[],_,_,_,ha,_,_=>by simp at ha
  |x::l,h,a,b,ha,hb,e=>by
   rw [xw,WT] at h;rcases tD.1 ha with ha|ha<;>rcases tD.1 hb with hb|hb
   ·rw [ha,hb]
   ·exact absurd (w9.2 ⟨b,hb,by rw [<- e,ha]⟩) h.1
   ·exact absurd (w9.2 ⟨a,ha,by rw [e,hb]⟩) h.1
   ·exact qp h.2 ha hb e
end
section
variable {k:Nat} {l:List Pr} {P:Nat->Tr} {N:Int->Tr}
def nF (N:Int->Tr) (Pi:Tr) (r:List Sy) (j:Nat):Tr:=if (r.eraseIdx j).any (·.t)=mY then qa6 mz else fj N Pi (r.eraseIdx j)
def rA (N:Int->Tr) (Pi:Tr) (x:Pr):Nat->List Sy->(Int×Int->Tr)->Int×Int->Tr
 |_,[],S=>S
 |j,s::r,S=>rA N Pi x (j+1) r (if s.t=mY then S else dV S (x.left,s.i) (nF N Pi x.right j))
def tX (N:Int->Tr) (P:Nat->Tr):Nat->List Pr->(Int×Int->Tr)->Int×Int->Tr
 |_,[],S=>S
 |i,x::l,S=>tX N P (i+1) l (rA N (P i) x 0 x.right S)
theorem ig (G:Sxs k N) {D:Tr} (J:Sx k D) (r:List Sy) (j:Nat):Sx k (nF N D r j)/\∀c,(nF N D r j).ev c=mY↔D.ev c=mY/\∀m y,m≠j->r[m]? =V y->y.t=mz/\(N y.i).ev c=mY:=by
 obtain ⟨H,E⟩:=cM G (r.eraseIdx j) J;unfold nF;by_cases C:(r.eraseIdx j).any (·.t)=mY
 ·rw [Χ C];refine ⟨Sx.qa6 k mz,λc=>⟨λh=>(by cases h),λh=> ?_⟩⟩;rw [XI] at C;obtain ⟨y,A,w⟩:=C;obtain ⟨m,B,g⟩:=List.mem_eraseIdx_iff_getElem?.1 A;have:=(h.2 m y B g).1;rw [w] at this;cases this
 ·rw [Υ C];refine ⟨H,λc=> ?_⟩;rw [E,Xk,Vn];refine and_congr_right λ_=>⟨λh m y B g=> ?_,λh y A=> ?_⟩
  ·have A:y∈r.eraseIdx j:=List.mem_eraseIdx_iff_getElem?.2 ⟨m,B,g⟩;have w:y.t=mz:=by
    cases e:y.t with
    |false=>rfl
    |true=>exact absurd (XI.2 ⟨y,A,e⟩) C
   have:=h y A;rw [w,Bool.false_or] at this;exact ⟨w,this⟩
  ·obtain ⟨m,B,g⟩:=List.mem_eraseIdx_iff_getElem?.1 A;rw [(h m y B g).2,Bool.or_true]
theorem kP (G:Sxs k N) {B:Tr} (H:Sx k B) (x:Pr):∀(r:List Sy) (j:Nat) {S:Int×Int->Tr},Sxs k S->Sxs k (rA N B x j r S)/\
  ∀n c,(rA N B x j r S n).ev c=mY↔(S n).ev c=mY\/∃m s,r[m]? =V s/\s.t=mz/\n=(x.left,s.i)/\(nF N B x.right (j+m)).ev c=mY
 |[],j,S,hS=>⟨hS,λn c=>⟨.inl,λh=>h.resolve_right λ⟨m,s,h,_⟩=>(by simp at h)⟩⟩
 |s::r,j,S,hS=>by
  have hd:=(ig G H x.right j).1;unfold rA;have g:∀(n:Int×Int) (c:Cf),(∃m y,(s::r)[m]? =V y/\y.t=mz/\n=(x.left,y.i)/\(nF N B x.right (j+m)).ev c=mY)↔(s.t=mz/\n=(x.left,s.i)/\(nF N B x.right j).ev c=mY)\/∃m y,r[m]? =V y/\y.t=mz/\n=(x.left,y.i)/\(nF N B x.right (j+1+m)).ev c=mY:=λn c=>by
   constructor
   ·rintro ⟨m,y,A,w,C,D⟩;cases m with
    |zero=>cases A;exact .inl ⟨w,C,D⟩
    |succ m=>exact .inr ⟨m,y,by simpa using A,w,C,by rw [show j+1+m=j+(m+1) by omega];exact D⟩
   ·rintro (⟨w,C,D⟩|⟨m,y,A,w,C,D⟩)
    ·exact ⟨0,s,rfl,w,C,D⟩
    ·exact ⟨m+1,y,by simpa using A,w,C,by rw [show j+(m+1)=j+1+m by omega];exact D⟩
  by_cases E:s.t=mY
  ·rw [Χ E];obtain ⟨A,w⟩:=kP G H x r (j+1) hS;refine ⟨A,λn c=> ?_⟩;rw [w,g];refine or_congr_right ⟨.inr,λh=>h.resolve_left λ⟨h,_⟩=>(by rw [E] at h;cases h)⟩
  ·rw [Υ E];obtain ⟨A,w⟩:=kP G H x r (j+1) (pS hS hd (n:=(x.left,s.i)));refine ⟨A,λn c=> ?_⟩;rw [w,g,mh hS hd,Bool.or_eq_true_iff,Xk,δ,or_assoc];refine or_congr_right (or_congr_left ⟨λh=>⟨XU.2 E,h⟩,λh=>h.2⟩)
theorem rB (g:Sxs k N) (r:∀i,Sx k (P i)):∀(l:List Pr) (i:Nat) {S:Int×Int->Tr},Sxs k S->Sxs k (tX N P i l S)/\
  ∀n c,(tX N P i l S n).ev c=mY↔(S n).ev c=mY\/∃(m:Nat) (x:Pr) (j:Nat) (s:Sy),l[m]? =V x/\x.right[j]? =V s/\s.t=mz/\n=(x.left,s.i)/\(nF N (P (i+m)) x.right j).ev c=mY
 |[],i,S,hS=>⟨hS,λn c=>⟨.inl,λh=>h.resolve_right λ⟨m,x,j,s,h,_⟩=>(by simp at h)⟩⟩
 |x::l,i,S,hS=>by
  obtain ⟨B,w⟩:=kP g (r i) x x.right 0 hS;unfold tX;obtain ⟨C,A⟩:=rB g r l (i+1) B;refine ⟨C,λn c=> ?_⟩;rw [A,w,or_assoc];refine or_congr_right ?_;constructor
  ·rintro (⟨j,s,a,b,d,e⟩|⟨m,y,j,s,a,b,d,e,f⟩)
   ·exact ⟨0,x,j,s,rfl,a,b,d,by rw [ye] at e;exact e⟩
   ·exact ⟨m+1,y,j,s,by simpa using a,b,d,e,by rw [show i+(m+1)=i+1+m by omega];exact f⟩
  ·rintro ⟨m,y,j,s,a,b,d,e,f⟩;cases m with
   |zero=>cases a;exact .inl ⟨j,s,b,d,e,by rw [ye];exact f⟩
   |succ m=>exact .inr ⟨m,y,j,s,by simpa using a,b,d,e,by rw [show i+1+m=i+(m+1) by omega];exact f⟩
structure yD (k:Nat) (l:List Pr) (P:Nat->Tr) (S:Int×Int->Tr):Prop where
 sx:Sxs k S
 iff:∀n c,(S n).ev c=mY↔WY l P c n.1 n.2
theorem Mu (r:Jl k l P mY N) (B:∀i,Sx k (P i)):yD k l P (tX N P 0 l λ_=>qa6 mz):=by
 obtain ⟨E,D⟩:=rB r.sx B l 0 (S:=λ_=>qa6 mz) λ_=>Sx.qa6 k mz;refine ⟨E,λn c=>(D n c).trans ?_⟩;constructor
 ·rintro (h|⟨m,x,j,s,a,b,d,e,f⟩)
  ·cases h
  ·rw [ye] at f;obtain ⟨C,f2⟩:=((ig r.sx (B m) x.right j).2 c).1 f;rw [e];exact ⟨m,j,x,s,a,b,d,rfl,rfl,C,λq y w A=>(f2 q y w A).imp id (r.iff _ _).1⟩
 ·rintro ⟨i,j,x,s,a,b,d,e,f,g,h⟩;refine .inr ⟨i,x,j,s,a,b,d,Prod.ext e.symm f.symm,?_⟩;rw [ye];exact ((ig r.sx (B i) x.right j).2 c).2 ⟨g,λq y w A=>(h q y w A).imp id (r.iff _ _).2⟩
def iQ (l:List Pr):List (Int×Int):=l.flatMap λx=>x.right.map λs=>(x.left,s.i)
theorem FW {l:List Pr} (h:∀x∈l,x.right.length<=16):(iQ l).length<=l.length*16:=by
 induction l with
 |nil=>exact qX _
 |cons x l ih=>have r:=h x (by simp);have w:=ih λy g=>h y (Vm _ g);unfold iQ at*;rw [Vx,tT,ub,wc];omega
variable {T:Int×Int->Tr} {fam:Tr} {n:Int}
structure Bfs (k:Nat) (l:List Pr) (P:Nat->Tr) (T:Int×Int->Tr) (fam:Tr) (n:Int) (R:Int->Tr) (q:Φ):Prop where
 sx:Sxs k R
 snd:∀m c,(R m).ev c=mY->Tg (WY l P c) n m
 qa5:∀m c,fam.ev c=mY->(T (n,m)).ev c=mY->(R m).ev c=mY
 clos:∀m,m≠n->m ∉ q->∀m' c,(R m).ev c=mY->(T (m,m')).ev c=mY->(R m').ev c=mY
structure Vis (k:Nat) (keys:Φ) (T:Int×Int->Tr) (a:Int) (d:Tr) (R R':Int->Tr) (ps:Φ):Prop where
 sx:Sxs k R'
 le:Lt' R R'
 snd:∀m c,(R' m).ev c=mY->(R m).ev c=mY\/(d.ev c=mY/\(T (a,m)).ev c=mY)
 cpl:∀m c,d.ev c=mY->(T (a,m)).ev c=mY->(R' m).ev c=mY
 pu:∀m,R' m≠R m->m∈ps
 mu:mu k keys R'+ps.length<=mu k keys R
theorem Bfs.start (B:yD k l P T) {R:Int->Tr} {w keys:Φ} (r:Vis k keys T n fam (λ_=>qa6 mz) R w):Bfs k l P T fam n R w:=by
 refine ⟨r.sx,λm c g=> ?_,r.cpl,λm _ A C c g _=> ?_⟩
 ·rcases r.snd m c g with h|⟨_,h⟩
  ·cases h
  ·exact .one ((B.iff _ _).1 h)
 ·have:R m=qa6 mz:=Classical.not_not.1 λe=>A (r.pu m e);rw [this] at g;cases g
theorem Bfs.visit (M:yD k l P T) {R C:Int->Tr} {m:Int} {q G keys:Φ} (h:Bfs k l P T fam n R (m::q)) (w:Vis k keys T m (R m) R C G):Bfs k l P T fam n C (q++G):=by
 refine ⟨w.sx,λg c r=> ?_,λg c K A=>w.le _ _ (h.qa5 g c K A),λa Q D g c r A=> ?_⟩
 ·rcases w.snd g c r with O|⟨L,H⟩
  ·exact h.snd g c O
  ·exact .snoc (h.snd m c L) ((M.iff _ _).1 H)
 ·have B:a ∉ q:=λe=>D (vd.2 (.inl e));have e:C a=R a:=Classical.not_not.1 λe=>D (vd.2 (.inr (w.pu a e)));rw [e] at r;by_cases E:a=m
  ·rw [E] at r A;exact w.cpl g c r A
  ·exact w.le _ _ (h.clos a Q (λJ=>(tD.1 J).elim E B) g c r A)
theorem Bfs.skip {R:Int->Tr} {q:Φ} (h:Bfs k l P T fam n R (n::q)):Bfs k l P T fam n R q:=
 ⟨h.sx,h.snd,h.qa5,λm g r=>h.clos m g λe=>(tD.1 e).elim g r⟩
theorem Bfs.fin (r:yD k l P T) (w:∀a b c,WY l P c a b->fam.ev c=mY) {R:Int->Tr} (h:Bfs k l P T fam n R []) (c:Cf):(R n).ev c=mY↔Tg (WY l P c) n n:=by
 refine ⟨h.snd n c,λt=> ?_⟩;have key:∀{m:Int},Tg (WY l P c) n m->(R m).ev c=mY:=λ{m} t=>by
  induction t with
  |one g=>exact h.qa5 _ c (w _ _ _ g) ((r.iff (n,_) c).2 g)
  | @snoc b d _ g ih=>
   by_cases e:b=n
   ·rw [e] at g;exact h.qa5 _ c (w _ _ _ g) ((r.iff (n,d) c).2 g)
   ·exact h.clos b e (by simp) d c ih ((r.iff (b,d) c).2 g)
 exact key t
end
section
variable {g:Gr} {k:Nat}
theorem OkK.fam_of (h:OkK g k) {i:Nat} {c:Cf} (r:(bI g i).ev c=mY):(uc g.fam).ev c=mY:=by
 cases hx:g.qa0[i]? with
 |none=>
  have:bI g i=qa6 mz:=by unfold bI;rw [hx]
  rw [this] at r;cases r
 |some x=>rw [h.prs_ev hx,Xk,Xk] at r;exact r.1.1
theorem OkK.stp_fam (h:OkK g k) {c:Cf} {a b:Int} (s:WY g.qa0 (bI g) c a b):(uc g.fam).ev c=mY:=by obtain ⟨i,_,_,_,_,_,_,_,_,r,_⟩:=s;exact h.fam_of r
end
def VA (e:TypeId) (s:Sl) (vs:Ξ):Ψ:=λH=>∃b o cur,s.qa5=V ⟨b,o,I⟩/\H b=V (Y cur e (0,0))/\o+s.cap<=cur.size/\s.len<=s.cap/\vs.length=s.len/\(cur.toList.drop o).take s.len=vs
section
variable {G F H:PH} {As:List (Ψ)} {e:TypeId} {s:Sl} {vs:Ξ}
theorem R0 (h:VA e s vs H):RdS H s 1 vs:=by obtain ⟨b,o,A,r,g,C,B,D,w⟩:=h;refine ⟨by omega,B,λ_=>⟨b,o,r,λi hi=> ?_⟩⟩;rw [av g];have:=congrArg (λl=>l[i]?) w;simp only [YC (show i<s.len by omega),List.getElem?_drop,YG] at this;rw [this,N5 hi]
theorem Mv {v:ξ} (h:VA e s (v::vs) H):VA e (Sl.cut s 1 1 s.len s.cap) vs H:=by
 obtain ⟨b,o,g,A,w,E,J,C,D⟩:=h;rw [wc] at C;by_cases B:s.cap=1
 ·have r:vs=[]:=V5 (by omega);refine ⟨b,o,g,by unfold Sl.cut;rw [if_pos B];exact A,w,by unfold Sl.cut;dsimp only;omega,by unfold Sl.cut;dsimp only;omega,by unfold Sl.cut;dsimp only;omega,?_⟩;unfold Sl.cut;dsimp only;rw [r,show s.len - 1=0 by omega,Am]
 ·refine ⟨b,o+1,g,?_,w,by unfold Sl.cut;dsimp only;omega,by unfold Sl.cut;dsimp only;omega,by unfold Sl.cut;dsimp only;omega,?_⟩
  ·unfold Sl.cut;rw [Υ B,A];rfl
  ·unfold Sl.cut;dsimp only;have:=congrArg (λl=>l.drop 1) D;simp only [List.drop_take,XJ,Xy,Vf] at this;exact this
theorem FX {b:Nat} (h:H b=V (Y #[] e)):VA e (ua (V (ou b 0 I)) 0 0) [] H:=⟨b,0,#[],rfl,h,by simp,qX _,rfl,by simp⟩
theorem St.queAt (h:St G F As) {i:Nat} (hi:As[i]? =V (VA e s vs)):RdS F s 1 vs:=by obtain ⟨H,r,_,g⟩:=h.get hi;exact (R0 r).le g
theorem St.quePush {t bytes:Nat} {z:ξ} (T:SlT t e 1 bytes z) {x:Sl} {v:ξ} {ty:TypeId} (h:St G F As) (i:Nat) (hi:As[i]? =V (VA e s vs)) (B:RdS F x 1 [v]) (a6:ak v) (a7:s.len<=400000000000) {K:Sl->Ψ}
  (k:∀A F',St G F' (As.set i (VA e A (vs++[v])))->A.len=s.len+1->K A F'):aG prog (Builtin.append_ #[t,t] ty #[s.v,x.v]) F λr F=>∃A:Sl,r=nE A/\K A F:=by
 have C:x.len=1:=by have:=B.len;rw [Uc] at this;omega
 have hq:=h.queAt hi;have a9:=hq.len;have put:∀{A:Sl} {b:Nat} {P:Obj},VA e A (vs++[v]) (F.set b P)->A.len=s.len+1->(∀a,A.qa5=V a->a.block=b)->((∃a,s.qa5=V a/\a.block=b)\/F b=I)->K A (F.set b P):=λ{A b P} a0 a5 J O=>by
  obtain ⟨H,a1,a2,a3,a4⟩:=h.set (A':=VA e A (vs++[v])) hi;have N:H b≠I\/F b=I:=by
   rcases O with ⟨a,E,rfl⟩|O
   ·obtain ⟨b0,o0,c0,M,Q,_⟩:=a1;rw [M] at E;cases E;exact .inl (by rw [Q];simp)
   ·exact .inr O
  refine k A _ (a4 (PH.set (λ_=>I) b P) _ ?_ (λx B=> ?_) (λx p B=> ?_) (λx p B hn=> ?_)) a5
  ·obtain ⟨b1,o1,c1,M,Q,e3⟩:=a0;have:b1=b:=J _ M;subst this;rw [aq] at Q;exact ⟨b1,o1,c1,M,by rw [aq];exact Q,e3⟩
  ·by_cases D:x=b
   ·rw [D];exact N
   ·rw [aw _ _ D] at B;exact absurd rfl B
  ·by_cases D:x=b
   ·rw [D,aq] at B ⊢;exact B
   ·rw [aw _ _ D] at B;cases B
  ·have D:x≠b:=λD=>by
    subst D;rcases N with h|h
    ·exact h hn
    ·rw [h] at B;cases B
   rw [aw _ _ D];exact B
 refine gn T.ht T.hsz T.hz T.hzs hq B (λw W=>by rw [vy.1 W];exact a6) (Ea T.hb (by omega)) (by omega) (λh0 _=>by omega) (λ_ L=> ?_) (λhgt cap b hc O=> ?_)
 ·obtain ⟨H,a1,_,a3⟩:=h.get hi;obtain ⟨b,o,g,X,h2,h3,h4,h5,h6⟩:=a1;have a8:g.toList.length=g.size:=zN;refine ⟨b,o,g,e,X,a3 _ _ h2,by omega,_,rfl,put ⟨b,o,_,X,aq _ _ _,by rw [dK];exact h3,L,by rw [tT,Uc,h5,C],?_⟩ (by rw [C]) (λa E=>by rw [X] at E;cases E;rfl) (.inl ⟨_,X,rfl⟩)⟩;have W:=jS [v] g.toList (o+s.len*1) (by rw [Uc];omega);rw [show g.toList.toArray=g by simp] at W;rw [W];dsimp only;rw [C,xB];have M:(List.take (o+s.len) g.toList).drop o=vs:=by rw [<- h6,List.drop_take,Zc]
  rw [xK,List.drop_append_of_le_length (by rw [zZ];omega),M];rw [<- xK,Xh (by rw [tT,Uc];omega),zc (by rw [tT,Uc];omega)]
 ·refine ⟨_,rfl,put ⟨b,0,_,rfl,aq _ _ _,?_,hc,by rw [tT,Uc];show vs.length+1=s.len+x.len;omega,?_⟩ (by rw [C]) (λa E=>by cases E;rfl) (.inr O)⟩
  ·simp [Builtin.zeroCells,T.hzs];omega
  ·simp only [Yf,Zj,Vf,C];rw [Xh (by rw [tT,Uc];omega),zc (by rw [tT,Uc];omega)]
end
theorem R1:∃b z,SlT 76 3 1 b z:=⟨_,_,underlying76,X5,X7,rfl,by decide,by decide⟩
theorem qgq:bu prog 76=V (nE pi):=by kernel_rfl
theorem R3:fS prog 215 be (nE pi):=⟨_,_,underlying215,qgq,M0⟩
section
variable {G F:PH} {As:List (Ψ)} {k b14 b18 b4 b19 mn mr mt:Nat} {nx:Int->Φ} {T:Int×Int->Tr}
structure CyE (G:PH) (b14 mn b4 mt:Nat) (nx:Int->Φ) (T:Int×Int->Tr):Prop where
 q14:G b14=V (Y #[.map (V mn)] 215)
 q4:G b4=V (Y #[.map (V mt)] 211)
 nx:∃o mp,G mn=V o/\dX be mp o/\∀a,(mp a=I/\nx a=[])\/∃s,mp a=V (nE s)/\RL G s (nx a)
 st:∃o mp,G mt=V o/\dX gA mp o/\i7 G T mp
theorem CyE.le {r:PH} (h:CyE G b14 mn b4 mt nx T) (l:G.le r):CyE r b14 mn b4 mt nx T:=by obtain ⟨H,B,⟨o,mp,A,K,D⟩,⟨E,g,J,w,C⟩⟩:=h;refine ⟨l _ _ H,l _ _ B,⟨o,mp,l _ _ A,K,λa=>(D a).imp id λ⟨s,a,b⟩=>⟨s,a,b.le l⟩⟩,⟨E,g,l _ _ J,w,C.le l⟩⟩
theorem CyE.look (h:CyE G b14 mn b4 mt nx T) (l:G.le F) (a:Int):∃s,pn prog (Instr.lookup 215 (.map (V mn)) (U a) mz) F (nE s)/\RL G s (nx a):=by
 obtain ⟨o,mp,C,A,B⟩:=h.nx;have g:=bM (F:=F) R3 (l _ _ C) A a mz;rcases B a with ⟨w,r⟩|⟨s,w,r⟩
 ·rw [w] at g;exact ⟨pi,g,by rw [r];exact RL.nil G⟩
 ·rw [w] at g;exact ⟨s,g,r⟩
theorem CyE.step (h:CyE G b14 mn b4 mt nx T) (l:G.le F) (n:Int×Int):∃w,pn prog (Instr.lookup 211 (.map (V mt)) (nL (B5 n)) mz) F (nL w)/\(DV G w (pg (T n))):=by
 obtain ⟨o,mp,D,B,C⟩:=h.st;have g:=bM (F:=F) RX (l _ _ D) B n mz;rcases C n with ⟨A,r⟩|⟨w,A,r⟩
 ·rw [A] at g;exact ⟨zD,g,by rw [r];exact DV.mk (s:=pi) (d:=pg (qa6 mz)) (RL.nil G)⟩
 ·rw [A] at g;exact ⟨w,g,r⟩
structure IA (k:Nat) (keys:Φ) (T:Int×Int->Tr) (a:Int) (d:Tr) (l:Φ) (R R':Int->Tr) (ps:Φ):Prop where
 sx:Sxs k R'
 le:Lt' R R'
 snd:∀m c,(R' m).ev c=mY->(R m).ev c=mY\/(d.ev c=mY/\(T (a,m)).ev c=mY)
 cpl:∀m∈l,∀c,d.ev c=mY->(T (a,m)).ev c=mY->(R' m).ev c=mY
 pu:∀m,R' m≠R m->m∈ps
 mu:mu k keys R'+ps.length<=mu k keys R
theorem IA.add {keys:Φ} {a:Int} {d:Tr} {l:Φ} {R g:Int->Tr} {E:Φ} (h:IA k keys T a d l R g E) (J:Sxs k T) (hd:Sx k d) {m:Int} (L:m∈keys):
  (dV g m (ap2 bW d (T (a,m)))≠g->IA k keys T a d (l++[m]) R (dV g m (ap2 bW d (T (a,m)))) (E++[m]))/\(dV g m (ap2 bW d (T (a,m)))=g->IA k keys T a d (l++[m]) R g E):=by
 have B:Sx k (ap2 bW d (T (a,m))):=hd.ap2 (o:=bW) (J _);have M:∀c,(ap2 bW d (T (a,m))).ev c=(d.ev c && (T (a,m)).ev c):=(cE hd.1 (J _).1).2;have key:∀i c,(dV g m (ap2 bW d (T (a,m))) i).ev c=mY↔(g i).ev c=mY\/(i=m/\d.ev c=mY/\(T (a,m)).ev c=mY):=λi c=>by rw [mh h.sx B,M,Bool.or_eq_true_iff,Xk,Xk,δ]
 have cp:∀i∈l++[m],∀c,d.ev c=mY->(T (a,i)).ev c=mY->(dV g m (ap2 bW d (T (a,m))) i).ev c=mY:=λi hi c r A=>by
  rcases vd.1 hi with hi|hi
  ·exact (key i c).2 (.inl (h.cpl i hi c r A))
  ·have:=vy.1 hi;subst this;exact (key i c).2 (.inr ⟨rfl,r,A⟩)
 have w:=pS h.sx B (n:=m);constructor
 ·intro C;refine ⟨w,h.le.trans (wO h.sx B),λi c D=> ?_,cp,λi hi=> ?_,?_⟩
  ·rcases (key i c).1 D with D|⟨rfl,r,A⟩
   ·exact h.snd i c D
   ·exact .inr ⟨r,A⟩
  ·by_cases e:i=m
   ·rw [e];simp
   ·have:dV g m (ap2 bW d (T (a,m))) i=g i:=by unfold dV j9;rw [Υ e]
    rw [this] at hi;exact vd.2 (.inl (h.pu i hi))
  ·have r:=(Jk h.sx w (wO h.sx B) keys).2 m L λe=>C (by
    funext i;by_cases H:i=m
    ·rw [H];exact e.symm
    ·unfold dV j9;rw [Υ H])
   have:=h.mu;rw [tT,Uc];omega
 ·intro K;rw [K] at cp;exact ⟨h.sx,h.le,h.snd,cp,h.pu,h.mu⟩
theorem oC {n:Int} {d:Tr} {w:Γ} {R:Int->Tr} {qs:Sl} {q keys:Φ} (hk:k<=6) (E:CyE G b14 mn b4 mt nx T) (b2:G b18=V (Y #[.map (V mr)] 170)) (hT:Sxs k T) (hd:Sx k d) (hw:DV G w (pg d)) (hR:Sxs k R)
  (hn:∀m,T (n,m)≠qa6 mz->m∈nx n) (c7:∀m∈nx n,m∈keys) (hl:(nx n).length<=1000000) (hq:q.length<=100000000)
  (h:St G F (mS be G mr R::pt b19 (Y #[nE qs] 76)::VA 3 qs (q.map U)::As)):
  ν 115 #[U n,nL w,ph (V ⟨b14,0,I⟩),ph (V ⟨b18,0,I⟩),ph (V ⟨b4,0,I⟩),ph (V ⟨b19,0,I⟩)] F λr J=>∃g R' M K,r=pk #[]/\G.le g/\Vis k keys T n d R R' M/\
   St g J (mS be g mr R'::pt b19 (Y #[nE K] 76)::VA 3 K ((q++M).map U)::As):=by
 obtain ⟨_,_,TI⟩:=R1;refine U2 ?_;unfold OE;refine h.newG λb7 G1 F1 l1 q7 _ h=> ?_;have E1:=E.le l1;obtain ⟨sn,c6,a9⟩:=E1.look h.le n;refine ⟨_,rfl,_,ld (h.le _ _ E1.q14) rfl,sn,c6,?_⟩;have d2:=a9.len
 refine bC (vZ · n _ _ _ b7 sn _) (nx n).length (λi J=>∃(g:PH) (R':Int->Tr) (M:Φ) (K:Sl),G1.le g/\M.length<=i/\IA k keys T n d ((nx n).take i) R R' M/\∃Bs,
  St g J ((mS be g mr R'::pt b19 (Y #[nE K] 76)::VA 3 K ((q++M).map U)::As)++Bs)) ⟨G1,R,[],qs,au _,qX _,⟨hR,Lt'.refl R,λm c h=> .inl h,λm hm=>(by simp at hm),λm h=>absurd rfl h,qX _⟩,[],
   by rw [yn,yn];exact h.imp 0 rfl λ_ _ hH=>hH.le l1⟩ ?_
 rintro i F2 N hi ⟨G2,W,M,H,l2,d4,hv,Bs,h⟩ next;replace h:St G2 F2 (mS be G2 mr W::pt b19 (Y #[nE H] 76)::VA 3 H ((q++M).map U)::As):=h.pick id (λ_ _ _ _ e=>e) λi hi=>by rw [id,zR hi]
 unfold vZ;refine ⟨λa2=> ?_,λd1=> ?_⟩
 ·have a2:i<(nx n).length:=by omega
  refine t6 (a9.le l2) (by decide) (by omega) (by omega) λd3 d0 m hm b1 hc=> ?_;rw [N4] at hm;obtain rfl:d0= #[U m]:=hc;have c5:=vQ hm;refine ⟨m,aE (aN h.le b1) rfl,_,rfl,_,ld (h.le _ _ (l2 _ _ (l1 _ _ b2))) rfl,?_⟩;refine (lO h (au _) m).mono ?_;rintro _ F3 ⟨G3,u,rfl,hu,l3,h⟩;refine ⟨u,rfl,?_⟩;refine h.var hu.st (λb3 G4 F4 l4 a6 h=> ?_) rfl hu.size;have a7:=aa l2 (aa l3 l4);have E4:=E1.le a7;have b0:=hu.le l4;obtain ⟨v,c9,c3⟩:=E4.step h.le (n,m);refine ⟨u,hu.size,ai (h.le _ _ a6),w,hw.size,ai (h.le _ _ (a7 _ _ q7)),_,rfl,_,ld (h.le _ _ E4.q4) rfl,v,c9,?_⟩;have hx:Sx k (ap2 bW d (T (n,m))):=hd.ap2 (o:=bW) (hT _);have hA:∀{g:PH},G4.le g->ν 109 #[nL w,nL v] g λr a0=>(∃y,r=pk #[nL y,U 0]/\DV a0 y (pg (ap2 bW d (T (n,m)))))/\g.le a0:=
   λl=>(pI hk hd (hT _) (hw.le (aa l1 (aa a7 l))) (c3.le l)).mono λr J ⟨x,a,b,c⟩=>⟨⟨x,a,b⟩,c⟩
  have hO:∀{g:PH} {y:Γ},G4.le g->DV g y (pg (ap2 bW d (T (n,m))))->ν 113 #[nL u,nL y] g λr a0=>(∃y,r=pk #[nL y,U 0]/\DV a0 y (pg (ap2 zS (W m) (ap2 bW d (T (n,m))))))/\g.le a0:=
   λl L=>(Bp hk (hv.sx m) hx (b0.le l) L).mono λr J ⟨x,a,b,c⟩=>⟨⟨x,a,b⟩,c⟩
  obtain ⟨b8,b5⟩:=hv.add hT hd (c7 m c5);have et:=bo hm;have fin:∀{g J:PH} {y w0:Γ} {C:Nat},w0.size=2->G4.le g->DV g y (pg (ap2 zS (W m) (ap2 bW d (T (n,m)))))->St g J (pt C (Y w0 33)::mS be G2 mr W::pt b19 (Y #[nE H] 76)::VA 3 H ((q++M).map U)::As)->
    aA J (ou C 0 I) 2 y λF=>ic N n (ou b18 0 I) (V (ou b4 0 I)) (V (ou b19 0 I)) b7 m b3 sn (i:Int) (V (ou C 0 I)) (λr J=>∃g R' M K,r=pk #[]/\G.le g/\Vis k keys T n d R R' M/\
     St g J (mS be g mr R'::pt b19 (Y #[nE K] 76)::VA 3 K ((q++M).map U)::As)) F:=λ{g J y w0 C} c8 l L h=>by
   refine h.put0 L.size c8 L.st λF5 h=> ?_;unfold ic;refine ⟨u,hu.size,ai (h.le _ _ (l _ _ a6)),_,rfl,y,L.size,ai (h.ptAt (i:=0) rfl),?_⟩;refine h.runv (nX (b0.le l) L (EB ((hv.sx m).small hk))) λG6 F6 A h=>⟨_,rfl,?_⟩;have kk:=(hv.sx m).ap2 (o:=zS) hx;have a4:=aa (aa l3 l4) (aa l A);refine ⟨λa5=> ?_,λhe=> ?_⟩
   ·have a5:ap2 zS (W m) (ap2 bW d (T (n,m)))≠W m:=λe=>by rw [e,ε rfl] at a5;cases a5
    refine ⟨_,ld (h.le _ _ (aa l2 a4 _ _ (l1 _ _ b2))) rfl,y,L.size,ai (h.ptAt (i:=0) rfl),?_⟩;obtain ⟨o,mp,m1,m2,m3⟩:=h.mS_at (i:=1) rfl;refine bh Iw m1 m2 m (nL y) λo' b6=> ?_;have h:=h.mS_set 1 rfl (G1:=G6) (S':=dV W m (ap2 bW d (T (n,m)))) b6 ((m3.le a4).put (L.le A));refine ⟨_,rfl,H,ld (h.ptAt (i:=2) rfl) rfl,?_⟩;have b9:H.len=(q++M).length:=by have:=(h.queAt (i:=3) rfl).len;rw [ub,xB] at this;exact this.symm
    rw [tT] at b9;refine h.newG λe1 G7 F7 O c2 _ h=> ?_;refine h.quePush TI 3 rfl (RdS.new (h.le _ _ c2) rfl rfl (qX _)) (by simp [ak]) (by omega) λs' F8 h e0=> ?_;refine h.set2 (w':= #[nE s']) (vx rfl) rfl λF9 h=> ?_;unfold pF;rw [aC a2];refine next _ a2 ⟨G7,_,M++[m],s',aa l2 (aa a4 O),by rw [tT,Uc];omega,by rw [et];exact b8 λe=>a5 (pJ.1 e),[pt C (Y y 33)],?_⟩;rw [<- xK,yT (l₁:=q++M)];exact (h.imp 1 rfl λ_ _ hH=>mS.le hH O).rot
   ·have e:ap2 zS (W m) (ap2 bW d (T (n,m)))=W m:=by
     have:decide (pg (W m)=pg (ap2 zS (W m) (ap2 bW d (T (n,m)))))=mY:=by simpa using he
     exact (xT (hv.sx m).1 kk.1 (ζ this)).symm
    unfold pF;rw [aC a2];refine next _ a2 ⟨G6,W,M,H,aa l2 a4,by omega,by rw [et];exact b5 (pJ.2 e),[pt C (Y y 33)],?_⟩;exact (h.imp 1 rfl λ_ _ hH=>mS.le hH a4).rot
  have Q:∀{g J:PH} {As:List (Ψ)},G4.le g->St g J As->J.cell (ou b4 0 I)=V (.map (V mt)):=λl h=>ld (h.le _ _ (E4.le l).q4) rfl;have a3:∀{g J:PH} {As:List (Ψ)},G4.le g->St g J As->J.row (ou b3 0 I) u:=λl h=>ai (h.le _ _ (l _ _ a6));refine ⟨?_,?_⟩
  ·refine h.run (hA (au _)) λ_ G5 F5 a8 B h=> ?_;obtain ⟨y,rfl,L⟩:=a8;refine ⟨_,_,rfl,Q B h,a3 B h,?_,?_⟩
   ·refine h.runv (cj L) λG6 F6 A h=>⟨_,rfl,Q (aa B A) h,a3 (aa B A) h,?_,?_⟩
    ·refine h.run (hO (aa B A) (L.le A)) λ_ G7 F7 P O h=> ?_;obtain ⟨z,rfl,X⟩:=P;have a1:=aa (aa B A) O;refine ⟨_,_,rfl,Q a1 h,?_,?_⟩
     ·refine h.runv (cj X) λG8 F8 D h=>⟨_,rfl,Q (aa a1 D) h,?_⟩;exact h.new λC F9 h=>fin rfl (aa a1 D) (X.le D) h
     ·refine h.new λC F8 h=> ?_;exact h.runv (cj X) λG8 F8 D h=>⟨_,rfl,Q (aa a1 D) h,fin rfl (aa a1 D) (X.le D) h⟩
    ·refine h.new λC F7 h=> ?_;refine h.run (hO (aa B A) (L.le A)) λ_ G7 F7 P O h=> ?_;obtain ⟨z,rfl,X⟩:=P;refine ⟨_,_,rfl,Q (aa (aa B A) O) h,?_⟩;exact h.runv (cj X) λG8 F8 D h=>⟨_,rfl,Q (aa (aa B A) (aa O D)) h,fin rfl (aa (aa B A) (aa O D)) (X.le D) h⟩
   ·refine h.new λC F6 h=> ?_;refine h.runv (cj L) λG6 F6 A h=>⟨_,rfl,Q (aa B A) h,a3 (aa B A) h,?_⟩;refine h.run (hO (aa B A) (L.le A)) λ_ G7 F7 P O h=> ?_;obtain ⟨z,rfl,X⟩:=P;refine ⟨_,_,rfl,Q (aa (aa B A) O) h,?_⟩;exact h.runv (cj X) λG8 F8 D h=>⟨_,rfl,Q (aa (aa B A) (aa O D)) h,fin rfl (aa (aa B A) (aa O D)) (X.le D) h⟩
  ·refine h.new λC F5 h=> ?_;refine h.run (hA (au _)) λ_ G5 F5 a8 B h=> ?_;obtain ⟨y,rfl,L⟩:=a8;refine ⟨_,_,rfl,Q B h,a3 B h,?_⟩;refine h.runv (cj L) λG6 F6 A h=>⟨_,rfl,Q (aa B A) h,a3 (aa B A) h,?_⟩;refine h.run (hO (aa B A) (L.le A)) λ_ G7 F7 P O h=> ?_;obtain ⟨z,rfl,X⟩:=P;refine ⟨_,_,rfl,Q (aa (aa B A) O) h,?_⟩;exact h.runv (cj X) λG8 F8 D h=>⟨_,rfl,Q (aa (aa B A) (aa O D)) h,fin rfl (aa (aa B A) (aa O D)) (X.le D) h⟩
 ·have e:i=(nx n).length:=by omega
  subst e;rw [wy] at hv;exact ⟨G2,W,M,H,rfl,aa l1 l2,⟨hv.sx,hv.le,hv.snd,λm c h1 h2=>hv.cpl m (hn m λe=>by rw [e] at h2;cases h2) c h1 h2,hv.pu,hv.mu⟩,h⟩
end
theorem RL.cut {α:Type} [Mem α] {G:PH} {s:Sl} {l:List α} {n k:Nat} (h:RL G s l) (w:Mem.n α=n) (A:k<=s.len):RL G (Sl.cut s n 0 k s.cap) (l.take k):=by subst w;obtain ⟨vs,g,hd⟩:=h;refine ⟨vs.take k,g.take k,?_⟩;have:=hd.cut (l:=0) (r:=k) (m:=s.cap) (by omega) A (by have:=hd.cap;omega);rw [V9,Vf,VP,g.cat_take] at this;exact this
section
variable {F G F1:PH} {b8 b9:Nat} {g:Gr} {c m t s p l f:Sl} {part:Nat} {d:vE} {kc kt kn kp:Nat} {tk:Tk} {pr:Pr}
structure KK (F G:PH) (g:Gr) (c m t s p l f:Sl) (b8:Nat):Prop where
 lF:F.le G
 hT:Tab G
 gs:GS G g c m t s p l f
 q8:G b8=V (Y (g.arr c m t s p l f) 39)
 mg:MG g
 bd:Bd g 18 10
theorem KK.le {w:PH} (h:KK F G g c m t s p l f b8) (r:G.le w):KK F w g c m t s p l f b8:=⟨aa h.lF r,h.hT.le r,h.gs.le r,r _ _ h.q8,h.mg,h.bd⟩
end
theorem RL.cutD {α:Type} [Mem α] {G:PH} {s:Sl} {l:List α} {n k:Nat} (h:RL G s l) (w:Mem.n α=n) (B:0<n) (A:k<=s.len):RL G (Sl.cut s n k s.len s.cap) (l.drop k):=by subst w;have C:=h.len B;obtain ⟨vs,g,hd⟩:=h;refine ⟨vs.drop k,g.drop k,?_⟩;have:=hd.cut (l:=k) (r:=s.len) (m:=s.cap) A (qX _) hd.cap;rw [g.cat_drop,zc (by rw [(g.drop k).cat_len,W6,C];exact qX _)] at this;exact this
theorem qcN:∃b z,SlT 61 130 2 b z:=⟨_,_,underlying61,Q2,Q4,rfl,by decide,by decide⟩
theorem yF:∀a b:Int×Int,gA a=gA b->a=b:=λa b h=>by
 injection h with h
 have h:=congrArg Array.toList h;simp at h;exact Prod.ext h.1 h.2
theorem yG:∀a b:Int,be a=be b->a=b:=λa b h=>by have h:(U a)=U b:=h;injection h
section
variable {κ:Type} [DecidableEq κ] {enc:κ->ξ} {G G0 G1 F:PH} {As:List (Ψ)} {m:Nat} {S S':κ->Tr} {K:List κ} {A:Ψ}
theorem St.mA_at (h:St G F As) {i:Nat} (hi:As[i]? =V A) (r:∀H,A H->mS enc G0 m S H):∃o mp,F m=V o/\dX enc mp o/\i7 G0 S mp:=by obtain ⟨H,B,_,D⟩:=h.get hi;obtain ⟨o,mp,w,g,C⟩:=r H B;exact ⟨o,mp,D _ _ w,g,C⟩
def mG (enc:κ->ξ) (K:List κ) (G:PH) (m:Nat) (S:κ->Tr):Ψ:=λH=>∃o mp,H m=V o/\yB enc mp o/\i7 G S mp/\∀n,mp n≠I->n∈K
theorem mG.mS {H:PH} (h:mG enc K G m S H):mS enc G m S H:=by obtain ⟨o,mp,r,w,g,_⟩:=h;exact ⟨o,mp,r,w.mapO,g⟩
theorem mG.le {H:PH} (h:mG enc K G0 m S H) (l:G0.le G1):mG enc K G1 m S H:=by obtain ⟨o,mp,r,w,g,B⟩:=h;exact ⟨o,mp,r,w,g.le l,B⟩
theorem St.mG_new (enc:κ->ξ) (K:List κ) (h:St G F (pt m (.map #[] 0)::As)):St G F (mG enc K G m (λ_=>qa6 mz)::As):=
 h.imp (A':=mG enc K G m (λ_=>qa6 mz)) 0 rfl λ_ _ g=>⟨_,_,g,yB.empty enc,i7.empty G,λ_ h=>absurd rfl h⟩
theorem St.mG_put {N:TypeId} {z:ξ} (O:fS prog N enc z) (E:∀a b,enc a=enc b->a=b) (h:St G F As) (i:Nat) (hi:As[i]? =V (mG enc K G0 m S)) (W:G0.le G) {n:κ} (r:n∈K) {w:Γ} {t:Tr} (Q:DV G w (pg t)) {C:Ψ}
  (k:∀J,St G J (As.set i (mG enc K G m (j9 S n t)))->C J):aG prog (Instr.mapUpdate N (.map (V m)) (enc n) (nL w)) F λ_ F=>C F:=by
 obtain ⟨H,⟨o,mp,D,X,P,a4⟩,b2,L,b4⟩:=h.set (A':=mG enc K G m (j9 S n t)) hi;refine FU O E (L _ _ D) X n (nL w) λM B=>k _ ?_;refine b4 (H.set m M) _ ⟨M,_,aq _ _ _,B,(P.le W).put Q,λx g=> ?_⟩ (λx g=> ?_) (λx p g=> ?_) (λx p g r=> ?_)
 ·by_cases e:x=n
  ·rw [e];exact r
  ·rw [Υ e] at g;exact a4 x g
 ·by_cases e:x=m
  ·rw [e,D];exact .inl (by simp)
  ·rw [aw _ _ e] at g;exact .inl g
 ·by_cases e:x=m
  ·rw [e,aq] at g ⊢;exact g
  ·rw [aw _ _ e] at g ⊢;exact L _ _ g
 ·have e:x≠m:=λe=>by rw [e,D] at r;cases r
  rw [aw _ _ e];exact g
end
section
variable {G G0 F:PH} {As:List (Ψ)} {m:Nat} {k:Nat} {A:Ψ}
theorem FY {S:Int×Int->Tr} (W:∀H,A H->mS gA G0 m S H) (h:St G F (A::As)) (Q:G0.le G) (n:Int×Int):
  ν 114 #[.map (V m),nL (B5 n)] F λr X=>∃C w,r=nL w/\DV C w (pg (S n))/\G.le C/\St C X (A::As):=by
 refine U1 ?_;unfold OD;refine h.new λb3 Fa h=> ?_;refine h.new λb4 O h=> ?_;refine ⟨_,rfl,ai (h.ptAt (i:=1) rfl),?_⟩;obtain ⟨o,mp,h1,L,h3⟩:=h.mA_at (i:=2) rfl W;have B:=bM (F:=O) RX h1 L n mY;rcases h3 n with ⟨D,E⟩|⟨w,D,E⟩
 ·rw [D] at B;refine ⟨_,_,B,?_⟩;refine h.new λN F2 h=> ?_;refine h.put0 (w':=zD) rfl rfl (by simp [ak]) λP h=>⟨λJ=>(by cases J),λ_=> ?_⟩;refine (h.call (gB mz)).mono ?_;rintro _ F4 ⟨C,⟨w,rfl,g,M⟩,h⟩;refine ⟨w,rfl,?_⟩;refine h.put1 (w':=w) g.size rfl g.st λK h=>⟨w,g.size,ai (h.ptAt (i:=1) rfl),?_⟩;exact ⟨C,w,rfl,by rw [E];exact g,M,h.tail.tail.tail⟩
 ·rw [D] at B;refine ⟨_,_,B,?_⟩;have g:=E.le Q;refine h.new λN F2 h=> ?_;refine h.put0 (w':=w) g.size rfl g.st λP h=>⟨λ_=>⟨w,g.size,ai (h.ptAt (i:=0) rfl),?_⟩,λJ=>(by cases J)⟩;refine h.put1 (w':=w) g.size rfl g.st λK h=>⟨w,g.size,ai (h.ptAt (i:=1) rfl),?_⟩;exact ⟨G,w,rfl,g,au _,h.tail.tail.tail⟩
end
section
variable {G F Gn:PH} {g:Gr} {k ms mn ban b4:Nat} {N:Int->Tr} {R:VR}
theorem qdt {q p:Sl} (hk:OkK g k) (hN:Sxs k N) (lN:Gn.le G) (hl:∀x∈g.qa0,x.right.length<=1000000) (hp:g.qa0.length<=1000000) (f4:RL G p g.qa0) (qa:∃c n t s p l f,G ban=V (Y (Y1 g c n t s p l f q) 207)) (hq:RL G q (tV g g.qa0.length))
  (q4:G b4=V (Y #[.map (V ms)] 211)) (h:St G F [mG gA (iQ g.qa0) G ms (λ_=>qa6 mz),mS be Gn mn N])
  (fin:∀A J,G.le A->St A J [mG gA (iQ g.qa0) A ms (tX N (bI g) 0 g.qa0 λ_=>qa6 mz)]->vV (V (ou ban 0 I)) b4 R J):
  Lp (0:Int) F λN v F=>vX N (ou ban 0 I) (V mn) b4 p R v F:=by
 obtain ⟨_,_,T⟩:=qcN;obtain ⟨c',n',t',s',p',l',f',qa⟩:=qa;have ep:=f4.len;have eq:=hq.len;rw [rq] at eq
 refine bC (vX · (ou ban 0 I) (V mn) b4 p R) g.qa0.length (λi J=>∃(A:PH) (S:Int×Int->Tr),G.le A/\Sxs k S/\(tX N (bI g) 0 g.qa0 λ_=>qa6 mz)=tX N (bI g) i (g.qa0.drop i) S/\
  St A J [mG gA (iQ g.qa0) A ms S,mS be Gn mn N]) ⟨G,_,au _,λ_=>Sx.qa6 k mz,by rw [Vf],h⟩ ?_
 rintro i F1 N1 hi ⟨G1,S1,l1,g3,X,h⟩ next;unfold vX;refine ⟨λb5=> ?_,λh5=> ?_⟩
 ·have b5:i<g.qa0.length:=by omega
  refine h.ix (f4.le l1) (by decide) (by omega) (by omega) λa c6 x hx e3 a6=>⟨c6,Mem.len a6,e3,?_⟩;rw [N4] at hx;have f5:=vQ hx;have j5:=hl x f5;have d1:g.qa0.drop i=x::g.qa0.drop (i+1):=fG hx;refine h.var (Mem.st a6) (λb6 G2 F2 l2 q6 h=> ?_) rfl (Mem.len a6);obtain ⟨r,n6,l6,rfl,hr,j3,_⟩:=a6;have f7:=aa l1 l2;have a5:=hr.le l2;have er:=a5.len;have h1:=a5.cap;refine ⟨_,ld (h.le _ _ q6) rfl,?_⟩
  refine bC (Bo N1 · (ou ban 0 I) (V mn) b4 (i:Int) b6 p r R) x.right.length (λj J=>∃(A:PH) (D:Int×Int->Tr),G2.le A/\Sxs k D/\rA N (bI g i) x 0 x.right S1=rA N (bI g i) x j (x.right.drop j) D/\
   ∃Bs,St A J ([mG gA (iQ g.qa0) A ms D,mS be Gn mn N]++Bs)) ⟨G2,S1,au _,g3,by rw [Vf],[],h.imp 0 rfl λ_ _ hH=>mG.le hH l2⟩ ?_
  rintro j F3 N2 hj ⟨G3,D,l3,a2,E,Bs,h⟩ Q;replace h:St G3 F3 [mG gA (iQ g.qa0) G3 ms D,mS be Gn mn N]:=h.pick id (λ_ _ _ _ e=>e) λi hi=>by rw [id,zR hi]
  unfold Bo;refine ⟨λa3=> ?_,λi3=> ?_⟩
  ·have a3:j<x.right.length:=by omega
   refine t6 (a5.le l3) (by decide) (by omega) (by omega) λa8 c8 sy c7 c5 f1=>⟨c8,Mem.len f1,aN h.le c5,?_⟩;rw [N4] at c7;obtain rfl:c8=sy.arr:=f1;have e9:x.right.drop j=sy::x.right.drop (j+1):=fG c7;refine h.var (by simp [ak]) (λb8 G4 F4 l4 q8 h=>⟨_,ld (h.le _ _ q8) rfl,λB=> ?_,λB=> ?_⟩) rfl rfl
   ·have B:sy.t=mY:=B;unfold nD;rw [aC a3];refine Q _ a3 ⟨G4,D,aa l3 l4,a2,?_,[],h.imp 0 rfl λ_ _ hH=>mG.le hH l4⟩;rw [E,e9];show rA N (bI g i) x (j+1) _ (if sy.t=mY then D else _)=_;rw [Χ B]
   ·have B:sy.t=mz:=B;have d2:=aa l3 l4;have L:=d2 _ _ q6;have e2:=a5.le d2;have e7:i64.wrap ((j:Int)+1)=((j+1:Nat):Int):=aC a3;refine ⟨_,ld (h.le _ _ L) rfl,by omega,by omega,by rw [N4];omega,_,ld (h.le _ _ L) rfl,?_⟩;dsimp only;rw [e7];refine ⟨by omega,by rw [N4];omega,h1,?_⟩;simp only [N4];obtain ⟨v1,f6,g4⟩:=e2.cut (n:=2) rfl (k:=j) (by omega);obtain ⟨v2,f9,g1⟩:=e2.cutD (n:=2) rfl (by decide) (k:=j+1) (by omega);refine h.new λg8 F5 h=> ?_;have h:=h.imp (A':=own (ua (V (ou g8 0 I)) 0 0) 130 2 []) 0 rfl λH _ hH=>jD hH;have c3:(Sl.cut r 2 0 j r.cap).len=j:=by unfold Sl.cut;dsimp only;omega
    have e5:(Sl.cut r 2 (j+1) r.len r.cap).len=r.len - (j+1):=rfl;refine h.app0 T (g4.le h.le) f6.st (by rw [c3];show 0+j<=_;omega) λs1 F6 h e6=> ?_;rw [zE] at h;refine ⟨ld (h.le _ _ L) rfl,ld (h.le _ _ L) rfl,?_⟩;have e6:s1.len=0+j:=by rw [e6,c3]
    refine h.app0 T (g1.le h.le) f9.st (by rw [e5];omega) λs2 F7 h j4=> ?_;refine ⟨ld (h.le _ _ L) rfl,ld (h.le _ _ L) rfl,?_⟩;obtain ⟨G5,l5,h3,h⟩:=h.pinO;have a4:RL G5 s2 (x.right.eraseIdx j):=by rw [List.eraseIdx_eq_take_drop_succ];refine ⟨v1++v2,(f6.le l5).append (f9.le l5),?_⟩;rw [ba];exact h3
    have g7:(x.right.eraseIdx j).length<=1000000:=by have:=List.length_eraseIdx_le x.right j;omega
    have i4:=a4.len;have b0:=aa f7 (aa d2 l5);refine ⟨_,by rw [aI];exact ld (h.le _ _ (b0 _ _ qa)) rfl,?_⟩;refine t6 (hq.le b0) (by decide) (by omega) (by omega) λa9 c9 dd K d3 b2=>⟨c9,Mem.len b2,aN h.le d3,?_⟩;rw [N4] at K;have K:dd=pg (bI g i):=by unfold tV at K;rw [yc,Xz b5] at K;exact (yC K).symm
    have b2:DV G5 c9 (pg (bI g i)):=by rw [<- K];exact b2
    refine (uo h.swap (aa lN b0) hk.le hN (hk.prs i) b2 a4 g7).mono ?_;rintro _ F8 ⟨G6,u,rfl,hu,l6,h⟩;have h:=h.swap;refine ⟨u,rfl,?_⟩;refine h.new λb7 F9 h=> ?_;refine h.put0 (w':=u) hu.size rfl hu.st λh9 h=> ?_;obtain ⟨j1,_⟩:=cM hN (x.right.eraseIdx j) (hk.prs i);obtain ⟨d0,_⟩:=ig hN (hk.prs i) x.right j;have h7:=aa l5 l6
    refine bC (Bn N1 N2 · (ou ban 0 I) (V mn) b4 (i:Int) b6 b8 b7 p r (j:Int) s2 R) (x.right.eraseIdx j).length (λe J=>∃(A:PH) (y:Γ),G6.le A/\
     DV A y (pg (if ((x.right.eraseIdx j).take e).any (·.t)=mY then qa6 mz else fj N (bI g i) (x.right.eraseIdx j)))/\St A J [pt b7 (Y y 33),mG gA (iQ g.qa0) G3 ms D,mS be Gn mn N]) ⟨G6,u,au _,by rw [Am];exact hu,h⟩ ?_
    rintro e i0 N3 he ⟨G7,y,l7,hy,h⟩ M;unfold Bn;have a7:=aa l6 l7;refine ⟨λa0=> ?_,λj6=> ?_⟩
    ·have a0:e<(x.right.eraseIdx j).length:=by omega
     refine t6 (a4.le a7) (by decide) (by omega) (by omega) λh6 e8 sz e4 b1 b9=>⟨e8,Mem.len b9,aN h.le b1,?_⟩;rw [N4] at e4;obtain rfl:e8=sz.arr:=b9;have et:=bo e4;refine h.var (by simp [ak]) (λi2 G8 g5 l8 g2 h=>⟨_,ld (h.le _ _ g2) rfl,λC=> ?_,λC=> ?_⟩) rfl rfl
     ·have C:sz.t=mY:=C;refine (h.call (gB mz)).mono ?_;rintro _ g9 ⟨G9,⟨w,rfl,hw,l9⟩,h⟩;refine ⟨w,rfl,?_⟩;refine h.put0 (w':=w) hw.size hy.size hw.st λh4 h=> ?_;unfold vW;rw [aC a0];refine M _ a0 ⟨G9,w,aa l7 (aa l8 l9),?_,h⟩;rw [et,List.any_append,List.any_cons,C,Bool.true_or,Bool.or_true,Χ rfl];exact hw
     ·have C:sz.t=mz:=C;unfold vW;rw [aC a0];refine M _ a0 ⟨G8,y,aa l7 l8,?_,h⟩;rw [et,List.any_append,List.any_cons,C,List.any_nil,Yp,Yp];exact hy.le l8
    ·have he:e=(x.right.eraseIdx j).length:=by omega
     subst he;rw [wy] at hy;have hy:DV G7 y (pg (nF N (bI g i) x.right j)):=hy;have O:=aa l4 (aa l5 a7);have go:∀{A J:PH} {Bs:List (Ψ)},G7.le A->St A J ([mG gA (iQ g.qa0) A ms (dV D (x.left,sy.i) (nF N (bI g i) x.right j)),mS be Gn mn N]++Bs)->nD N1 N2 (ou ban 0 I) (V mn) b4 (i:Int) b6 p r (j:Int) R J:=λ{A J Bs} l h=>by unfold nD;rw [e7];refine Q _ a3 ⟨A,_,aa l3 (aa O l),pS a2 d0,?_,Bs,h⟩;rw [E,e9];show rA N (bI g i) x (j+1) _ (if sy.t=mY then D else _)=_;rw [B,Υ YK]
     unfold Iv;obtain ⟨sd,ey,_⟩:=id hy;have g6:=aa (aa l3 O) (au _) _ _ q6;refine ⟨_,ld (h.ptAt (i:=0) rfl) (by rw [ey];rfl),λh0=> ?_,λh0=> ?_⟩
     ·refine ⟨_,ld (h.le _ _ g6) rfl,_,ld (h.le _ _ (aa l5 a7 _ _ q8)) rfl,?_⟩;refine h.var (by simp [ak]) (λj2 G8 g5 l8 e1 h=> ?_) rfl rfl;have h2:=aa b0 (aa a7 l8);have c4:=h2 _ _ q4;have key:(x.left,sy.i)∈iQ g.qa0:=XV.2 ⟨x,f5,w9.2 ⟨sy,vQ c7,rfl⟩⟩;refine ⟨_,ld (h.le _ _ c4) rfl,_,rfl,ai (h.le _ _ e1),_,ld (h.le _ _ c4) rfl,_,rfl,ai (h.le _ _ e1),y,hy.size,ai (h.ptAt (i:=0) rfl),?_⟩;refine (FY (λH hH=>mG.mS hH) h.swap (aa O l8) (x.left,sy.i)).mono ?_;rintro _ g9 ⟨G9,w,rfl,hw,l9,h⟩;have h:=h.swap;have W:=l9 _ _ e1;have d4:=l9 _ _ c4;refine ⟨w,rfl,ai (h.ptAt (i:=0) rfl),ai (h.le _ _ W),ld (h.le _ _ d4) rfl,?_⟩;refine h.run (P:=λr' A=>∃z,r'=pk #[nL z,U 0]/\DV A z (pg (ap2 zS (D (x.left,sy.i)) (nF N (bI g i) x.right j)))) ((Bp hk.le (a2 _) d0 hw (hy.le (aa l8 l9))).mono λr J ⟨x,a,b,c⟩=>⟨⟨x,a,b⟩,c⟩) λ_ j0 h4 f3 a1 h=> ?_;obtain ⟨z,rfl,hz⟩:=f3;refine ⟨_,_,rfl,ai (h.le _ _ (a1 _ _ W)),ld (h.le _ _ (a1 _ _ d4)) rfl,?_⟩;refine h.runv (cj hz) λi1 h8 b3 h=>⟨_,rfl,ai (h.le _ _ (b3 _ _ (a1 _ _ W))),ld (h.le _ _ (b3 _ _ (a1 _ _ d4))) rfl,?_⟩;have c2:=aa l8 (aa l9 (aa a1 b3));refine h.mG_put RX yF 1 rfl (aa O c2) key (hz.le b3) λi5 h=> ?_;exact go (Bs:=[pt b7 (Y y 33)]) c2 h.rot
     ·have e0:nF N (bI g i) x.right j=qa6 mz:=(i8 d0.1).1 (by simpa using h0);refine go (Bs:=[pt b7 (Y y 33)]) (au _) ?_;rw [e0,kN a2];exact (h.imp 1 rfl λ_ _ hH=>mG.le hH O).rot
  ·have hj:j=x.right.length:=by omega
   subst hj;rw [XW] at E;have E:rA N (bI g i) x 0 x.right S1=D:=E;unfold Iu;rw [aC b5];refine next _ b5 ⟨G3,D,aa f7 l3,a2,?_,h⟩;rw [X,d1];show tX N (bI g) (i+1) _ (rA N (bI g i) x 0 x.right S1)=_;rw [E]
 ·have e:i=g.qa0.length:=by omega
  subst e;rw [XW] at X;have X:(tX N (bI g) 0 g.qa0 λ_=>qa6 mz)=S1:=X;refine fin G1 F1 l1 ?_;rw [X];exact h.hd
end
theorem gx {α:Type} {F:PH} (L:(α->Ω)->α->Ω) (n:Nat) (Inv:Nat->α->Ψ) (B:α) (E:Inv 0 B F)
  (step:∀(k:Nat) (x:α) (F:PH) (N:α->Ω),k<=n->Inv k x F->(∀h g,k<n->Inv (k+1) h g->N h ((k+1:Nat):Int) g)->L N x (k:Int) F):
  ∃(r:Nat->α->Ω) (m:Nat),r m B (0:Int) F/\∀m x v F,r m x v F->L (λy z F=>∃A,A<m/\r A y z F) x v F:=by
 refine ⟨λm x i g=>∃k:Nat,i=k/\k<=n/\m=n - k/\Inv k x g,n,⟨0,rfl,by omega,rfl,E⟩,?_⟩;rintro m x i g ⟨k,rfl,C,rfl,hi⟩;exact step k x g _ C hi λh G D w=>⟨n - (k+1),by omega,k+1,rfl,by omega,rfl,w⟩
theorem St.ownPut {G F:PH} {As:List (Ψ)} {s:Sl} {e n:Nat} {vs:Ξ} (h:St G F As) (i:Nat) (hi:As[i]? =V (own s e n vs)) {a:Addr} (B:s.qa5=V a) {j:Nat} {v:ξ} (X:j<vs.length) {K:Ψ}
  (k:∀J,St G J (As.set i (own s e n (vs.set j v)))->K J):qW F (a.add j) v K:=by
 obtain ⟨H,N,a2,E,P⟩:=h.set (A':=own s e n (vs.set j v)) hi;rcases N with ⟨rfl,_⟩|⟨b,w,L,A,W,C,M,Q⟩
 ·cases B
 ·rw [L] at B;cases B;have O:s.len*n<=s.cap*n:=Xj _ C;rw [aI,ye];refine ⟨w,e,E _ _ A,rfl,by show j<_;omega,?_⟩;refine tR (k _ (P (H.set b (Y (w.setIfInBounds j v) e)) _ (.inr ⟨b,_,L,aq _ _ _,by rw [Array.size_setIfInBounds,W],C,by rw [Yn,M],?_⟩) (λx r=> ?_) (λx p r=> ?_) λx p r D=> ?_))
  ·rw [Array.toList_setIfInBounds,<- Q,List.take_set]
  ·by_cases g:x=b
   ·rw [g,A];exact .inl (by simp)
   ·rw [aw _ _ g] at r;exact .inl r
  ·by_cases g:x=b
   ·rw [g,aq] at r ⊢;exact r
   ·rw [aw _ _ g] at r ⊢;exact E _ _ r
  ·have g:x≠b:=λg=>by rw [g,A] at D;cases D
   rw [aw _ _ g];exact r
theorem IB {s:Sl} {e n k:Nat} {vs:Ξ} {H:PH} (h:own s e n vs H) (r:k<=s.len):own (Sl.cut s n 0 k s.cap) e n (vs.take (k*n)) H:=by
 rcases h with ⟨rfl,rfl⟩|⟨b,g,w,C,B,G,D,E⟩
 ·have:k=0:=Nat.le_zero.1 r;subst this;exact .inl ⟨rfl,by simp⟩
 ·refine .inr ⟨b,g,?_,C,B,by show k - 0<=s.cap - 0;omega,?_,?_⟩
  ·unfold Sl.cut;by_cases A:s.cap=0
   ·rw [Χ A];exact w
   ·rw [Υ A,w,V9];rfl
  ·have:=Xj n r;rw [zZ,D];show min (k*n) _=(k - 0)*n;rw [VP];omega
  ·show g.toList.take ((k - 0)*n)=_;rw [VP,<- E,List.take_take,X2 (Xj n r)]
instance:Mem (Nat×List Sy) where
 n:=2
 rep F x c:=∃r:Sl,c= #[U (x.1:Int),r.v]/\RL F r x.2
 len h:=by obtain ⟨r,rfl,_⟩:=h;rfl
 le hl h:=by obtain ⟨r,h1,h2⟩:=h;exact ⟨r,h1,h2.le hl⟩
 st h:=by obtain ⟨r,rfl,_⟩:=h;simp [ak,nE]
def rC (g:Gr) (fs:List (Nat×List Dtr)):List (Nat×List Sy):=(fs.map λx=>(x.1,x.2.map (XD g))).reverse
theorem nG (g:Gr) (x:Nat×List Dtr) (fs:List (Nat×List Dtr)):rC g (x::fs)=rC g fs++[(x.1,x.2.map (XD g))]:=by unfold rC;simp
theorem eV (g:Gr) (fs:List (Nat×List Dtr)):(rC g fs).length=fs.length:=by unfold rC;simp
theorem qgr:∃b z,SlT 219 223 2 b z:=⟨_,_,underlying219,qfw,qfC,rfl,by decide,by decide⟩
theorem qgs:aF prog 81=mY:=by kernel_rfl
section
variable {F G:PH} {g:Gr} {c:Dtr}
theorem FZ {v:Γ} (hg:GV F v g) (P:Gt g c):ν 118 #[nL v,U c.root.pr,U c.root.tk] F λr Q=>r=nL (XD g c).arr/\F.le Q:=by
 obtain ⟨cs,n,t,s,p,l,f,rfl,K⟩:=hg;refine qdC ?_;unfold OK;refine (St.start F).newG λb3 G1 F1 B q3 _ h=> ?_;refine h.new λb6 F2 h=> ?_;have C:=K.le B;cases c with
 |lf M W to=>refine ⟨λ_=> ?_,λE=>absurd (by show (-1:Int)<0;decide) E⟩;refine h.put0 (w':= #[nS mY,U M]) rfl rfl (by simp [ak]) λO h=>⟨_,rfl,ai (h.ptAt (i:=0) rfl),rfl,aa B h.le⟩
 |nd A W to ks=>obtain ⟨_,_,x,L,_⟩:=P;obtain ⟨J,x1,N⟩:=bA L;have ep:=K.p.len;refine ⟨λE=>absurd J (by show ¬(0:Int)<=A;exact Int.not_le.2 E),λ_=> ?_⟩;refine ⟨p,ld (h.le _ _ q3) rfl,?_⟩;refine t6 C.p (by decide) J (by show A<_;omega) λa cc H D w X=> ?_;obtain rfl:H=x:=yC (D.symm.trans N);obtain ⟨r,n2,l2,rfl,_⟩:=X;refine ⟨_,aM (aN h.le w) (i:=1) rfl,?_⟩;refine h.put0 (w':= #[nS mz,U H.left]) rfl rfl (by simp [ak]) λO h=>⟨_,rfl,ai (h.ptAt (i:=0) rfl),?_,aa B h.le⟩;show nL _=nL (⟨mz,((VD g A).map Pr.left).getD 0⟩:Sy).arr;rw [L];rfl
theorem IC {b2 O i:Nat} {t:Sl} {cs n E s p l f:Sl} {L:List Nod} (q3:F O=V (Y #[t.v] 43)) (q2:F b2=V (Y (g.arr cs n E s p l f) 39)) (X:GS F g cs n E s p l f) (P:RL F t L) (hx:L[i]? =V c.root) (Q:Gt g c):
  ν 81 #[U (i:Int),Pp O,Pp b2] F λr F'=>r=pk #[U c.root.pr,U c.root.tk,nS mY]/\F.le F':=by
 have et:=P.len;have hi:=(N6.1 hx).1;have a0:=X.t.len;have ep:=X.p.len;refine qgC ?_;unfold Vu;refine ⟨_,rfl,t,ld q3 rfl,?_⟩;refine t6 P (by decide) (by omega) (by omega) λa cc x' B C hc=> ?_;rw [N4,hx] at B;obtain rfl:=yC B;obtain rfl:cc=c.root.arr:=hc;refine ⟨_,rfl,C,?_⟩;refine (St.start F).var (by simp [ak]) (λb7 G1 F1 l1 q7 h=> ?_);have w:=h.le _ _ q7;have D:=aa l1 h.le;refine ⟨_,ld w rfl,?_⟩;cases c with
 |lf J K to=>obtain ⟨f1,f2,M,H⟩:=Q;refine ⟨λ_=>⟨_,ld w rfl,_,ld w rfl,λ_=>⟨_,ld w rfl,_,rfl,E,ld (D _ _ q2) rfl,λ_=>⟨_,ld w rfl,λ_=>⟨_,ld w rfl,_,ld w rfl,?_,D⟩,λA=>absurd M A⟩,λA=>absurd (by show J<_;omega) A⟩,λA=>absurd f1 A⟩,λA=>absurd rfl A⟩;show pk #[_,_,nS (decide (K<to))]=_;rw [ε H];rfl
 |nd pr K to ks=>
  obtain ⟨M,H,x,N,_⟩:=Q;obtain ⟨W,x1,x2⟩:=bA N;refine ⟨λA=> ?_,λ_=>⟨_,ld w rfl,_,ld w rfl,_,ld w rfl,λ_=>⟨_,ld w rfl,_,rfl,p,ld (D _ _ q2) rfl,λ_=>⟨_,ld w rfl,λ_=>⟨_,ld w rfl,λ_=>⟨_,ld w rfl,_,ld w rfl,?_,D⟩,λA=>absurd M A⟩,λA=>absurd rfl A⟩,λA=>absurd (by show pr<_;omega) A⟩,λA=>absurd W A⟩⟩
  ·subst A;exact absurd W (by decide)
  ·show pk #[_,_,nS (decide (K<=to))]=_;rw [ε H]
end
end
open Go.RowKit Go.Shelf
section
attribute [local go_sem] Oper.semAt_some
def gH {α:Type} (f:Nat->α) (k:Nat):List α:=(List.range k).map f
theorem nH {α:Type} (f:Nat->α) (k:Nat):gH f (k+1)=gH f k++[f k]:=by unfold gH;simp [YM]
theorem lP {α:Type} (f:Nat->α) (k:Nat):(gH f k).length=k:=by unfold gH;simp
def ZV (e:Ev) (F:PH) (A B:World):Prop:=Sat e A F->Sat e B F
theorem jy {i:Nat} {ks:List Dtr}:bV i ks ks.length=i+1+xv ks:=by unfold bV;rw [wy]
theorem Dq {T m c:Dtr} {i k:Nat} (h:bK T i=V m) (g:m.kids[k]? =V c):(VI 0 T)[bV i m.kids k]? =V (bV i m.kids (k+1)):=by rw [Je (ip h g),gM g,ye]
theorem we {T m:Dtr} {i:Nat} (h:bK T i=V m):(VI 0 T)[i]? =V (bV i m.kids m.kids.length):=by rw [Je h,jy,cL];congr 1;omega
theorem pK {i:Nat} {ks:List Dtr} (k:Nat):bV i ks k<=i+1+xv ks:=by have:=congrArg xv (WI k ks);rw [kY] at this;unfold bV;omega
theorem pL {i k:Nat} {ks:List Dtr} (g:k<ks.length):bV i ks k<i+1+xv ks:=by have h:=gM (i:=i) (N5 g);have:=pK (i:=i) (ks:=ks) (k+1);have:=gb ks[k];omega
theorem rD {e:Ev} {w W:World} {F:PH} (h:Sat e w F) (r:Below w.heap.size w W):Sat e W F:=by have key:∀b o,w.heap[b]? =V o->W.heap[b]? =V o:=λb o g=>(r.block b (XX.1 g).1).trans g;exact ⟨r.os.trans h.os,r.tape.trans h.tape,r.output.trans h.output,λb o g=>key b o (h.heap b o g),λb o g=>⟨(h.frame b o g).1,key b o (h.frame b o g).2⟩⟩
abbrev U5 (T:Dtr):Φ:=(VI 0 T).map Int.ofNat
section
variable {e:Ev} {F1:PH} {T m:Dtr} {i b2 b3:Nat} {s:Sl}
theorem lQ (g:RL F1 s (U5 T)) {j v:Nat} (h:(VI 0 T)[j]? =V v):∃b o,s.qa5=V ⟨b,o,I⟩/\(j:Int)<(s.len:Int)/\F1.cell ⟨b,o+j,I⟩=V (U (v:Int)):=by
 have A:(U5 T)[j]? =V (v:Int):=by unfold U5;rw [yc,h];rfl
 have J:=g.len;have E:=(N6.1 A).1;obtain ⟨a,c,B,D,F⟩:=g.get (by decide) A;obtain rfl:c= #[U (v:Int)]:=F;have r:=aE D rfl;obtain ⟨b,o,G,hF⟩:∃b o,a=⟨b,o,I⟩/\True:=by obtain ⟨vs,H,C⟩:=g;obtain ⟨b,o,w,_⟩:=C.cells (by omega);rw [B] at w;exact ⟨b,o,yC w,trivial⟩
 subst G;refine ⟨b,o,B,by omega,?_⟩;rw [show (Mem.n Int)=1 from rfl,xB,aI] at r;exact r
set_option maxRecDepth 100000 in
set_option maxHeartbeats 2000000 in
theorem ID (F:Fence) (n:Nat) (Q:F.fn 84) (L:F.round=I) (hn:1<=n) (l:Nat) (H:bK T i=V m) (hT:szN T<=2000000) (q2:F1 b2=V (Y #[s.v] 76)) (q3:F1 b3=V (Y #[U (i:Int)] 3)) (hs:RL F1 s (U5 T)) {α:Type} (enc:α->Nat) (f:Nat->α) (hf:∀k,k<m.kids.length->enc (f k)=bV i m.kids k) (A Jx:List α->World->Prop)
  (hY:∀(pre:List α) (x:α) W,A pre W->pre.length<m.kids.length->YieldAt F (n - 1) prog l #[U ((enc x:Nat):Int)] W λen r=>
   (en=.returned (nS mY)/\A (pre++[x]) r/\ZV e F1 W r)\/(en=.returned (nS mz)/\Jx (pre++[x]) r))
  (W:World) (hW:Sat e W F1) (h0:A [] W):
  CallsIn F n prog 84 #[.func (.yield l) #[] #[],ph (V ⟨b3,0,I⟩),ph (V ⟨b2,0,I⟩)] W λen r=>(∃v,en=.returned v)/\
   ((∃ys,ys=gH f m.kids.length/\A ys r)\/(∃pre,(∃k,k<=m.kids.length/\pre=gH f k)/\Jx pre r)):=by
 have a7:=d5 H;have a4:W.cell? ⟨b3,0,I⟩=V (U (i:Int)):=hW.cell (ld q3 rfl);refine callsIn_of_wp func84 rfl Q ?_ L;simp only [ntmps84,XB,wc,W7,Nat.reduceAdd,Nat.reduceSub,Array.replicate_succ,Array.replicate_zero,List.push_toArray,Yf,zE,zK];have hw:i64.wrap ((i:Int)+1)=((i+1:Nat):Int):=aC (n:=3000000) (by omega) (by omega)
 gi_wp2
 gi_loopw [4] (λp wr=>∃k:Nat,k<=m.kids.length/\p=U ((bV i m.kids k:Nat):Int)/\A (gH f k) wr/\Sat e wr F1)
  (λp _=>3000000 - (intOf p).toNat)
 case atStart=>exact ⟨0,yv _,by simp [bV,dH],h0,hW⟩
 case round=>
  obtain ⟨k,hk,rfl,B,G⟩:=hrel;have c3:wr.cell? ⟨b3,0,I⟩=V (U (i:Int)):=G.cell (ld q3 rfl);have a5:=pK (i:=i) (ks:=m.kids) k;have P:=sub_le H;rw [cL] at P;obtain ⟨b,o,hb,w,N⟩:=lQ hs (we H);have a8:wr.cell? ⟨b,o+i,I⟩=V (U ((bV i m.kids m.kids.length:Nat):Int)):=G.cell N;obtain ⟨R,len,cap⟩:=s;obtain rfl:R=_:=hb;have c2:wr.cell? ⟨b2,0,I⟩=V (tS (V ⟨b,o,I⟩) len cap):=G.cell (ld q2 rfl);have a1:i<len:=by have:(i:Int)<(len:Int):=w;omega
  have M:=jy (i:=i) (ks:=m.kids);by_cases g:k<m.kids.length
  ·have a6:=pL (i:=i) g;obtain ⟨fn,a0,J,a2,hy,hR⟩:=hY _ (f k) wr B (by rw [lP];exact g);rw [hf k g] at hy
   gi_wp2
   refine hR.mono ?_;rintro en W3 (⟨rfl,K,X⟩|⟨rfl,C⟩)
   ·have h:=X G;have d2:W3.cell? ⟨b2,0,I⟩=V (tS (V ⟨b,o,I⟩) len cap):=h.cell (ld q2 rfl);obtain ⟨b',o',O,E,D⟩:=lQ hs (Dq H (N5 g));cases O;have a3:bV i m.kids k<len:=by have:((bV i m.kids k:Nat):Int)<(len:Int):=E;omega
    have d3:W3.cell? ⟨b,o+bV i m.kids k,I⟩=V (U ((bV i m.kids (k+1):Nat):Int)):=h.cell D;have e1:=gM (i:=i) (N5 g);have e2:=gb m.kids[k];have e3:=pK (i:=i) (ks:=m.kids) (k+1)
    gi_wp2
    go_roundw
    case rel=>exact ⟨k+1,by omega,by simp [e1],by rw [nH];exact K,h⟩
    case measure=>simp [intOf];omega
   ·gi_wp2
    refine bodyPost_ret (results_none rfl _ _ _) rfl ?_;exact ⟨⟨_,rfl⟩,.inr ⟨_,⟨k+1,by omega,(nH _ _).symm⟩,C⟩⟩
  ·obtain rfl:k=m.kids.length:=by omega
   gi_wp2
   go_end0
   exact ⟨⟨_,rfl⟩,.inl B⟩
theorem rE (l:World) (C:Sat e l F1) (w:bK T i=V m) (G:szN T<=2000000) (q2:F1 b2=V (Y #[s.v] 76)) (q3:F1 b3=V (Y #[U (i:Int)] 3)) (J:RL F1 s (U5 T)) {α:Type} (enc:α->Nat) (f:Nat->α) (F:∀k,k<m.kids.length->enc (f k)=bV i m.kids k) {n:Nat} (h:1<=n):
  SeqStopsK Fence.wide n prog 84 #[ph (V ⟨b3,0,I⟩),ph (V ⟨b2,0,I⟩)] (λx:α=> #[U ((enc x:Nat):Int)]) (ZV e F1) (λD=>D=gH f m.kids.length) (λpre=>∃k,k<=m.kids.length/\pre=gH f k) m.kids.length l:=λr E g W B _ _ H A=>
 ID Fence.wide n trivial rfl h r w G q2 q3 J enc f F E g H W (rD C B) A
end
section
variable {F G:PH} {g:Gr} {L:List Nod} {T:Δ} {N:Nat}
def X8 (g:Gr) (L:List Nod) (T:Δ) (N:Nat) (es:Sl) (G0:PH) (top:Bool) (j:Nat) (st:Sl) (F':PH):Prop:=
 ∃(G':PH) (fs:List (Nat×List Dtr)) (vs:List Γ) (E:Φ),G0.le G'/\St G' F' [own st 223 2 (tZ vs),own es 3 1 (E.map U)]/\bS G' (rC g fs) vs/\(st.len=fs.length/\fs.length<=j)/\E.length=N/\
  (∀q v,q<j->(∀x∈fs,q≠x.1)->T[q]? =V v->E[q]? =V (v:Int))/\(if j=0 then fs=[] else WX g L T N j fs)/\(top=mY->∀x ks r,fs=(x,ks)::r->ks≠[])
theorem Dr {fs:List (Nat×List Dtr)} {vs:List Γ} {x:Nat} {ks:List Dtr} (h:bS G (rC g ((x,ks)::fs)) vs):∃(us:List Γ) (r:Sl),vs=us++[#[U (x:Int),r.v]]/\RL G r (ks.map (XD g))/\bS G (rC g fs) us/\us.length=fs.length:=by rw [nG] at h;have B:=h.length;rw [tT,eV,Uc] at B;have w:=h.take fs.length;rw [Xh (by rw [eV];exact qX _),zc (by rw [eV];exact qX _)] at w;obtain ⟨c,A,⟨r,rfl,C⟩,_⟩:=h.get (i:=fs.length) (x:=(x,ks.map (XD g))) (by rw [UR (by rw [eV];exact qX _),eV,XL];rfl);refine ⟨vs.take fs.length,r,?_,C,w,by rw [zZ];omega⟩;have:=(WI fs.length vs).symm;rw [Xi (by omega),Ye (by omega),(N6.1 A).2] at this;exact this
theorem IE {b1:Nat} {A:Sl} {N1:Sl->Ω} {R:VR} {j:Nat} {F2:PH} {st:Sl} (hN:N<=2000000) (hj:j<N) (b0:T.length=N) (G0:PH) (h:X8 g L T N A G0 mz (j+1) st F2) {n0:Int}
  (next:∀Q F',X8 g L T N A G0 mY (j+1) Q F'->N1 Q ((j+1:Nat):Int) F'):
  ∃(I2:Nat->Sl->Ψ) (m2:Nat),I2 m2 st F2/\∀m2 w F,I2 m2 w F->BO N1 (λa5 F=>∃m',m'<m2/\I2 m' a5 F) b1 A (j:Int) n0 R w F:=by
 refine ⟨λm s F'=>m=s.len/\X8 g L T N A G0 mz (j+1) s F',st.len,⟨rfl,h⟩,?_⟩;rintro m s F3 ⟨rfl,G',B,vs,E,lG,C,hr,⟨hl,P⟩,W,hq,hf,_⟩;have ej:i64.wrap ((j:Int)+1)=((j+1:Nat):Int):=aC (n:=N) hj (by omega);rw [Υ (by omega)] at hf;unfold BO;have D:(∀x ks r,B=(x,ks)::r->ks≠[])->wJ N1 b1 A n0 (j:Int) s R F3:=λht=>by unfold wJ;rw [ej];exact next s F3 ⟨G',B,vs,E,lG,C,hr,⟨hl,P⟩,W,hq,by rw [Υ (by omega)];exact hf,λ_=>ht⟩
 refine ⟨λh0=> ?_,λh0=>D ?_⟩
 ·cases B with
  |nil=>rw [W7] at hl;omega
  |cons y B=>
   obtain ⟨x,ks⟩:=y;rw [wc] at hl P;obtain ⟨us,r,rfl,a9,O,b4⟩:=Dr hr;have b3:=BM hf;have ew:i64.wrap ((s.len:Int) - 1)=((B.length:Nat):Int):=by rw [aJ (by omega)];omega
   have K:RdS F3 s 2 (tZ (us++[#[U (x:Int),r.v]])):=(C.ownAt (i:=0) rfl).1.rd;obtain ⟨a,o,hb,_⟩:=K.cells (by omega)
   have J:=K.row hb (B.length*2) #[U (x:Int),r.v] (by
    rw [ba,List.drop_left' (by
     have:=O.cat_len;rw [eV] at this
     exact this),cI]
    rfl)
   rw [ew];refine ⟨_,hb,by omega,by omega,r,?_,?_⟩
   ·rw [N4];exact aM J (i:=1) rfl
   have a3:=a9.len;rw [ub] at a3;refine ⟨λhz=> ?_,λhz=>D ?_⟩
   ·have a7:ks=[]:=V5 (by omega);subst a7;obtain ⟨hT,a6⟩:=MR hf;have a0:x<N:=by rw [<- b0];exact (N6.1 hT).1
    refine ⟨_,hb,by omega,by omega,x,?_,?_⟩
    ·rw [N4];exact aE J rfl
    have a1:RdS F3 A 1 (E.map U):=(C.ownAt (i:=1) rfl).1.rd;have a4:=a1.len;rw [ub,W] at a4;obtain ⟨a2,o2,X,_⟩:=a1.cells (by omega);refine ⟨_,X,by omega,by omega,?_⟩;rw [ej,N4,xB];refine C.ownPut 1 rfl X (by rw [ub,W];exact a0) λF4 h4=> ?_;refine ⟨by omega,by omega,?_,_,?_,rfl,G',B,us,E.set x ((j+1:Nat):Int),lG,?_,O,⟨?_,by omega⟩,by rw [Yn];exact W,λq v b2 a8 M=> ?_,by rw [Υ (by omega)];exact a6,λh=>by cases h⟩
    ·rw [N4];have:=K.cap;omega
    ·rw [N4];show B.length - 0<s.len;omega
    ·have h5:=h4.imp (A':=own (Sl.cut s 2 0 (nT ((B.length:Nat):Int)) s.cap) 223 2 (tZ us)) 0 rfl λH _ hH=>by
      have:=IB hH (k:=B.length) (by omega);rw [N4]
      rw [ba,List.take_left' (by
       have:=O.cat_len;rw [eV] at this
       exact this)] at this
      exact this
     rw [List.map_set];exact h5
    ·rw [N4];exact VP _
    ·by_cases e:q=x
     ·subst e;rw [X0 (by rw [W];exact a0)];rw [hT] at M;cases M;rfl
     ·rw [Zh (Ne.symm e)];refine hq q v b2 (λy hy=> ?_) M;rcases tD.1 hy with rfl|hy
      ·exact e
      ·exact a8 y hy
   ·intro x' b5 r' he hk;cases he;subst hk;exact hz (by rw [a3];rfl)
 ·intro x ks r he;subst he;rw [wc] at hl;exact absurd (by omega) h0
end
section
variable {F G:PH} {g:Gr} {L:List Nod} {T:Δ} {N:Nat}
theorem Ds {w:Sl} {b1:Nat} {O:Sl->Ω} {R:VR} {j:Nat} {F2 C J:PH} {st r:Sl} {c:Dtr} {fs:List (Nat×List Dtr)} {vs:List Γ} {E:Φ} {X:Int} (W:N<=2000000) (hj:j<N) (K:T.length=N)
  (lG:J.le C) (h:St C F2 [own st 223 2 (tZ vs),own w 3 1 (E.map U)]) (hv:bS C (rC g fs) vs) (hl:st.len=fs.length) (Q:fs.length<=j) (hE:E.length=N) (hq:∀q v,q<j->(∀x∈fs,q≠x.1)->T[q]? =V v->E[q]? =V (v:Int))
  (hf:WX g L T N (j+1) ((j,c.kids)::fs)) (hr:RL C r (c.kids.map (XD g)))
  (next:∀A P,X8 g L T N w J mY (j+1) A P->O A ((j+1:Nat):Int) P):wK O b1 w st (j:Int) X r R F2:=by
 obtain ⟨_,_,TO⟩:=qgr;unfold wK;refine ⟨rfl,?_⟩;refine h.push0 TO (c:= #[U (j:Int),r.v]) rfl (by simp [ak,nE]) (by omega) λs' G2 F3 H h M=> ?_;refine IE W hj K J ⟨G2,(j,c.kids)::fs,vs++[#[U (j:Int),r.v]],E,aa lG H,?_,?_,⟨by rw [M,hl,wc],by rw [wc];omega⟩,hE,λq v a0 B D=> ?_,by rw [Υ (by omega)];exact hf,λh=>by cases h⟩ next
 ·rw [ba,cI];exact h
 ·rw [nG];exact (hv.le H).append (.cons ⟨r,rfl,hr.le H⟩ .nil)
 ·have h1:=B (j,c.kids) (by simp);dsimp only at h1;exact hq q v (by omega) (λy hy=>B y (by simp [hy])) D
theorem Dt {A:Sl} {b1:Nat} {W:Sl->Ω} {R:VR} {j:Nat} {F2 H G0:PH} {st:Sl} {c:Dtr} {fs:List (Nat×List Dtr)} {vs:List Γ} {E:Φ} {n0:Int} {w:Γ} {p:Sl} (hN:N<=2000000) (hj:j<N) (K:T.length=N)
  (q1:H b1=V (Y w 175)) (hw:w[5]? =V p.v) (hp:RL H p g.qa0) (hc:Gt g c)
  (lG:G0.le H) (h:St H F2 [own st 223 2 (tZ vs),own A 3 1 (E.map U)]) (hv:bS H (rC g fs) vs) (hl:st.len=fs.length) (B:fs.length<=j) (hE:E.length=N) (hq:∀q v,q<j->(∀x∈fs,q≠x.1)->T[q]? =V v->E[q]? =V (v:Int))
  (hf:WX g L T N (j+1) ((j,c.kids)::fs))
  (next:∀C F',X8 g L T N A G0 mY (j+1) C F'->W C ((j+1:Nat):Int) F'):wL W b1 A st (j:Int) c.root.pr n0 R F2:=by
 unfold wL;cases c with
 |lf tk Q to=>refine ⟨λP=>absurd P (by show ¬(0:Int)<=-1;decide),λ_=> ?_⟩;exact Ds (c:=.lf tk Q to) hN hj K lG h hv hl B hE hq hf (RL.nil _) next
 |nd X Q to ks=>obtain ⟨_,_,x,hx,hr⟩:=hc;obtain ⟨x0,x1,x2⟩:=bA hx;have ep:=hp.len;refine ⟨λ_=> ?_,λP=>absurd x0 P⟩;refine ⟨p,ld (h.le _ _ q1) hw,?_⟩;refine t6 hp (by decide) x0 (by show X<_;omega) λa cc x' O J M=> ?_;obtain rfl:x'=x:=yC (O.symm.trans x2);obtain ⟨r,n2,l2,rfl,D,_⟩:=M;refine ⟨r,aM (aN h.le J) (i:=2) rfl,?_⟩;exact Ds (c:=.nd X Q to ks) hN hj K lG h hv hl B hE hq hf (by rw [hr] at D;exact D) next
theorem Mw {J:Sl} {b1:Nat} {N1:Sl->Ω} {R:VR} {j:Nat} {F2 P G0:PH} {st:Sl} {c:Dtr} {fs O:List (Nat×List Dtr)} {vs:List Γ} {E:Φ} {n0:Int} {cs n t s p l f:Sl} {u v:ξ} (hN:N<=2000000) (hj:j<N) (a4:T.length=N)
  (q1:P b1=V (Y #[cs.v,n.v,U g.fam.2,t.v,s.v,p.v,U g.start,l.v,f.v,u,v] 175)) (hs:GS P g cs n t s p l f) (hc:dU g c)
  (lG:G0.le P) (h:St P F2 [own st 223 2 (tZ vs),own J 3 1 (E.map U)]) (hv:bS P (rC g fs) vs) (hl:st.len=fs.length) (H:fs.length<=j) (hE:E.length=N) (hq:∀q v,q<j->(∀x∈fs,q≠x.1)->T[q]? =V v->E[q]? =V (v:Int))
  (a9:(fs=[]/\O=[])\/∃x ks rest,fs=(x,c::ks)::rest/\O=(x,ks)::rest) (hf:WX g L T N (j+1) ((j,c.kids)::O))
  (next:∀X F',X8 g L T N J G0 mY (j+1) X F'->N1 X ((j+1:Nat):Int) F'):se N1 b1 J st (j:Int) c.root.pr c.root.tk n0 R F2:=by
 unfold se;have hg:GV P (g.arr cs n t s p l f) g:=⟨cs,n,t,s,p,l,f,rfl,hs⟩;refine ⟨g.arr cs n t s p l f,rfl,fX (h.le _ _ q1) rfl,?_⟩;refine h.runv (FZ hg hc.here) λG2 F3 l2 h=>⟨_,rfl,?_⟩;refine h.var (by simp [ak]) (λb9 G3 F4 l3 q9 h=> ?_);have B:=aa l2 l3;have a3:=B _ _ q1;have a6:=hs.le B;have a0:=hv.le B;rcases a9 with ⟨rfl,rfl⟩|⟨x,ks,rest,rfl,rfl⟩
 ·refine ⟨λM=> ?_,λ_=>Dt hN hj a4 a3 rfl a6.p hc.here (aa lG B) h a0 hl H hE hq hf next⟩;rw [hl] at M;exact absurd M (by decide)
 ·rw [wc] at hl H;have ew:i64.wrap ((st.len:Int) - 1)=((rest.length:Nat):Int):=by rw [aJ (by omega)];omega
  rw [ew];refine ⟨λ_=> ?_,λM=>absurd (by omega) M⟩;refine ⟨_,rfl,ai (h.le _ _ q9),?_⟩;obtain ⟨us,r,rfl,C,a1,b4⟩:=Dr a0;have W:RdS F4 st 2 (tZ (us++[#[U (x:Int),r.v]])):=(h.ownAt (i:=0) rfl).1.rd;obtain ⟨a,o,hb,_⟩:=W.cells (by omega);have w:(tZ us).length=rest.length*2:=by have:=a1.cat_len;rwa [eV] at this
  have D:=W.row hb (rest.length*2) #[U (x:Int),r.v] (by
   rw [ba,List.drop_left' w,cI]
   rfl)
  rw [N4];refine ⟨_,hb,by omega,by omega,r,aM D (i:=1) rfl,?_⟩;have b2:=C.len;rw [ub,wc] at b2;refine t6 C (by decide) (Va _) (by omega) λa2 c2 y K A a8=> ?_;rw [show (nT 0)=0 from rfl] at K A;rw [xw,XZ] at K;cases K;obtain rfl:c2=(XD g c).arr:=a8;refine ⟨_,rfl,aN h.le A,_,λF=>MT _ _ F,λM=> ?_,λ_=> ?_⟩
  ·rw [ε rfl] at M;cases M
  refine ⟨_,hb,by omega,by omega,r,aM D (i:=1) rfl,by omega,C.cap,_,hb,by omega,by omega,?_⟩;have ea:nR (nR (ou a o I) (rest.length*2)) 1=(ou a o I).add (rest.length*2+1):=by rw [aI,aI,aI,V8]
  dsimp only;rw [ea];have b3:(tZ (us++[#[U (x:Int),r.v]])).length=rest.length*2+2:=by rw [ba,cI,tT,w];rfl
  refine h.ownPut 0 rfl hb (by rw [b3];omega) λF5 h=> ?_;have Q:=RL.cutD C (n:=2) (k:=1) rfl (by decide) (by omega);rw [xw,Xy,Vf] at Q;refine Dt (fs:=(x,ks)::rest) (vs:=us++[#[U (x:Int),(Sl.cut r 2 1 r.len r.cap).v]]) hN hj a4 a3 rfl a6.p hc.here (aa lG B) ?_ ?_ (by rw [wc];exact hl) (by rw [wc];exact H) hE (λq v b0 a5 a7=>hq q v b0 (λy K=> ?_) a7) hf next
  ·rw [ba,cI,List.set_append_right _ _ (by omega),w,show rest.length*2+1 - rest.length*2=1 by omega] at h;rw [ba,cI];exact h
  ·rw [nG];exact a1.append (.cons ⟨_,rfl,Q⟩ .nil)
  ·rcases tD.1 K with rfl|K
   ·exact a5 (x,ks) (by simp)
   ·exact a5 y (by simp [K])
end
attribute [local go_sem] Oper.semAt_some
theorem dS {e:Ev} {w:World} {F:PH} (h:Sat e w F) (o:Obj):Sat e (w.alloc o) (F.set w.heap.size o):=h.push o
theorem pM {e:Ev} {w:World} {F:PH} {b i:Nat} {c:Γ} {t:TypeId} {v:ξ} (h:Sat e w F) (A:F b=V (Y c t (0,0))):Sat e (w.setCell ⟨b,i,I⟩ v) (F.set b (Y (c.setIfInBounds i v) t (0,0))):=by
 have g:=h.heap _ _ A;have:w.setCell ⟨b,i,I⟩ v={w with heap:=(w.setCell ⟨b,i,I⟩ v).heap}:=rfl;rw [this];refine h.modify A _ ?_ (λB r=> ?_)
 ·simp [World.setCell,YE,g]
 ·simp only [World.setCell,YE];rw [Υ (λh=>r h.symm)]
theorem eW {e:Ev} {w:World} {F G:PH} (h:Sat e w G) (r:F.le G):Sat e w F:=⟨h.os,h.tape,h.output,λb o g=>h.heap b o (r b o g),λb o g=>⟨aT r (h.frame b o g).1,(h.frame b o g).2⟩⟩
theorem eH {e:Ev} {w w':World} {F:PH} {row:Option Nat} {B:Nat} (h:Sat e w F) (E:∀b o,F b=V o\/e.fr b=V o->b<B) (A:w.grownBy w' row) (G:∀r,row=V r->B<=r):Sat e w' F:=by
 have key:∀b o,F b=V o\/e.fr b=V o->w.heap[b]? =V o->w'.heap[b]? =V o:=λb o g C=>by refine (A.block b (XX.1 C).1 λD=> ?_).trans C;have:=G b D.symm;have:=E b o g;omega
 exact ⟨A.os.trans h.os,A.tape.trans h.tape,A.output.trans h.output,λb o g=>key b o (.inl g) (h.heap b o g),λb o g=>⟨(h.frame b o g).1,key b o (.inr g) (h.frame b o g).2⟩⟩
theorem gI {e:Ev} {w:World} {F:PH} (h:Sat e w F):∀b o,F b=V o\/e.fr b=V o->b<w.heap.size:=λb o g=>g.elim (λg=>h.lt g) λg=>(XX.1 (h.frame b o g).2).1
theorem fu {e:Ev} {w:World} {F:PH} {b i:Nat} {c:Γ} {t:TypeId} {fr:Nat×Nat} {v:ξ} (h:Sat e w F) (g:F b=V (Y c t fr)) (r:c[i]? =V v):w.cell? ⟨b,i,I⟩=V v:=h.cell ((av g).trans r)
theorem jz {e:Ev} {w:World} {F:PH} {b i:Nat} {c:Γ} {t:TypeId} (h:Sat e w F) (r:F b=V (Y c t (0,0))):w.frozen? ⟨b,i,I⟩=mz:=by have g:=h.heap _ _ r;simp [World.frozen?,g]
def dY:Int->Bool->List Nod->Int->Bool
 |at_,ex,[],to=>if ex then decide (at_=to) else decide (at_<=to)
 |at_,ex,n::l,to=> !((ex && decide (n.fr≠at_)) || decide (n.fr<at_)) && dY n.to (decide (0<=n.pr)) l to
def bU (F:PH) (n0:Nat) (t s:Sl) (i:Int) (r:Bool) (at_:Int) (ex:Bool):PH:=
 (((((F.set n0 (Y #[t.v] 43)).set (n0+1) (Y #[nS r] 4)).set (n0+2) (Y #[U at_] 3)).set (n0+3) (Y #[nS ex] 4)).set (n0+4) (Y #[s.v] 76)).set (n0+5) (Y #[U i] 3)
def Xq (F:PH) (n0:Nat) (s:Sl) (i:Int):PH:=(F.set (n0+4) (Y #[s.v] 76)).set (n0+5) (Y #[U i] 3)
theorem qdu (F:PH) (g:Nat) (s:Sl) (i:Int):Xq F g s i (g+4)=V (Y #[s.v] 76):=by unfold Xq;rw [aw _ _ (by omega),aq]
theorem qdv (F:PH) (g:Nat) (s:Sl) (i:Int):Xq F g s i (g+5)=V (Y #[U i] 3):=by unfold Xq;rw [aq]
theorem IF {F:PH} {g:Nat} {s:Sl} {i:Int} (h:∀b,g<=b->F b=I):F.le (Xq F g s i):=λb o r=>by
 have A:¬g<=b:=λw=>by rw [h b w] at r;cases r
 unfold Xq;rw [aw _ _ (by omega),aw _ _ (by omega)];exact r
theorem yH {F:PH} {w:Nat} {t s:Sl} {i:Int} (h:∀b,w<=b->F b=I) {r:Bool} {at_:Int} {ex:Bool}:(Xq F w s i).le (bU F w t s i r at_ ex):=λb o g=>by
 unfold Xq at g;unfold bU;by_cases B:b=w+5
 ·rw [B,aq] at g ⊢;exact g
 rw [aw _ _ B] at g ⊢;by_cases A:b=w+4
 ·rw [A,aq] at g ⊢;exact g
 rw [aw _ _ A] at g ⊢;have D:¬w<=b:=λC=>by rw [h b C] at g;cases g
 rw [aw _ _ (by omega),aw _ _ (by omega),aw _ _ (by omega),aw _ _ (by omega)];exact g
section
variable {F:PH} {n0:Nat} {t s:Sl} {i at_:Int} {r ex:Bool}
theorem Du:bU F n0 t s i r at_ ex n0=V (Y #[t.v] 43):=by unfold bU;rw [aw _ _ (by omega),aw _ _ (by omega),aw _ _ (by omega),aw _ _ (by omega),aw _ _ (by omega),aq]
theorem eM:bU F n0 t s i r at_ ex (n0+1)=V (Y #[nS r] 4):=by unfold bU;rw [aw _ _ (by omega),aw _ _ (by omega),aw _ _ (by omega),aw _ _ (by omega),aq]
theorem pN:bU F n0 t s i r at_ ex (n0+2)=V (Y #[U at_] 3):=by unfold bU;rw [aw _ _ (by omega),aw _ _ (by omega),aw _ _ (by omega),aq]
theorem lR:bU F n0 t s i r at_ ex (n0+3)=V (Y #[nS ex] 4):=by unfold bU;rw [aw _ _ (by omega),aw _ _ (by omega),aq]
theorem lS (h:∀b,n0<=b->F b=I):F.le (bU F n0 t s i r at_ ex):=aa (IF h) (yH h)
theorem IG (h:∀b,n0<=b->F b=I) {b:Nat} {o:Obj} (g:bU F n0 t s i r at_ ex b=V o):b<n0+6:=by
 unfold bU at g;by_cases w:b<n0+6
 ·exact w
 ·rw [aw _ _ (by omega),aw _ _ (by omega),aw _ _ (by omega),aw _ _ (by omega),aw _ _ (by omega),aw _ _ (by omega),h b (by omega)] at g;cases g
theorem Bu (v:Int):(bU F n0 t s i r at_ ex).set (n0+2) (Y #[U v] 3)=bU F n0 t s i r v ex:=by
 funext b;unfold bU PH.set;by_cases g:b=n0+2
 ·subst g;simp
 ·simp [g]
theorem Bv (v:Bool):(bU F n0 t s i r at_ ex).set (n0+3) (Y #[nS v] 4)=bU F n0 t s i r at_ v:=by
 funext b;unfold bU PH.set;by_cases g:b=n0+3
 ·subst g;simp
 ·simp [g]
theorem rF (v:Bool):(bU F n0 t s i r at_ ex).set (n0+1) (Y #[nS v] 4)=bU F n0 t s i v at_ ex:=by
 funext b;unfold bU PH.set;by_cases g:b=n0+1
 ·subst g;simp
 ·simp [g]
end
theorem rG {at_ to:Int} {ex:Bool} {n:Nod} {l:List Nod} (g:ex=mY->n.fr=at_) (h:¬n.fr<at_):dY at_ ex (n::l) to=dY n.to (decide (0<=n.pr)) l to:=by
 rw [dY];cases ex with
 |true=>simp [g rfl]
 |false=>simp [h]
theorem yI {at_ to:Int} {ex:Bool} {n:Nod} {l:List Nod} (h:(ex=mY/\n.fr≠at_)\/n.fr<at_):dY at_ ex (n::l) to=mz:=by
 rw [dY];rcases h with ⟨g,r⟩|h
 ·simp [g,r]
 ·simp [h]
theorem rH {A B:World} (h:KeepsOthers A B):KeepsOthers A B.drew:=⟨h.size,h.same⟩
section
variable {e:Ev} {F:PH} {n0:Nat} {t s:Sl} {i at_:Int} {r ex:Bool} {W:World}
theorem jA (h:Sat e W (bU F n0 t s i r at_ ex)) (to:Int) (b:Bool) (o:Obj):Sat e ((((W.setCell ⟨n0+1+1,0,I⟩ (U to)).setCell ⟨n0+1+1+1,0,I⟩ (nS b)).alloc o).drew) (bU F n0 t s i r to b):=by have w:=pM (i:=0) (v:=U to) h pN;rw [show (#[U at_]:Γ).setIfInBounds 0 (U to)= #[U to] from rfl,Bu] at w;have g:=pM (i:=0) (v:=nS b) w lR;rw [show (#[nS ex]:Γ).setIfInBounds 0 (nS b)= #[nS b] from rfl,Bv] at g;exact (eW (dS g o) (ae o g.fresh)).drawn _
theorem yJ (h:Sat e W (bU F n0 t s i r at_ ex)) (o:Obj):Sat e ((W.setCell ⟨n0+1,0,I⟩ (nS mz)).alloc o) (bU F n0 t s i mz at_ ex):=by have g:=pM (i:=0) (v:=nS mz) h eM;rw [show (#[nS r]:Γ).setIfInBounds 0 (nS mz)= #[nS mz] from rfl,rF] at g;exact eW (dS g o) (ae o g.fresh)
theorem yK (h:Sat e W (bU F n0 t s i r at_ ex)) (b:Bool) {D B:Nat} (_:W.heap[D]? =V (.deferred (V []))) (E:B<=D) (A:∀{r at_ ex},∀b o,bU F n0 t s i r at_ ex b=V o\/e.fr b=V o->b<B):
  ((W.setCell ⟨n0+1,0,I⟩ (nS b)).drew.putObj D (.deferred I)).cell? ⟨n0+1,0,I⟩=V (nS b)/\Sat e ((W.setCell ⟨n0+1,0,I⟩ (nS b)).drew.putObj D (.deferred I)) (bU F n0 t s i b at_ ex):=by
 have w:=pM (i:=0) (v:=nS b) h eM;rw [show (#[nS r]:Γ).setIfInBounds 0 (nS b)= #[nS b] from rfl,rF] at w;have g:=(eH (w.drawn (W.drawn+1)) (B:=B) A (grownBy_putObj' _ D (.deferred I)) λr C=>by cases C;exact E);exact ⟨fu g eM rfl,g⟩
end
def yL (T:Dtr) (x:{x:Nat // x<szN T}):Nod:=(vD T)[x.1]'x.2
section
variable {e:Ev} {F:PH} {T m:Dtr} {i:Nat} {s t:Sl}
theorem Mx (r:Fence) (n:Nat) (g:r.fn 50) (h:r.round=I) (a:Θ) (len cap:Nat) (j:Int) (w:World):
  CallsIn r n prog 50 #[tS a len cap,U j] w λe w'=>e=.returned (.func (.func 84) #[] #[ph (V ⟨w.heap.size+1,0,I⟩),ph (V ⟨w.heap.size,0,I⟩)])/\w'=(w.alloc (Y #[tS a len cap] 76)).alloc (Y #[U j] 3):=by
 refine callsIn_of_wp func50 rfl g ?_ h;simp only [ntmps50,XB,wc,W7,Nat.reduceAdd,Nat.reduceSub,Array.replicate_succ,Array.replicate_zero,List.push_toArray,Yf,zE,zK]
 gi_wp2
 go_ret
 exact ⟨rfl,rfl⟩
set_option maxRecDepth 100000 in
set_option maxHeartbeats 4000000 in
theorem qhv (w:World) (hw:Sat e w F) {bt H lt J bs os M cs:Nat} (hm:bK T i=V m) (hT:szN T<=2000000) (hs:RL F ⟨V ⟨bs,os,I⟩,M,cs⟩ (U5 T)) (ht:RL F ⟨V ⟨bt,H,I⟩,lt,J⟩ (vD T)):
  CallsIn Fence.wide 3 prog 77 #[tS (V ⟨bt,H,I⟩) lt J,tS (V ⟨bs,os,I⟩) M cs,U (i:Int)] w λen w'=>en=.returned (nS (dY m.root.fr mY (m.kids.map Dtr.root) m.root.to))/\Sat e w' F:=by
 refine callsIn_of_wp_marks func77 rfl trivial ?_ rfl;simp only [ntmps77,XB,wc,W7,Nat.reduceAdd,Nat.reduceSub,Array.replicate_succ,Array.replicate_zero,List.push_toArray,Yf,zE,zK];have a6:=d5 hm;have b6:i<lt:=by have:=ht.len;have:lt=szN T:=this;omega
 have hn:=gN hm;obtain ⟨a0,c0,g1,g2,g3⟩:=ht.get (by decide) hn;cases g1;obtain rfl:c0=m.root.arr:=g3;have a8:w.cell? ⟨bt,H+i*4+2,I⟩=V (U m.root.fr):=hw.cell (by have:=aM g2 (i:=2) rfl;rwa [aI,aI] at this);have b4:bt<w.heap.size:=by obtain ⟨o,ho,_⟩:=cells_of_cell a8;exact (XX.1 ho).1
 gi_wp2
 refine ⟨trivial,(Mx Fence.wide 2 trivial rfl _ _ _ _ _).mono ?_⟩;rintro en w' ⟨rfl,rfl⟩
 gi_wp2
 have s6:=dS (dS (dS (dS (dS (dS hw (Y #[tS (V ⟨bt,H,I⟩) lt J] 43)) (Y #[nS mz] 4)) (Y #[U m.root.fr] 3)) (Y #[nS mY] 4)) (Y #[tS (V ⟨bs,os,I⟩) M cs] 76)) (Y #[U (i:Int)] 3);simp only [World.size_alloc] at s6;have s6:Sat e _ (bU F w.heap.size ⟨V ⟨bt,H,I⟩,lt,J⟩ ⟨V ⟨bs,os,I⟩,M,cs⟩ i mz m.root.fr mY):=s6;have g:∀b,w.heap.size<=b->F b=I:=λb Q=>by
  cases e1:F b with
  |none=>rfl
  |some o=>have:=hw.lt e1;omega
 generalize a9:((((((w.alloc (Y #[tS (V ⟨bt,H,I⟩) lt J] 43)).alloc (Y #[nS mz] 4)).alloc (Y #[U m.root.fr] 3)).alloc (Y #[nS mY] 4)).alloc (Y #[tS (V ⟨bs,os,I⟩) M cs] 76)).alloc (Y #[U (i:Int)] 3))=W0 at s6 ⊢;have b2:W0.heap.size=w.heap.size+6:=by rw [<- a9];simp only [World.size_alloc]
 have P:∀{r at_ ex},∀b o,bU F w.heap.size ⟨V ⟨bt,H,I⟩,lt,J⟩ ⟨V ⟨bs,os,I⟩,M,cs⟩ i r at_ ex b=V o\/e.fr b=V o->b<W0.heap.size:=λb o Q=>Q.elim (λQ=>by have:=IG g Q;omega) λQ=>gI s6 b o (.inr Q);have hB:=gI s6;have X:∀{r at_ ex},(Xq F w.heap.size ⟨V ⟨bs,os,I⟩,M,cs⟩ i).le (bU F w.heap.size ⟨V ⟨bt,H,I⟩,lt,J⟩ ⟨V ⟨bs,os,I⟩,M,cs⟩ i r at_ ex):=yH g;have b0:F.le (Xq F w.heap.size ⟨V ⟨bs,os,I⟩,M,cs⟩ i):=IF g;generalize b5:w.heap.size=E at*;have O:∀k,k<=m.kids.length->(gH (λk=>if h:bV i m.kids k<szN T then (⟨bV i m.kids k,h⟩:{x:Nat // x<szN T}) else ⟨i,a6⟩) k).map (yL T)=(m.kids.take k).map Dtr.root:=λk=>by
  induction k with
  |zero=>intro _;rfl
  |succ k ih=>intro hk;have a2:k<m.kids.length:=hk;have h1:=pL (i:=i) a2;have h2:=sub_le hm;rw [cL] at h2;have h3:=gN (ip hm (N5 a2));rw [nH,yT,ih (by omega),Wv,N5 a2,yT,dif_pos (by omega)];congr 1;unfold yL;rw [List.map_singleton];simp only [Option.toList_some,xw,List.map_nil];congr 1;exact (N6.1 h3).2
 refine wpIn_rangeFunc_ownF (α:={x:Nat // x<szN T}) rfl (by decide) (gf:=84) (lb:= #[ph (V ⟨E+1+1+1+1+1,0,I⟩),ph (V ⟨E+1+1+1+1,0,I⟩)]) rfl trivial (enters_of func84 (by kernel_rfl) rfl)
  (rE W0 (eW s6 X) hm hT (qdu F E _ i) (qdv F E _ i) (hs.le b0) (λx=>x.1) (λk=>if h:bV i m.kids k<szN T then ⟨bV i m.kids k,h⟩ else ⟨i,a6⟩) (λk hk=> ?hf) (by decide))
  (λh k s=>k (h s)) (λW r o o' hr ho h1 h2 C=>eH C (λb o Q=>hB b o (Q.elim (λQ=> .inl (X b o Q)) .inr)) (grownBy_putObj' W r o') λr' R=>by cases R;exact hr) (Below.refl _ _) (λ_=>rfl)
  (λL W=>∃at_ ex,Sat e W (bU F E ⟨V ⟨bt,H,I⟩,lt,J⟩ ⟨V ⟨bs,os,I⟩,M,cs⟩ i mz at_ ex)/\∀l,dY m.root.fr mY (L.map (yL T)++l) m.root.to=dY at_ ex l m.root.to)
  (λc L W=>c=.ret/\(∃at_ ex,Sat e W (bU F E ⟨V ⟨bt,H,I⟩,lt,J⟩ ⟨V ⟨bs,os,I⟩,M,cs⟩ i mz at_ ex))/\∀l,dY m.root.fr mY (L.map (yL T)++l) m.root.to=mz)
  ?hI ?hIx ⟨_,_,s6,λl=>rfl⟩
  (λx=>{tmps:= #[tS (V ⟨bt,H,I⟩) lt J,tS (V ⟨bs,os,I⟩) M cs,U (i:Int),ph (V ⟨E,0,I⟩),undef,undef,ph (V ⟨E+1,0,I⟩),ph (V ⟨E+1+1,0,I⟩),ph (V ⟨E+1+1+1,0,I⟩),U (x.1:Int),undef,tS (V ⟨bt,H,I⟩) lt J,U (i:Int),ph (V ⟨bt,H+i*4,I⟩),ph (V ⟨bt,H+i*4+2,I⟩),U m.root.fr,tS (V ⟨bs,os,I⟩) M cs,U (i:Int),.func (.func 84) #[] #[ph (V ⟨E+1+1+1+1+1,0,I⟩),ph (V ⟨E+1+1+1+1,0,I⟩)],U (x.1:Int),undef,undef,undef,undef,undef,undef,undef,undef,undef,undef,undef,undef,undef,undef,undef,undef,undef,undef,undef,undef,undef,undef,undef,undef,undef,undef,undef,undef,undef,undef,undef,undef,undef,undef,undef,undef,undef],defers:=[]}) ?assign ?body ?done ?stop
 case assign=>
  intro l x W K hK
  gi_wp2
  exact hK
 case hf=>
  have h1:=pL (i:=i) hk;have h2:=sub_le hm;rw [cL] at h2;rw [dif_pos (by omega)]
 case hI=>
  rintro L A B row ⟨at_,ex,C,hc⟩ hg hr;exact ⟨at_,ex,eH C P hg λr R=>(hr r R).1,hc⟩
 case hIx=>
  rintro c L A B row ⟨h1,⟨at_,ex,C⟩,hc⟩ hg hr;exact ⟨h1,⟨at_,ex,eH C P hg λr R=>(hr r R).1⟩,hc⟩
 case body=>
  rintro l L x W ⟨at_,ex,C,hc⟩ b1;have b3:=x.2;have a4:x.1<lt:=by have:=ht.len;have:lt=szN T:=this;omega
  have a7:(vD T)[x.1]? =V (yL T x):=N5 x.2;have G:∀l,dY m.root.fr mY ((L++[x]).map (yL T)++l) m.root.to=dY at_ ex (yL T x::l) m.root.to:=λl=>by rw [yT,xK];exact hc _
  generalize yL T x=nd at*;obtain ⟨a1,c1,g1,g2,g3⟩:=ht.get (by decide) a7;cases g1;obtain rfl:c1=nd.arr:=g3;have N:=lS (t:=⟨V ⟨bt,H,I⟩,lt,J⟩) (s:=⟨V ⟨bs,os,I⟩,M,cs⟩) (i:=(i:Int)) (r:=mz) (at_:=at_) (ex:=ex) g;have d0:W.cell? ⟨bt,H+x.1*4,I⟩=V (U nd.pr):=C.cell (aK N (by have:=aM g2 (i:=0) rfl;rwa [aI,aI] at this));have d1:W.cell? ⟨bt,H+x.1*4+1,I⟩=V (U nd.tk):=C.cell (aK N (by have:=aM g2 (i:=1) rfl;rwa [aI,aI] at this));have d2:W.cell? ⟨bt,H+x.1*4+2,I⟩=V (U nd.fr):=C.cell (aK N (by have:=aM g2 (i:=2) rfl;rwa [aI,aI] at this));have d3:W.cell? ⟨bt,H+x.1*4+3,I⟩=V (U nd.to):=C.cell (aK N (by have:=aM g2 (i:=3) rfl;rwa [aI,aI] at this));have J:W.cell? ⟨E,0,I⟩=V (tS (V ⟨bt,H,I⟩) lt J):=fu C Du rfl;have ca:W.cell? ⟨E+1+1,0,I⟩=V (U at_):=fu C pN rfl;have ce:W.cell? ⟨E+1+1+1,0,I⟩=V (nS ex):=fu C lR rfl;have cr:W.cell? ⟨E+1,0,I⟩=V (nS mz):=fu C eM rfl;have fa:W.frozen? ⟨E+1+1,0,I⟩=mz:=jz C pN;have fe:W.frozen? ⟨E+1+1+1,0,I⟩=mz:=jz C lR;have fr:W.frozen? ⟨E+1,0,I⟩=mz:=jz C eM;have hx:Nat.lt x.1 lt:=a4;have z3:E+1+1+1<W.heap.size:=C.lt lR;have z2:E+1+1<W.heap.size:=by omega
  have z1:E+1<W.heap.size:=by omega
  have z0:E<W.heap.size:=by omega
  obtain ⟨x,a5⟩:=x;dsimp only at*;cases ex with
  |true=>
   gi_wp2
   ·gi_region
    all_goals exact ⟨rH (((KeepsOthers.setCell _ _ _).trans (KeepsOthers.setCell _ _ _)).trans (KeepsOthers.alloc _ _)),λ_=>eW (jA C _ _ _) X,_,_,jA C _ _ _,λl=>by rw [G];exact rG (λ_=>by assumption) (by omega)⟩
   ·exact ⟨(KeepsOthers.setCell _ _ _).trans (KeepsOthers.alloc _ _),rfl,⟨_,_,yJ C _⟩,λl=>by rw [G];exact yI (.inl ⟨rfl,by assumption⟩)⟩
  |false=>
   gi_wp2
   ·exact ⟨(KeepsOthers.setCell _ _ _).trans (KeepsOthers.alloc _ _),rfl,⟨_,_,yJ C _⟩,λl=>by rw [G];exact yI (.inr (by assumption))⟩
   ·gi_region
    all_goals exact ⟨rH (((KeepsOthers.setCell _ _ _).trans (KeepsOthers.setCell _ _ _)).trans (KeepsOthers.alloc _ _)),λ_=>eW (jA C _ _ _) X,_,_,jA C _ _ _,λl=>by rw [G];exact rG (λR=>by cases R) (by omega)⟩
 case done=>
  rintro D xs W hD a5 ⟨at_,ex,C,hc⟩ hK;have G:=hc [];rw [yn,a5,O _ (qX _),wy] at G;have N:=lS (t:=⟨V ⟨bt,H,I⟩,lt,J⟩) (s:=⟨V ⟨bs,os,I⟩,M,cs⟩) (i:=(i:Int)) (r:=mz) (at_:=at_) (ex:=ex) g;have d3:W.cell? ⟨bt,H+i*4+3,I⟩=V (U m.root.to):=C.cell (aK N (by have:=aM g2 (i:=3) rfl;rwa [aI,aI] at this));have J:W.cell? ⟨E,0,I⟩=V (tS (V ⟨bt,H,I⟩) lt J):=fu C Du rfl;have ca:W.cell? ⟨E+1+1,0,I⟩=V (U at_):=fu C pN rfl;have ce:W.cell? ⟨E+1+1+1,0,I⟩=V (nS ex):=fu C lR rfl;have cr:W.cell? ⟨E+1,0,I⟩=V (nS mz):=fu C eM rfl;have fr:W.frozen? ⟨E+1,0,I⟩=mz:=jz C eM;cases ex with
  |true=>
   gi_wp2
   gi_region
   all_goals gi_wp2
   all_goals refine ⟨by simp,.inl ⟨_,_,rfl,run_takeDeferred ((KeepsOthers.setCell W _ _).same D _ hK rfl),?_⟩⟩
   all_goals obtain ⟨e1,e2⟩:=yK C (at_==m.root.to) hK hD P
   all_goals refine ⟨nS (at_==m.root.to),?_,by rw [G];rfl,eW e2 (lS g)⟩
   all_goals simp [results,asAddr,f77]
   all_goals exact jR e2 underlying4 rfl (ld eM rfl)
  |false=>
   gi_wp2
   gi_region
   all_goals gi_wp2
   all_goals refine ⟨by simp,.inl ⟨_,_,rfl,run_takeDeferred ((KeepsOthers.setCell W _ _).same D _ hK rfl),?_⟩⟩
   all_goals obtain ⟨e1,e2⟩:=yK C (decide (at_<=m.root.to)) hK hD P
   all_goals refine ⟨nS (decide (at_<=m.root.to)),?_,by rw [G];rfl,eW e2 (lS g)⟩
   all_goals simp [results,asAddr,f77]
   all_goals exact jR e2 underlying4 rfl (ld eM rfl)
 case stop=>
  rintro D c L W hD ⟨k,hk,a3⟩ ⟨rfl,⟨at_,ex,C⟩,hc⟩ hK;have G:=hc ((m.kids.drop k).map Dtr.root);rw [a3,O k hk,<- yT,WI] at G
  gi_wp2
  refine ⟨by simp,.inl ⟨_,_,rfl,run_takeDeferred hK,?_⟩⟩;have e2:=eH C P (grownBy_putObj' W D (.deferred I)) λr R=>by cases R;exact hD
  refine ⟨.bool mz,?_,by rw [G],eW e2 (lS g)⟩;simp [results,asAddr,f77];exact jR e2 underlying4 rfl (ld eM rfl)
theorem qhe (A:bK T i=V m) (J:szN T<=2000000) (C:RL F s (U5 T)) (h:RL F t (vD T)):
  ν 77 #[t.v,s.v,U (i:Int)] F λr H=>r=nS (dY m.root.fr mY (m.kids.map Dtr.root) m.root.to)/\H=F:=λe w E=>by
 obtain ⟨b,o,B,_⟩:=lQ C (we A);have K:0<t.len:=by
  have:=h.len;have:=d5 A;have:t.len=szN T:=by assumption
  omega
 obtain ⟨X,N,g,_⟩:∃b o,t.qa5=V ⟨b,o,I⟩/\True:=by obtain ⟨vs,_,D⟩:=h;obtain ⟨b,o,G,_⟩:=D.cells K;exact ⟨b,o,G,trivial⟩
 obtain ⟨Q,M,W⟩:=s;obtain ⟨R,O,L⟩:=t;cases B;cases g;exact ((callsIn_wide (n:=3)).1 (qhv w E A J C h)).mono λen P ⟨B,g⟩=>⟨_,F,B,g,rfl,rfl⟩
end
inductive Ltr where
 |lf (s:ο)
 |nd (pr:Int) (ks:List Ltr)
def Zw (ks:List Ltr) (k:Nat):ο:=match ks[k - 1]? with
 |some (.lf s)=>s
 |_=> .empty
section
variable (sp:Int->Spc)
def Vd (pr:Int) (ks:List Ltr):List tU:=if 0<(sp pr).decl then [(Zw ks (sp pr).decl,(sp pr).kind)] else []
mutual
def Ys:Ltr->List tU
 | .lf _=>[]
 | .nd pr ks=>(if (sp pr).opens=mY then [] else IH ks)++Vd sp pr ks
def IH:List Ltr->List tU
 |[]=>[]
 |n::l=>Ys n++IH l
end
def ZQ (seen:List tU) (pr:Int) (ks:List Ltr):Bool:=if (sp pr).uses=0 then mY else WF (sp pr).allow (bF (Zw ks (sp pr).uses) seen)
mutual
def WW (seen:List tU):Ltr->List (List tU×Bool)
 | .lf _=>[(seen,mY)]
 | .nd pr ks=>(seen,ZQ sp seen pr ks)::X6 seen ks
def X6 (seen:List tU):List Ltr->List (List tU×Bool)
 |[]=>[]
 |n::l=>WW seen n++X6 (seen++Ys sp n) l
end
end
section
variable (tx:Int->Int->ο)
mutual
def U6:Dtr->Ltr
 | .lf _ fr to=> .lf (tx fr to)
 | .nd pr _ _ ks=> .nd pr (ii ks)
def ii:List Dtr->List Ltr
 |[]=>[]
 |n::l=>U6 n::ii l
end
theorem yM:∀l:List Dtr,ii tx l=l.map (U6 tx)
 |[]=>by unfold ii;rfl
 |n::l=>by rw [ii,yM l,xw]
end
section
variable {sp:Int->Spc} {tx:Int->Int->ο}
def Bw:Dtr->Prop
 | .lf _ _ _=>True
 | .nd _ _ _ _=>False
def ZF (sp:Int->Spc) (pr:Int) (ks:List Dtr):Prop:=(0<(sp pr).decl->∃c,ks[(sp pr).decl - 1]? =V c/\Bw c)/\(0<(sp pr).uses->∃c,ks[(sp pr).uses - 1]? =V c/\Bw c)
def LfT (sp:Int->Spc) (n:Dtr):Prop:=∀m∈xy n,∀pr fr to ks,m=.nd pr fr to ks->ZF sp pr ks
theorem R7 {n:Dtr} {ks:List Dtr} (h:n∈ks):∀{m:Dtr},m∈xy n->m∈ya ks:=by
 induction ks with
 |nil=>cases h
 |cons k l ih=>
  intro m g;rw [ya,vd];rcases tD.1 h with rfl|h
  ·exact .inl g
  ·exact .inr (ih h g)
theorem LfT.kid {pr fr to:Int} {ks:List Dtr} (h:LfT sp (.nd pr fr to ks)) {k:Dtr} (g:k∈ks):LfT sp k:=λm r=>h m (by rw [xy];exact Vm _ (R7 g r))
theorem LfT.here {pr fr to:Int} {ks:List Dtr} (h:LfT sp (.nd pr fr to ks)):ZF sp pr ks:=h _ (by rw [xy];exact XA) pr fr to ks rfl
theorem Dv {ks:List Dtr} {q:Nat} (h:∃c,ks[q - 1]? =V c/\Bw c):Zw (ii tx ks) q=WD tx ks q:=by
 obtain ⟨c,g,r⟩:=h;unfold Zw WD;rw [yM,yc,g];cases c with
 |lf w A to=>rw [Vz,U6];rfl
 |nd=>cases r
theorem Dw:∀(l:List Dtr),(∀k∈l,Ys sp (U6 tx k)=yP sp tx k)->IH sp (ii tx l)=Uf sp tx l
 |[],_=>by unfold ii IH Uf;rfl
 |n::l,h=>by rw [ii,IH,Uf,h n (by simp),Dw l λk g=>h k (by simp [g])]
theorem Bx:∀n:Dtr,LfT sp n->Ys sp (U6 tx n)=yP sp tx n:=Dtr.ind (λ_ _ _ _=>by unfold U6 Ys yP;rfl) λw A to r ih h=>by
 rw [U6,Ys,yP,Dw r λk g=>ih k g (h.kid g)];congr 1;unfold Vd t5;by_cases hd:0<(sp w).decl
 ·rw [Χ hd,Χ hd,Dv (h.here.1 hd)]
 ·rw [Υ hd,Υ hd]
theorem R8 {seen:List tU} {pr fr to:Int} {ks:List Dtr} (h:ZF sp pr ks):ZQ sp seen pr (ii tx ks)=WA sp tx seen (.nd pr fr to ks):=by
 show _=if (sp pr).uses=0 then mY else WF (sp pr).allow (bF (WD tx ks (sp pr).uses) seen)
 unfold ZQ;by_cases g:(sp pr).uses=0
 ·rw [Χ g,Χ g]
 ·rw [Υ g,Υ g,Dv (h.2 (by omega))]
theorem Dx:∀(l:List Dtr),(∀k∈l,LfT sp k)->(∀k∈l,∀seen,(WW sp seen (U6 tx k)).map Prod.fst=yp sp tx seen k)->∀seen,(X6 sp seen (ii tx l)).map Prod.fst=US sp tx seen l
 |[],_,_,seen=>by unfold ii X6 US;rfl
 |n::l,hl,h,seen=>by rw [ii,X6,US,yT,h n (by simp),Bx n (hl n (by simp)),Dx l (λk g=>hl k (by simp [g])) λk g=>h k (by simp [g])]
theorem R9:∀n:Dtr,LfT sp n->∀seen,(WW sp seen (U6 tx n)).map Prod.fst=yp sp tx seen n:=Dtr.ind (λ_ _ _ _ seen=>by unfold U6 WW yp;rfl) λw A to r ih h seen=>by rw [U6,WW,nQ,xw];show seen::_=seen::US sp tx seen r;rw [Dx r (λk g=>h.kid g) λk g=>ih k g (h.kid g)]
end
inductive Ttr where
 |lf (tk:Int)
 |nd (pr:Int) (ks:List Ttr)
theorem Ttr.ind {P:Ttr->Prop} (w:∀s,P (.lf s)) (g:∀pr ks,(∀k∈ks,P k)->P (.nd pr ks)):∀n,P n:=λn=>
 Ttr.rec (motive_1:=P) (motive_2:=λks=>∀k∈ks,P k) w (λpr ks ih=>g pr ks ih) (λ_ h=>(by cases h)) (λn l g w k r=>by
  rcases tD.1 r with rfl|r
  ·exact g
  ·exact w k r) n
mutual
def yr:Ttr->Nat
 | .lf _=>1
 | .nd _ ks=>zi ks
def zi:List Ttr->Nat
 |[]=>0
 |n::l=>yr n+zi l
end
section
variable (W:Nat->Int×Int) (gp:Nat->Int)
mutual
def xH (a:Nat):Ttr->Dtr
 | .lf tk=> .lf tk (W a).1 (W a).2
 | .nd pr ks=> .nd pr (gp a) (gp (a+zi ks)) (z9 a ks)
def z9 (a:Nat):List Ttr->List Dtr
 |[]=>[]
 |n::l=>xH a n::z9 (a+yr n) l
end
def Yt (m:Nat):Prop:=∀j,j<m->(W j).1=gp j/\(W j).1<(W j).2/\(W j).2<=gp (j+1)
def YR:Ttr->Prop
 | .lf _=>True
 | .nd pr _=>0<=pr
theorem My {m a:Nat} {n:Ttr} (C:Yt W gp m) (A:a+yr n<=m) (r:YR n):(xH W gp a n).root.fr=gp a/\(if 0<=(xH W gp a n).root.pr then (xH W gp a n).root.to=gp (a+yr n) else (xH W gp a n).root.to<=gp (a+yr n)):=by
 cases n with
 |lf D=>
  unfold yr at A ⊢;obtain ⟨w,_,B⟩:=C a (by omega);unfold xH;refine ⟨w,?_⟩;show if (0:Int)<=-1 then (W a).2=gp (a+1) else (W a).2<=gp (a+1)
  rw [Υ (by decide)];exact B
 |nd h g=>
  unfold xH yr;refine ⟨rfl,?_⟩;show if 0<=h then gp (a+zi g)=gp (a+zi g) else gp (a+zi g)<=gp (a+zi g)
  rw [Χ (show 0<=h from r)]
theorem Dy {m:Nat} (r:Yt W gp m):∀(l:List Ttr) (a:Nat) (at_:Int) (ex:Bool),a+zi l<=m->(∀n∈l,YR n)->(ex=mY->at_=gp a)->at_<=gp a->ma at_ ex ((z9 W gp a l).map Dtr.root) (gp (a+zi l))
 |[],a,at_,ex,_,_,h1,h2=>by
  unfold z9 zi;rw [List.map_nil];unfold ma;split
  ·rename_i h;exact h1 h
  ·exact h2
 |n::l,a,at_,ex,A,hp,h1,h2=>by
  have A:a+(yr n+zi l)<=m:=A;obtain ⟨C,g⟩:=My W gp r (a:=a) (n:=n) (by omega) (hp n (by simp));rw [z9,xw,show zi (n::l)=yr n+zi l from rfl,<- V8];unfold ma;refine ⟨?_,Dy r l (a+yr n) _ _ (by omega) (λk B=>hp k (by simp [B])) (λh=> ?_) ?_⟩
  ·rw [C];rintro (⟨w,D⟩|w)
   ·exact D (h1 w).symm
   ·omega
  ·rw [Χ (ζ h)] at g;exact g
  ·split at g
   ·rw [g];exact Va _
   ·exact g
theorem Gb {m a:Nat} {pr:Int} {ks:List Ttr} (h:Yt W gp m) (r:a+zi ks<=m) (g:∀n∈ks,YR n):ma (gp a) mY ((z9 W gp a ks).map Dtr.root) (gp (a+zi ks)):=
 Dy W gp h ks a (gp a) mY r g (λ_=>rfl) (Va _)
end
mutual
def wD (a:Nat):Ttr->List (Ttr×Nat)
 | .lf tk=>[(.lf tk,a)]
 | .nd pr ks=>(.nd pr ks,a)::yO a ks
def yO (a:Nat):List Ttr->List (Ttr×Nat)
 |[]=>[]
 |n::l=>wD a n++yO (a+yr n) l
end
def Z1 (n:Ttr):Nat:=match n with
 | .lf _=>1
 | .nd _ _=>0
def VK (l:List (Ttr×Nat)):Nat:=(l.map λx=>Z1 x.1).sum
theorem Mz:VK []=0:=rfl
theorem rI (x:Ttr×Nat) (l:List (Ttr×Nat)):VK (x::l)=Z1 x.1+VK l:=by unfold VK;rw [xw,List.sum_cons]
theorem ij (l m:List (Ttr×Nat)):VK (l++m)=VK l+VK m:=by unfold VK;rw [yT,List.sum_append]
theorem Dz:∀(l:List Ttr),(∀k∈l,∀a,VK (wD a k)=yr k)->∀a,VK (yO a l)=zi l
 |[],_,a=>by unfold yO zi;rfl
 |n::l,h,a=>by rw [yO,ij,h n (by simp),Dz l (λk g=>h k (by simp [g]))];rfl
theorem wg:∀(n:Ttr) (a:Nat),VK (wD a n)=yr n:=Ttr.ind (λr a=>by unfold wD yr;rfl) λh g ih a=>by rw [wD,rI,Dz g ih];show 0+zi g=zi g;omega
theorem DA:∀(l:List Ttr),(∀k∈l,∀(a i:Nat) (x:Ttr×Nat),(wD a k)[i]? =V x->x.2=a+VK ((wD a k).take i))->∀(a i:Nat) (x:Ttr×Nat),(yO a l)[i]? =V x->x.2=a+VK ((yO a l).take i)
 |[],_,a,i,x,h=>by rw [yO] at h;simp at h
 |n::l,hk,a,i,x,h=>by
  rw [yO] at h ⊢;by_cases hi:i<(wD a n).length
  ·rw [zR hi] at h;rw [Xh (by omega)];exact hk n (by simp) a i x h
  ·rw [UR (by omega)] at h;rw [List.take_append,zc (by omega),ij,wg];have:=DA l (λk h=>hk k (by simp [h])) (a+yr n) (i - (wD a n).length) x h;omega
theorem Sa:∀(n:Ttr) (a i:Nat) (x:Ttr×Nat),(wD a n)[i]? =V x->x.2=a+VK ((wD a n).take i):=Ttr.ind (λw a i x h=>by
  rw [wD] at h;cases i with
  |zero=>cases h;rfl
  |succ i=>simp at h) λr g ih a i x h=>by
 cases i with
 |zero=>rw [wD] at h;cases h;rfl
 |succ i=>rw [wD,V3] at h;rw [wD,Yh,rI,DA g ih a i x h];show a+VK ((yO a g).take i)=a+(0+VK ((yO a g).take i));omega
section
variable (W:Nat->Int×Int) (gp:Nat->Int)
theorem II:∀(l:List Ttr),(∀k∈l,∀a,vD (xH W gp a k)=(wD a k).map λx=>(xH W gp x.2 x.1).root)->∀a,VC (z9 W gp a l)=(yO a l).map λx=>(xH W gp x.2 x.1).root
 |[],_,a=>by unfold z9 VC yO;rfl
 |n::l,h,a=>by rw [z9,VC,yO,yT,h n (by simp),II l (λk g=>h k (by simp [g]))]
theorem IJ:∀(n:Ttr) (a:Nat),vD (xH W gp a n)=(wD a n).map λx=>(xH W gp x.2 x.1).root:=Ttr.ind (λr a=>by unfold xH vD wD;rfl) λh g ih a=>by
 rw [wD,xw,kX];have e:xH W gp a (.nd h g)=.nd h (gp a) (gp (a+zi g)) (z9 W gp a g):=by rw [xH]
 rw [e];show _::VC (z9 W gp a g)=_;rw [II W gp g ih]
end
structure Tmn where
 pr:Int
 tk:Int
 tx:ο
 rm:List ο
abbrev Tmn.arr (x:Tmn) (r:Sl):Γ:= #[U x.pr,U x.tk,.string x.tx,r.v]
instance:Mem Tmn where
 n:=4
 rep F x c:=∃r,c=x.arr r/\RL F r x.rm
 len h:=by obtain ⟨r,rfl,_⟩:=h;rfl
 le hl h:=by obtain ⟨r,h1,h2⟩:=h;exact ⟨r,h1,h2.le hl⟩
 st h:=by obtain ⟨r,rfl,_⟩:=h;simp [ak,nE]
def kQ:Ttr->Int×Int
 | .lf tk=>(-1,tk)
 | .nd pr _=>(pr,-1)
def Ttr.kids:Ttr->List Ttr
 | .lf _=>[]
 | .nd _ ks=>ks
theorem rJ (a:Nat) (m:Ttr):wD a m=(m,a)::yO a m.kids:=by
 cases m with
 |lf=>unfold wD Ttr.kids yO;rfl
 |nd=>unfold wD Ttr.kids;rfl
def yR (m:Ttr):Nat:=(wD 0 m).length
def yX (l:List Ttr):Nat:=(yO 0 l).length
theorem lT:∀(l:List Ttr),(∀k∈l,∀a b,(wD a k).map (λx=>x.1)=(wD b k).map (λx=>x.1))->∀a b,(yO a l).map (λx=>x.1)=(yO b l).map (λx=>x.1)
 |[],_,a,b=>by unfold yO;rfl
 |n::l,h,a,b=>by rw [yO,yO,yT,yT,h n (by simp) a b,lT l (λk g=>h k (by simp [g])) _ (b+yr n)]
theorem pO:∀(m:Ttr) (a b:Nat),(wD a m).map (λx=>x.1)=(wD b m).map (λx=>x.1):=Ttr.ind (λr a b=>by unfold wD;rfl) λh g ih a b=>by rw [wD,wD,xw,xw,lT g ih a b]
theorem DB (a:Nat) (m:Ttr):(wD a m).length=yR m:=by have:=congrArg List.length (pO m a 0);rwa [ub,ub] at this
theorem DC (a:Nat) (l:List Ttr):(yO a l).length=yX l:=by have:=congrArg List.length (lT l (λk _=>pO k) a 0);rwa [ub,ub] at this
theorem kR (m:Ttr):yR m=1+yX m.kids:=by unfold yR;rw [rJ,wc,DC];omega
theorem fw:yX []=0:=by unfold yX;rw [yO];rfl
theorem i9 (m:Ttr) (l:List Ttr):yX (m::l)=yR m+yX l:=by unfold yX;rw [yO,tT,DB,DC];rfl
theorem kS:∀(l r:List Ttr),yX (l++r)=yX l+yX r
 |[],r=>by rw [zE,fw,ye]
 |m::l,r=>by rw [zK,i9,i9,kS l r,V8]
def Uz (m:Ttr):List (Int×Int):=(wD 0 m).map λx=>kQ x.1
def VZ (l:List Ttr):List (Int×Int):=(yO 0 l).map λx=>kQ x.1
theorem wh (a:Nat) (m:Ttr):(wD a m).map (λx=>kQ x.1)=Uz m:=by have:=congrArg (List.map kQ) (pO m a 0);rw [X3,X3] at this;exact this
theorem IK (a:Nat) (l:List Ttr):(yO a l).map (λx=>kQ x.1)=VZ l:=by have:=congrArg (List.map kQ) (lT l (λk _=>pO k) a 0);rw [X3,X3] at this;exact this
theorem rK (m:Ttr):Uz m=kQ m::VZ m.kids:=by unfold Uz;rw [rJ,xw,IK]
theorem jB:VZ []=[]:=by unfold VZ;rw [yO];rfl
theorem gJ (m:Ttr) (l:List Ttr):VZ (m::l)=Uz m++VZ l:=by unfold VZ;rw [yO,yT,IK];rfl
theorem rL:∀(l r:List Ttr),VZ (l++r)=VZ l++VZ r
 |[],r=>by rw [zE,jB,zE]
 |m::l,r=>by rw [zK,gJ,gJ,rL l r,xK]
theorem eO (m:Ttr):(Uz m).length=yR m:=by unfold Uz yR;rw [ub]
theorem MA (l:List Ttr):(VZ l).length=yX l:=by unfold VZ yX;rw [ub]
mutual
def wm (g:Gr) (c:Cf):Sy->Ttr->Prop
 |s,.lf tk=>s=⟨mY,tk⟩/\0<=tk/\tk<g.qa2.length/\(eG g tk).ev c=mY
 |s,.nd pr ks=>∃p,VD g pr=V p/\s=⟨mz,p.left⟩/\(uc p.cond).ev c=mY/\TrL g c p.right ks
def TrL (g:Gr) (c:Cf):List Sy->List Ttr->Prop
 |[],[]=>True
 |s::r,k::ks=>wm g c s k/\TrL g c r ks
 |[],_::_=>False
 |_::_,[]=>False
end
theorem TrL.snoc {g:Gr} {c:Cf} {s:Sy} {k:Ttr}:∀{r:List Sy} {ks:List Ttr},TrL g c r ks->wm g c s k->TrL g c (r++[s]) (ks++[k])
 |[],[],_,h=>by show TrL g c [s] [k];unfold TrL;exact ⟨h,by unfold TrL;trivial⟩
 |x::r,y::ks,h,h2=>by rw [zK,zK];unfold TrL at h ⊢;exact ⟨h.1,TrL.snoc h.2 h2⟩
 |[],_::_,h,_=>by unfold TrL at h;exact h.elim
 |_::_,[],h,_=>by unfold TrL at h;exact h.elim
theorem TrL.nil {g:Gr} {c:Cf}:TrL g c [] []:=by unfold TrL;trivial
def qgt (g:Gr) (c:Cf):Dtr->Prop
 | .lf tk _ _=>(eG g tk).ev c=mY
 | .nd pr _ _ _=>∃p,VD g pr=V p/\(uc p.cond).ev c=mY
section
variable {g:Gr} {c:Cf} {W:Nat->Int×Int} {gp:Nat->Int}
theorem Sc {s:Sy} {m:Ttr} (h:wm g c s m) (a:Nat):XD g (xH W gp a m)=s:=by
 cases m with
 |lf C=>unfold wm at h;unfold xH;rw [h.1];rfl
 |nd B A=>unfold wm at h;obtain ⟨p,w,r,_⟩:=h;unfold xH;show (⟨mz,_⟩:Sy)=s;rw [w,r];rfl
theorem DD:∀{r:List Sy} {l:List Ttr},TrL g c r l->∀a,(z9 W gp a l).map (XD g)=r
 |[],[],_,a=>by unfold z9;rfl
 |s::r,k::ks,h,a=>by unfold TrL at h;rw [z9,xw,Sc h.1,DD h.2]
 |[],_::_,h,_=>by unfold TrL at h;exact h.elim
 |_::_,[],h,_=>by unfold TrL at h;exact h.elim
theorem rM {n:Nat} (r:Yt W gp n):∀{a b:Nat},a<=b->b<=n->gp a<=gp b:=λ{a b} h=>by
 induction h with
 |refl=>exact λ_=>Va _
 |step h ih=>intro A;rename_i m;have B:=r m (by omega);have w:=ih (by omega);show gp a<=gp (m+1);omega
def qgu (m:Dtr):Prop:=match m with
 | .lf _ _ _=>True
 | .nd _ fr to ks=>ma fr mY (ks.map Dtr.root) to
theorem IL {s:Sy} {m:Ttr} (h:wm g c s m):YR m:=by
 cases m with
 |lf=>trivial
 |nd A w=>unfold wm at h;obtain ⟨p,r,_⟩:=h;exact (bA r).1
theorem DE:∀{r:List Sy} {l:List Ttr},TrL g c r l->∀m∈l,YR m
 |[],[],_,m,w=>by cases w
 |s::r,k::ks,h,m,w=>by
  unfold TrL at h;rcases tD.1 w with rfl|w
  ·exact IL h.1
  ·exact DE h.2 m w
 |[],_::_,h,_,_=>by unfold TrL at h;exact h.elim
 |_::_,[],h,_,_=>by unfold TrL at h;exact h.elim
def ZG (g:Gr) (c:Cf) (m:Dtr):Prop:=Gt g m/\qgt g c m/\qgu m
theorem IM {n:Nat}:∀(l:List Ttr),(∀k∈l,∀(s:Sy) (a:Nat),wm g c s k->a+yr k<=n->∀m∈xy (xH W gp a k),ZG g c m)->∀(r:List Sy) (a:Nat),TrL g c r l->a+zi l<=n->∀m∈ya (z9 W gp a l),ZG g c m
 |[],_,r,a,_,_,m,w=>by unfold z9 ya at w;cases w
 |k::l,ih,[],a,h,_,m,w=>by unfold TrL at h;exact h.elim
 |k::l,ih,s::r,a,h,ha,m,w=>by
  unfold TrL at h;unfold zi at ha;rw [z9,ya,vd] at w;rcases w with w|w
  ·exact ih k (by simp) s a h.1 (by omega) m w
  ·exact IM l (λk A=>ih k (by simp [A])) r _ h.2 (by omega) m w
theorem qdw {n:Nat} (G:0<=gp 0) (B:Yt W gp n):∀(t:Ttr) (s:Sy) (a:Nat),wm g c s t->a+yr t<=n->∀m∈xy (xH W gp a t),ZG g c m:=Ttr.ind (λH s a h w m r=>by
  unfold wm at h;unfold yr at w;unfold xH xy at r;rw [vy] at r;subst r;obtain ⟨C,E,_⟩:=B a (by omega);have:=rM B (yv a) (by omega)
  exact ⟨⟨h.2.1,h.2.2.1,by omega,E⟩,h.2.2.2,trivial⟩) λpr A ih s a h w m r=>by
 have J:=IL h;unfold wm at h;obtain ⟨p,C,E,F,D⟩:=h;unfold yr at w;rw [fi] at r;have e:xH W gp a (.nd pr A)=.nd pr (gp a) (gp (a+zi A)) (z9 W gp a A):=by rw [xH]
 rw [e] at r;rcases tD.1 r with rfl|r
 ·have:=rM B (yv a) (by omega);have:=rM B (Nat.le_add_right a (zi A)) w;exact ⟨⟨by omega,by omega,p,C,(DD D a).symm⟩,⟨p,C,F⟩,Gb W gp (pr:=pr) B w (DE D)⟩
 ·exact IM A ih _ _ D w m r
theorem Gc:∀(t:Ttr) (a i:Nat) (x:Ttr×Nat),(wD a t)[i]? =V x->∃b d,wD a t=b++wD x.2 x.1++d/\b.length=i:=by
 have r:∀(l:List Ttr),(∀k∈l,∀(a i:Nat) (x:Ttr×Nat),(wD a k)[i]? =V x->∃b d,wD a k=b++wD x.2 x.1++d/\b.length=i)->∀(a i:Nat) (x:Ttr×Nat),(yO a l)[i]? =V x->∃b d,yO a l=b++wD x.2 x.1++d/\b.length=i:=by
  intro l;induction l with
  |nil=>intro _ a i x h;rw [yO] at h;simp at h
  |cons n l ih=>
   intro B a i x h;rw [yO] at h ⊢;by_cases hi:i<(wD a n).length
   ·rw [zR hi] at h;obtain ⟨b,d,e,w⟩:=B n (by simp) a i x h;exact ⟨b,d++yO (a+yr n) l,by rw [e];simp only [xK],w⟩
   ·rw [UR (by omega)] at h;obtain ⟨b,d,e,w⟩:=ih (λk h=>B k (by simp [h])) _ _ x h;exact ⟨wD a n++b,d,by rw [e];simp only [xK],by rw [tT,w];omega⟩
 refine Ttr.ind (λD a i x h=> ?_) λC A ih a i x h=> ?_
 ·rw [wD] at h;cases i with
  |zero=>cases h;exact ⟨[],[],by simp,rfl⟩
  |succ i=>simp at h
 ·rw [rJ] at h;cases i with
  |zero=>cases h;exact ⟨[],[],by simp,rfl⟩
  |succ i=>rw [V3] at h;obtain ⟨b,d,e,w⟩:=r A ih a i x h;refine ⟨(.nd C A,a)::b,d,?_,by rw [wc,w]⟩;rw [rJ,show (Ttr.nd C A).kids=A from rfl,e];simp
end
end
end Go.Proofs.YteilolbbgieadaaGreatDoor
namespace Go.Proofs.YteilolbbgieadaaGreatDoor
open Go.IntKind (i64 u8 u64)
open Sl renaming v->nE,nil->pi,mk->ua
open Go Go.Proofs.Tryz Tr
abbrev Ns:=List (Int×Sl×Φ)
def V0:Ns->Int->Option ξ
 |[],_=>I
 |e::l,a=>if a=e.1 then V e.2.1.v else V0 l a
def Ve:Ns->Int->Φ
 |[],_=>[]
 |e::l,a=>if a=e.1 then e.2.2 else Ve l a
theorem rN {e:Int×Sl×Φ} {l:Ns} {a:Int} (h:a=e.1):V0 (e::l) a=V e.2.1.v:=Χ h
theorem nI {e:Int×Sl×Φ} {l:Ns} {a:Int} (h:a≠e.1):V0 (e::l) a=V0 l a:=Υ h
theorem nJ {e:Int×Sl×Φ} {l:Ns} {a:Int} (h:a=e.1):Ve (e::l) a=e.2.2:=Χ h
theorem kT {e:Int×Sl×Φ} {l:Ns} {a:Int} (h:a≠e.1):Ve (e::l) a=Ve l a:=Υ h
def WN (l:Ns):List (Ψ):=l.map λe=>own e.2.1 3 1 (e.2.2.map U)
section
variable {G F:PH}
theorem St.init {As Bs:List (Ψ)} (h:St G F (As++Bs)):St G F As:=h.pick id (λ_ _ _ _ e=>e) λi hi=>by rw [id,zR hi]
theorem St.mid {A:Ψ} {Ps w:List (Ψ)} (h:St G F (Ps++A::w)):St G F (A::(Ps++w)):=by
 refine h.pick (λi=>if i=0 then Ps.length else if i<=Ps.length then i - 1 else i) (λi j _ _ e=> ?_) (λi hi=> ?_)
 ·split at e<;>split at e<;>(try split at e)<;>(try split at e)<;>omega
 ·by_cases g:i=0
  ·rw [Χ g,g,UR (qX _),XL];rfl
  ·obtain ⟨j,rfl⟩:∃j,i=j+1:=⟨i - 1,by omega⟩;rw [Υ g];by_cases r:j+1<=Ps.length
   ·rw [Χ r,Nat.add_sub_cancel,V3,zR (by omega),zR (by omega)]
   ·rw [Υ r,V3,UR (by omega),UR (by omega)];rw [show j+1 - Ps.length=(j - Ps.length)+1 by omega,V3]
theorem DF (a:Int):∀(l:Ns) (Ps:List (Ψ)),(l.map (·.1)).Nodup->St G F (Ps++WN l)->∃s l',St G F (own s 3 1 ((Ve l a).map U)::(Ps++WN l'))/\(V0 l a).getD (nE pi)=s.v/\
  (∀k,k≠a->V0 l' k=V0 l k/\Ve l' k=Ve l k)/\(l'.map (·.1)).Sublist (l.map (·.1))/\a ∉ l'.map (·.1)
 |[],Ps,_,h=>⟨pi,[],h.nilOwn _ _,rfl,λ_ _=>⟨rfl,rfl⟩,List.Sublist.refl _,by simp⟩
 |e::l,Ps,hn,h=>by
  rw [xw,WT] at hn;by_cases r:a=e.1
  ·have B:St G F (Ps++own e.2.1 3 1 (e.2.2.map U)::WN l):=h;refine ⟨e.2.1,l,?_,?_,λk A=> ?_,?_,by rw [r];exact hn.1⟩
   ·have:=B.mid;rw [nJ r];exact this
   ·rw [rN r];rfl
   ·have w:k≠e.1:=by rw [<- r];exact A
    exact ⟨(nI w).symm,(kT w).symm⟩
   ·rw [xw];exact List.sublist_cons_self _ _
  ·have B:St G F ((Ps++[own e.2.1 3 1 (e.2.2.map U)])++WN l):=by rw [xK];exact h
   obtain ⟨s,l',C,E,K,L,J⟩:=DF a l _ hn.2 B;refine ⟨s,e::l',?_,?_,λk A=> ?_,?_,?_⟩
   ·rw [xK] at C;rw [kT r];exact C
   ·rw [nI r];exact E
   ·obtain ⟨H,D⟩:=K k A;by_cases g:k=e.1
    ·rw [rN g,rN g,nJ g,nJ g];exact ⟨rfl,rfl⟩
    ·rw [nI g,nI g,kT g,kT g];exact ⟨H,D⟩
   ·rw [xw,xw];exact L.cons_cons _
   ·rw [xw,tD,not_or];exact ⟨r,J⟩
theorem IN:∀(l:Ns) {G:PH},St G F (WN l)->∃r,G.le r/\(∀e∈l,RL r e.2.1 e.2.2)/\St r F []
 |[],G,h=>⟨G,au _,λ_ h=>(by cases h),h⟩
 |e::l,G,h=>by
  have H:St G F (own e.2.1 3 1 (e.2.2.map U)::WN l):=h;obtain ⟨J,D,hd,E⟩:=H.pinO;obtain ⟨B,A,g,C⟩:=IN l E;refine ⟨B,aa D A,λx w=> ?_,C⟩;rcases tD.1 w with rfl|w
  ·exact RL.ints.2 (hd.le A)
  ·exact g x w
theorem IP {a:Int}:∀{l:Ns},(V0 l a=I/\Ve l a=[])\/∃e∈l,V0 l a=V e.2.1.v/\Ve l a=e.2.2
 |[]=> .inl ⟨rfl,rfl⟩
 |e::l=>by
  by_cases g:a=e.1
  ·rw [rN g,nJ g];exact .inr ⟨e,by simp,rfl,rfl⟩
  ·rw [nI g,kT g];rcases IP (a:=a) (l:=l) with h|⟨x,r,h⟩
   ·exact .inl h
   ·exact .inr ⟨x,Vm _ r,h⟩
end
section
variable {G F:PH} {g:Gr} {ms b4:Nat} {a0:Θ} {T:Int×Int->Tr} {R:VR} {K:List (Int×Int)}
theorem qdx {B:Array MapEntry} {c:Nat} {L:List ((Int×Int)×ξ)} {mp:Int×Int->Option ξ} (q4:G b4=V (Y #[.map (V ms)] 211)) (qs:G ms=V (.map B c)) (hL:ry gA mp B c L) (hS:i7 G T mp) (hK:∀n,mp n≠I->n∈K) (c6:K.length<=1000000)
  (h:St G F []) (fin:∀C J b14 N nx,G.le C->CyE C b14 N b4 ms nx T->(∀a b,T (a,b)≠qa6 mz->b∈nx a)->(∀a b,b∈nx a->(a,b)∈K)->(∀a,(nx a).length<=K.length)->St C J []->vU a0 b4 b14 R J):
  vV a0 b4 R F:=by
 obtain ⟨_,_,TI⟩:=R1;unfold vV;refine h.newMap be λN F1 h=> ?_;refine h.var1 λb14 G1 F2 l1 a7 h=> ?_;have c5:B.size<=K.length:=by rw [hL.len,<- ub (f:=(·.1))];refine f8 hL.nodup λx W=> ?_;obtain ⟨p,hp,rfl⟩:=w9.1 W;refine hK _ ?_;rw [hL.lk,(jx hL.nodup).2 hp];simp
 refine ⟨_,ld (h.le _ _ (l1 _ _ q4)) rfl,?_⟩;refine h.rangeG underlying211 gA (h.le _ _ (l1 _ _ qs)) λr F3 h=> ?_
 refine ⟨λq J=>∃(C:PH) (A:List (Int×Int)) (l:Ns),q=B.size - A.length/\G1.le C/\A.Nodup/\(∀n∈A,∃v,mp n=V v)/\(l.map (·.1)).Nodup/\(∀a b,b∈Ve l a↔(a,b)∈A)/\(∀a,(Ve l a).length<=A.length)/\
  ∃Bs,St C J ([itG gA ms r B c A,W2 N be (V0 l)]++WN l++Bs),B.size,⟨G1,[],[],rfl,au _,List.nodup_nil,λ_ h=>(by cases h),List.nodup_nil,λa b=>by simp [Ve],λa=>by simp [Ve],[],h⟩,?_⟩
 rintro q F4 ⟨G2,A,l,rfl,l2,a2,M,a3,P,a1,Bs,h⟩;replace h:St G2 F4 (itG gA ms r B c A::W2 N be (V0 l)::WN l):=St.init (As:=[itG gA ms r B c A,W2 N be (V0 l)]++WN l) h;unfold It;have b9:=aa l1 l2;refine h.nextG hL yF a2 M (h.le _ _ (b9 _ _ qs)) (λa8=> ?_) λn v F5 b7 c3 c7 h hr a9=> ?_
 ·refine ⟨_,rfl,mz,rfl,λhc=>(by cases hc),λ_=> ?_⟩;have h1:=h.tail;obtain ⟨G3,l3,⟨H,⟨o,e1,e2⟩,hH⟩,h2⟩:=h1.pin;obtain ⟨G4,X,b8,h3⟩:=IN l h2;have a6:=aa l2 (aa l3 X);have Q:=aa l1 a6;refine fin G4 F4 b14 N (Ve l) Q ⟨a6 _ _ a7,Q _ _ q4,⟨o,_,X _ _ (hH _ _ e1),e2,λa=> ?_⟩,⟨_,mp,Q _ _ qs,⟨B,c,L,rfl,hL.eq,hL.lk⟩,hS.le Q⟩⟩ (λa b hT=> ?_) (λa b hb=> ?_) (λa=> ?_) h3
  ·rcases IP (a:=a) (l:=l) with h|⟨e,he,g1,g2⟩
   ·exact .inl h
   ·exact .inr ⟨e.2.1,g1,by rw [g2];exact b8 e he⟩
  ·refine (P a b).2 ?_;rcases hS (a,b) with ⟨_,e⟩|⟨w,e,_⟩
   ·exact absurd e hT
   ·exact a8 _ _ e
  ·obtain ⟨v,hv⟩:=M _ ((P a b).1 hb);exact hK _ (by rw [hv];simp)
  ·have b1:A.length<=K.length:=f8 a2 λx W=>by obtain ⟨v,hv⟩:=M x W;exact hK _ (by rw [hv];simp)
   exact Wz (a1 a) b1
 ·refine ⟨_,rfl,mY,rfl,λ_=> ?_,λhc=>(by cases hc)⟩;refine ⟨_,a9,B5 n,rfl,?_⟩;refine h.var (by simp [ak]) (λc4 G3 F6 l3 a5 h=> ?_) rfl rfl;have b0:=aa l2 l3;have b2:=b0 _ _ a7;have c0:∀{C J:PH} {As:List (Ψ)},G3.le C->St C J As->J.cell (nR (ou c4 0 I) (nT (0:Int)*1))=V (U n.1):=λl h=>by rw [aI];exact ld (h.le _ _ (l _ _ a5)) rfl
  have O:∀{C J:PH} {As:List (Ψ)},G3.le C->St C J As->J.cell (ou b14 0 I)=V (.map (V N)):=λl h=>ld (h.le _ _ (l _ _ b2)) rfl;obtain ⟨s,l',h,b6,E,b5,c2⟩:=DF n.1 l [itG gA ms r B c (A++[n]),W2 N be (V0 l)] a3 h;have h:St G3 F6 (own s 3 1 ((Ve l n.1).map U)::itG gA ms r B c (A++[n])::W2 N be (V0 l)::WN l'):=h;have D:=h.lookAt (i:=2) rfl R3 n.1 mz;rw [Υ YK,b6] at D;refine ⟨_,O (au _) h,by decide,by decide,_,c0 (au _) h,_,O (au _) h,by decide,by decide,_,c0 (au _) h,s,D,by decide,by decide,n.2,?_,?_⟩
  ·rw [aI];exact ld (h.le _ _ a5) rfl
  ·have b3:s.len=(Ve l n.1).length:=by have:=(bP.rd (h.ownAt (i:=0) rfl).1).len;rw [ub,xB] at this;exact this.symm
   have c8:=a1 n.1;refine h.push0 TI (c:= #[U n.2]) rfl (by simp [ak]) (by omega) λs' G4 F7 X h c9=> ?_;refine ⟨c0 X h,O X h,c0 X h,O X h,?_⟩;refine h.updAt 2 rfl R3 n.1 (nE s') λF8 h=> ?_;have a4:((n.1,s',Ve l n.1++[n.2])::l').map (·.1)=n.1::l'.map (·.1):=rfl;refine ⟨B.size - (A++[n]).length,by rw [tT,Uc];omega,G4,A++[n],(n.1,s',Ve l n.1++[n.2])::l',rfl,aa b0 X,?_,λx W=> ?_,?_,λa b=> ?_,λa=> ?_,[],?_⟩
   ·rw [Vw];exact ⟨a2,by simp,λa ha b hb e=>c3 (by rw [vy.1 hb] at e;rw [<- e];exact ha)⟩
   ·rcases vd.1 W with W|W
    ·exact M x W
    ·rw [vy.1 W];exact ⟨v,b7⟩
   ·rw [a4,WT];exact ⟨c2,b5.nodup a3⟩
   ·by_cases e:a=n.1
    ·rw [nJ e,vd,vy,vd,vy,e,P];exact or_congr_right ⟨λh=>by rw [h],λh=>congrArg Prod.snd h⟩
    ·rw [kT e,(E a e).2,P,vd,vy];exact ⟨.inl,λh=>h.resolve_right λh=>e (congrArg Prod.fst h)⟩
   ·have:=a1 a;by_cases e:a=n.1
    ·rw [nJ e,tT,tT,Uc,Uc];omega
    ·rw [kT e,(E a e).2,tT];omega
   ·have em:(λk'=>if k'=n.1 then V (nE s') else V0 l k')=V0 ((n.1,s',Ve l n.1++[n.2])::l'):=by
     funext k';by_cases e:k'=n.1
     ·rw [Χ e,rN e]
     ·rw [Υ e,nI e,(E k' e).1]
    rw [em] at h;have h2:=h.back2;rw [yn];have e3:WN ((n.1,s',Ve l n.1++[n.2])::l')=own s' 3 1 ((Ve l n.1).map U++[U n.2])::WN l':=by unfold WN;rw [xw,yT];rfl
    rw [e3];exact h2
end
theorem yN {g:Type} (k:Nat) (S:g->Tr):∀keys:List g,mu k keys S<=keys.length*2 ^ k
 |[]=>yv _
 |x::l=>by
  have:=yN k S l;have e:mu k (x::l) S=(2 ^ k - wt k (S x))+mu k l S:=by unfold mu;rw [xw,List.sum_cons]
  rw [e,wc,Wo,Ww,XK];exact Nat.add_le_add this (Nat.sub_le _ _)
theorem RdS.at6 {F:PH} {s:Sl} {vs:Ξ} (h:RdS F s 1 vs) {i:Nat} {v:ξ} (hi:vs[i]? =V v):∃a,s.qa5=V a/\0<=(i:Int)/\(i:Int)<(s.len:Int)/\F.cell (nR a (nT (i:Int)*1))=V v:=by obtain ⟨g,rfl⟩:=N6.1 hi;have A:=h.len;obtain ⟨b,o,r,w⟩:=h.cells (by omega);refine ⟨_,r,by omega,by omega,?_⟩;rw [N4,xB,aI];exact w i g
theorem MB {G B F:PH} {As:List (Ψ)} {m i:Nat} {S:Int->Tr} (h:St G F As) (hi:As[i]? =V (mS be B m S)) (D:B.le G) (n:Int):∃w,pn prog (Instr.lookup 170 (.map (V m)) (U n) mz) F (nL w)/\DV G w (pg (S n)):=by
 obtain ⟨o,mp,E,C,H⟩:=h.mS_at hi;have g:=bM (F:=F) Iw E C n mz;rcases H n with ⟨A,r⟩|⟨w,A,r⟩
 ·rw [A] at g;exact ⟨zD,g,by rw [r];exact DV.mk (s:=pi) (d:=pg (qa6 mz)) (RL.nil G)⟩
 ·rw [A] at g;exact ⟨w,g,r.le D⟩
section
variable {G F:PH} {g:Gr} {k ms mn ban b4 b14:Nat} {T:Int×Int->Tr} {nx:Int->Φ} {R:VR}
theorem qdy {K:List (Int×Int)} (hk:OkK g k) (hn:g.qa1.length<=1000000) (b8:AnV G ban g) (E:CyE G b14 mn b4 ms nx T) (hT:yD k g.qa0 (bI g) T) (h1:∀a b,T (a,b)≠qa6 mz->b∈nx a) (h2:∀a b,b∈nx a->(a,b)∈K) (h3:∀a,(nx a).length<=K.length) (b0:K.length<=1000000)
  (h:St G F []) (fin:∀J F' O C,G.le J->ut k g.qa1.length g.qa0 (bI g) C->St J F' [mG be (tW g.qa1.length) J O C]->R (.map (V O)) F'):
  vU (V (ou ban 0 I)) b4 b14 R F:=by
 obtain ⟨_,_,TI⟩:=R1;obtain ⟨c,n,t,s,p,lv,f,q,qa,hs,hq⟩:=b8.ex;have es:=hs.s.len;have a3:DV G #[n.v,U g.fam.2] (pg (uc g.fam)):=by rw [<- hk.fam.2];exact DV.mk hs.n
 have L:∀a,∀m∈nx a,m∈K.map (·.2):=λa m hm=>w9.2 ⟨_,h2 a m hm,rfl⟩;have d1:(K.map (·.2)).length*2 ^ k<=64000000:=by rw [ub];have:2 ^ k<=64:=Wz (Wu (by decide) hk.le) (by decide);exact Wz (Yo b0 this) (by decide)
 unfold vU;refine h.new λO F1 h=> ?_;have h:=h.mG_new be (tW g.qa1.length);refine ⟨_,rfl,_,by rw [aI];exact ld (h.le _ _ qa) rfl,?_⟩
 refine bC (Bm · (ou ban 0 I) b4 b14 O s R) g.qa1.length (λi F'=>∃(J:PH) (C:Int->Tr),G.le J/\Sxs k C/\(∀(a:Nat) c,a<i->((C a).ev c=mY↔Tg (WY g.qa0 (bI g) c) a a))/\(∀a:Nat,i<=a->C a=qa6 mz)/\
  ∃Bs,St J F' (mG be (tW g.qa1.length) J O C::Bs)) ⟨G,_,au _,λ_=>Sx.qa6 k mz,λa c X=>by omega,λ_ _=>rfl,[],h⟩ ?_
 rintro i F2 N1 hi ⟨G2,C,l2,hC,Q,P,Bs,h⟩ next;have h:=h.hd;have E2:=E.le l2;unfold Bm;refine ⟨λB=> ?_,λc7=> ?_⟩
 ·have B:i<g.qa1.length:=by omega
  obtain ⟨sn,c2,a9⟩:=E2.look h.le (i:Int);have c8:=a9.len;refine ⟨_,ld (h.le _ _ E2.q14) rfl,sn,c2,λh0=> ?_,λh0=> ?_⟩
  ·have e0:nx (i:Int)=[]:=V5 (by omega);unfold vT;rw [aC B];refine next _ B ⟨G2,C,l2,hC,λa c X=> ?_,λa X=>P a (by omega),[],h⟩;by_cases e:a=i
   ·subst e;rw [P a (qX _)];refine ⟨λh=>(by cases h),λtg=> ?_⟩;obtain ⟨d,hd⟩:=tg.head;have:=(hT.iff ((a:Int),d) c).2 hd;have a0:=h1 a d λe=>by rw [e] at this;cases this
    rw [e0] at a0;cases a0
   ·exact Q a c (by omega)
  ·refine h.new λmr F3 h=> ?_;have h:=h.toMap be;refine h.var1 λc9 G3 F4 l3 a1 h=> ?_;refine h.new λr F5 h=> ?_;have h:=h.imp (A':=VA 3 (ua (V (ou r 0 I)) 0 0) []) 0 rfl λH _ hH=>FX hH;refine h.new λa5 F6 h=> ?_;refine h.set0 (w':= #[nE (ua (V (ou r 0 I)) 0 0)]) (vx rfl) rfl λF7 h=> ?_;have N:=aa l2 l3;refine ⟨#[n.v,U g.fam.2],rfl,by rw [aI];exact fX (h.le _ _ (N _ _ qa)) rfl,?_⟩;have h:St G3 F7 (mS be G3 mr (λ_=>qa6 mz)::pt a5 (Y #[nE (ua (V (ou r 0 I)) 0 0)] 76)::VA 3 (ua (V (ou r 0 I)) 0 0) (([]:Φ).map U)::[mG be (tW g.qa1.length) G2 O C]):=
    (h.front2).imp 0 rfl λ_ _ hH=>mS.le hH l3
   refine (oC (keys:=K.map (·.2)) hk.le (E.le N) a1 hT.sx hk.fam.1 (a3.le N) (λ_=>Sx.qa6 k mz) (λm=>h1 _ m) (λm=>L _ m) (by have:=h3 i;omega) (by simp) h).mono ?_;rintro _ F8 ⟨G4,R4,ps,c4,rfl,l4,hv,h⟩;have c3:=aa N l4;refine ⟨rfl,?_⟩;have c5:=yN k (λ_:Int=>qa6 mz) (K.map (·.2))
   refine ⟨λq F'=>∃(J:PH) (R':Int->Tr) (D:Φ) (a6:Sl),q=mu k (K.map (·.2)) R'+D.length/\G4.le J/\q<=64000000/\Bfs k g.qa0 (bI g) T (uc g.fam) i R' D/\
    St J F' (mS be J mr R'::pt a5 (Y #[nE a6] 76)::VA 3 a6 (D.map U)::[mG be (tW g.qa1.length) G2 O C]),_,⟨G4,R4,ps,c4,rfl,au _,by have:=hv.mu;omega,Bfs.start hT hv,h⟩,?_⟩
   rintro q F9 ⟨G5,R5,D,A,rfl,l5,b7,hb,h⟩;have b9:=aa c3 l5;have M:=l5 _ _ (l4 _ _ a1);have W:=h.queAt (i:=2) rfl;have a2:=W.len;rw [ub,xB] at a2;have b3:=W.cap;unfold Is;refine ⟨_,ld (h.ptAt (i:=1) rfl) rfl,λc6=> ?_,λhz=> ?_⟩
   ·cases D with
    |nil=>rw [W7] at a2;omega
    |cons m D=>
     obtain ⟨a,g1,g2,g3,g4⟩:=W.at6 (i:=0) (v:=U m) rfl;refine ⟨_,ld (h.ptAt (i:=1) rfl) rfl,a,g1,g2,g3,m,g4,_,ld (h.ptAt (i:=1) rfl) rfl,by omega,b3,?_⟩;refine h.set1 (w':= #[nE (Sl.cut A 1 1 A.len A.cap)]) (vx rfl) rfl λb5 h=> ?_;have h:=h.imp (A':=VA 3 (Sl.cut A 1 1 A.len A.cap) (D.map U)) 2 rfl λH _ hH=>Mv hH;rw [wc] at b7;refine ⟨λd0=> ?_,λhe=> ?_⟩
     ·obtain ⟨w,b2,hw⟩:=MB h (i:=0) rfl (au _) m;refine ⟨_,ld (h.le _ _ M) rfl,w,b2,?_⟩;refine (oC (keys:=K.map (·.2)) hk.le (E.le b9) M hT.sx (hb.sx m) hw hb.sx (λm'=>h1 _ m') (λm'=>L _ m') (by have:=h3 m;omega) (by omega) h).mono ?_;rintro _ b6 ⟨G6,R6,a4,b1,rfl,l6,a7,h⟩;have:=a7.mu;exact ⟨rfl,_,by rw [wc];show mu k (K.map (·.2)) R6+(D++a4).length<_;rw [tT];omega,G6,R6,D++a4,b1,rfl,aa l5 l6,by rw [tT];omega,hb.visit hT a7,h⟩
     ·have he:m=(i:Int):=by simpa using he
      subst he;exact ⟨_,by rw [wc];show mu k (K.map (·.2)) R5+D.length<_;omega,G5,R5,D,_,rfl,l5,by omega,hb.skip,h⟩
   ·have e0:D=[]:=V5 (by omega);subst e0;unfold Ir;refine ⟨_,ld (h.le _ _ M) rfl,?_⟩;refine (lO h (au _) (i:Int)).mono ?_;rintro _ b5 ⟨G6,w,rfl,hw,l6,h⟩;refine ⟨w,rfl,?_⟩;have a8:G2.le G6:=aa l3 (aa l4 (aa l5 l6));refine h.mG_put Iw yG 3 rfl a8 (vQ (Iz B)) hw λb6 h=> ?_;unfold vT;rw [aC B];refine next _ B ⟨G6,_,aa l2 a8,hC.upd (hb.sx _),λa c X=> ?_,λa X=> ?_,_,h.front3⟩
    ·unfold j9;by_cases e:a=i
     ·rw [Χ (by rw [e]),e];exact hb.fin hT (λa b c=>hk.stp_fam) c
     ·rw [Υ (by omega)];exact Q a c (by omega)
    ·unfold j9;rw [Υ (by omega)];exact P a (by omega)
 ·have e:i=g.qa1.length:=by omega
  subst e;unfold Iq;exact fin G2 F2 O C l2 ⟨hC,λa c X=>Q a c X⟩ h
end
section
variable {G F:PH} {g:Gr} {k:Nat}
theorem dm (h:OkG g):g.qa0.length<=2000/\g.qa1.length<=2000/\g.qa2.length<=256/\∀x∈g.qa0,x.right.length<=16:=by have r:=h.large;unfold dN at r;rw [Bool.or_eq_false_iff,List.any_eq_false] at r;have:=ι r.1;refine ⟨by omega,by omega,by omega,λx A=> ?_⟩;have w:=r.2 x A;rw [δ] at w;omega
theorem qh2 {A:Nat} (E:OkK g k) (w:AnV G A g) (h:St G F []):
  ν 80 #[ph (V ⟨A,0,I⟩)] F λr F'=>∃O J C,r=.map (V J)/\G.le O/\ut k g.qa1.length g.qa0 (bI g) C/\St O F' [mG be (tW g.qa1.length) O J C]:=by
 obtain ⟨o1,o2,o3,o4⟩:=dm E.ok;have hl:∀x∈g.qa0,x.right.length<=1000000:=λx hx=>by have:=o4 x hx;omega
 have B:(iQ g.qa0).length<=1000000:=by have:=FW o4;omega
 refine qgo ?_;unfold UX;refine (qhn E hl (by omega) w h).mono ?_;rintro _ F1 ⟨G1,a1,N,rfl,Q,R,h⟩;refine ⟨_,rfl,?_⟩;refine h.new λms F2 h=> ?_;have h:=h.mG_new gA (iQ g.qa0);refine h.var1 λb4 G2 F3 K q4 h=> ?_;obtain ⟨c,n,t,s,p,lv,f,q,W,hs,hq⟩:=(w.le (aa Q K)).ex;refine ⟨_,rfl,_,by rw [aI];exact ld (h.le _ _ W) rfl,?_⟩;refine qdt E R.sx K hl (by omega) hs.p ⟨c,n,t,s,p,lv,f,W⟩ hq q4 (h.imp 0 rfl λ_ _ P=>mG.le P K) λG3 F4 X h=> ?_;obtain ⟨G4,M,⟨H,⟨o,mp,e1,⟨es,cc,L,rfl,hL⟩,e3,e4⟩,P⟩,h⟩:=h.pin;refine qdx (M _ _ (X _ _ q4)) (P _ _ e1) hL (e3.le M) e4 B h λG5 F5 a0 mn nx l5 E5 g1 g2 g3 h=> ?_;have D:=aa Q (aa K (aa X (aa M l5)));refine qdy E (by omega) (w.le D) E5 (Mu R E.prs) g1 g2 g3 B h λG6 F6 J C l6 hC h=> ?_;exact ⟨G6,J,C,rfl,aa D l6,hC,h⟩
end
theorem Sd:aF prog 79=mY:=by kernel_rfl
def kU (g:Gr):Prop:=∃(n:Nat) (c:Cf),n<g.qa1.length/\Tg (WY g.qa0 (bI g) c) n n
section
variable {G F:PH} {g:Gr} {k:Nat}
theorem qhO {B:Nat} {As:List (Ψ)} (M:OkK g k) (J:AnV G B g) (h:St G F As):
  ν 80 #[ph (V ⟨B,0,I⟩)] F λr O=>∃A w C,r=.map (V w)/\G.le A/\ut k g.qa1.length g.qa0 (bI g) C/\St A O (mG be (tW g.qa1.length) A w C::As):=by
 have N:St G F ([]++As):=h;refine (N.callL (P:=λr A=>∃w C,r=.map (V w)/\ut k g.qa1.length g.qa0 (bI g) C) (Bs':=λr A=>[λH=>∃w C,(r=.map (V w)/\ut k g.qa1.length g.qa0 (bI g) C)/\mG be (tW g.qa1.length) A w C H]) λX D=> ?_).mono ?_
 ·refine (qh2 M J D).mono ?_;rintro r F2 ⟨A,w,C,D,E,K,W⟩;exact ⟨A,⟨w,C,D,K⟩,E,W.imp 0 rfl λH _ Q=>⟨w,C,⟨D,K⟩,Q⟩⟩
 ·rintro r F2 ⟨A,_,E,h⟩;obtain ⟨w,h⟩:=h.exI 0 rfl;obtain ⟨C,h⟩:=h.exI 0 rfl;obtain ⟨⟨R,L⟩,h⟩:=h.prI 0 rfl;exact ⟨A,w,C,R,E,L,h⟩
theorem MC {C:Int->Tr} (A:ut k g.qa1.length g.qa0 (bI g) C):(∃n:Nat,n<g.qa1.length/\C n≠qa6 mz)↔kU g:=by
 constructor
 ·rintro ⟨n,r,w⟩;have B:¬∀c,(C n).ev c=(qa6 mz).ev c:=λh=>w (eq_of_ev (A.sx n).1 trivial h);obtain ⟨c,D⟩:=Classical.not_forall.1 B;refine ⟨n,c,r,(A.iff n c r).1 ?_⟩;cases e:(C n).ev c with
  |true=>rfl
  |false=>rw [e] at D;exact absurd rfl D
 ·rintro ⟨n,c,r,h⟩;have:=(A.iff n c r).2 h;exact ⟨n,r,λe=>by rw [e] at this;cases this⟩
def Vh (A:Bool->Prop) (b:Nat) (_:PH):List (Ψ):=[λH=>∃q,A q/\H b=V (Y #[nS q] 4)]
theorem qh3 {R b3:Nat} (hk:OkK g k) (a3:AnV G R g)
  (h:St G F [pt b3 (Y #[nS mz] 4)]):ν 79 #[ph (V ⟨R,0,I⟩),ph (V ⟨b3,0,I⟩)] F λr F'=>∃O,r=pk #[]/\G.le O/\St O F' (Vh (λq=>q=mY↔kU g) b3 O):=by
 refine qgn ?_;unfold UW;refine (qhO hk a3 h).mono ?_;rintro _ F1 ⟨G1,mo,C,rfl,l1,hC,h⟩;refine ⟨_,rfl,?_⟩;obtain ⟨G2,l2,⟨H,⟨o,mp,e1,⟨es,c,L,rfl,hL⟩,e3,e4⟩,hH⟩,h⟩:=h.pin;have qo:=hH _ _ e1;have hS:=e3.le l2;refine h.rangeG underlying170 be (h.le _ _ qo) λb7 F2 h=> ?_
 refine ⟨λq F'=>∃(O:PH) (B:Φ) (X:Bool),q=es.size - B.length/\G2.le O/\B.Nodup/\(∀n∈B,∃v,mp n=V v)/\(X=mY↔∃n∈B,C n≠qa6 mz)/\
  St O F' [itG be mo b7 es c B,pt b3 (Y #[nS X] 4)],_,⟨G2,[],mz,rfl,au _,List.nodup_nil,λ_ h=>(by cases h),by simp,h⟩,?_⟩
 rintro q F3 ⟨G3,B,X,rfl,l3,W,K,N,h⟩;unfold Ip;refine h.nextG hL yG W K (h.le _ _ (l3 _ _ qo)) (λP=> ?_) λn v F4 E a2 a4 h hr Q=> ?_
 ·refine ⟨_,rfl,mz,rfl,λhc=>(by cases hc),λ_=> ?_⟩;refine ⟨G3,rfl,aa l1 (aa l2 l3),h.tail.imp 0 rfl λH _ hH=>⟨X,?_,hH⟩⟩;dsimp only;rw [N,<- MC hC];constructor
  ·rintro ⟨n,hn,A⟩;obtain ⟨v,hv⟩:=K n hn;have hm:=e4 n (by rw [hv];simp);obtain ⟨i,hi,rfl⟩:=w9.1 hm;exact ⟨i,WU.1 hi,A⟩
  ·rintro ⟨n,hn,A⟩;rcases hS (n:Int) with ⟨_,e⟩|⟨w,e,_⟩
   ·exact absurd e A
   ·exact ⟨n,P _ _ e,A⟩
 ·refine ⟨_,rfl,mY,rfl,λ_=> ?_,λhc=>(by cases hc)⟩;have M:∃w,v=nL w/\DV G2 w (pg (C n)):=by
   rcases hS n with ⟨e,_⟩|⟨w,e,M⟩
   ·rw [e] at E;cases E
   ·rw [e] at E;cases E;exact ⟨w,rfl,M⟩
  obtain ⟨w,rfl,M⟩:=M;refine ⟨_,Q,w,rfl,?_⟩;refine h.var M.st (λb4 G4 F5 l4 q4 h=> ?_) rfl M.size;have a0:=aa l3 l4;have nd:(B++[n]).Nodup:=by rw [Vw];exact ⟨W,by simp,λa ha b hb e=>a2 (by rw [vy.1 hb] at e;rw [<- e];exact ha)⟩
  have J:∀x∈B++[n],∃v,mp x=V v:=λx D=>by
   rcases vd.1 D with D|D
   ·exact K x D
   ·rw [vy.1 D];exact ⟨_,E⟩
  have ms:es.size - (B++[n]).length<es.size - B.length:=by rw [tT,Uc];omega
  refine ⟨_,rfl,X,ld (h.ptAt (i:=1) rfl) rfl,λht=> ?_,λhf=> ?_⟩
  ·refine h.set1 (w':= #[nS mY]) (vx rfl) rfl λF6 h=> ?_;refine ⟨_,ms,G4,B++[n],mY,rfl,a0,nd,J,⟨λ_=> ?_,λ_=>rfl⟩,h⟩;obtain ⟨x,D,A⟩:=N.1 ht;exact ⟨x,vd.2 (.inl D),A⟩
  ·obtain ⟨sd,ew,_⟩:=id M;refine ⟨_,ld (h.le _ _ q4) (by rw [ew];rfl),?_⟩;refine h.set1 (w':= #[nS (decide ((pg (C n)).2≠0))]) (vx rfl) rfl λF6 h=> ?_;refine ⟨_,ms,G4,B++[n],_,rfl,a0,nd,J,?_,h⟩;rw [δ];have a1:¬∃n∈B,C n≠qa6 mz:=λh=>by rw [N.2 h] at hf;cases hf
   constructor
   ·intro A;exact ⟨n,by simp,λe=>A ((i8 (hC.sx n).1).2 e)⟩
   ·rintro ⟨x,D,A⟩ h0;rcases vd.1 D with D|D
    ·exact a1 ⟨x,D,A⟩
    ·rw [vy.1 D] at A;exact A ((i8 (hC.sx n).1).1 h0)
theorem By {v:Γ} (W:Tab F) (M:GV F v g) (P:Sz g) (C:OkK g k):
  ν 47 #[nL v] F λr L=>(kU g/\r=U 60\/¬kU g/\r=U 0)/\F.le L:=by
 obtain ⟨o1,o2,o3,R⟩:=dm C.ok;refine qgl ?_;unfold UU;refine (St.start F).newG λb1 G1 F1 B q1 _ h=>h.new λw F2 h=> ?_;refine h.set0 (w':= #[nS mz]) (vx rfl) rfl λE h=>⟨v,M.size,ai (h.le _ _ q1),?_⟩;refine (qh0 (kr:=79) (fst:= #[]) (cap:= #[ph (V ⟨w,0,I⟩)]) (Bs:=Vh (λq=>q=mY↔kU g) w) (W.le B) (M.le B) P C (λx Q=>by have:=R x Q;omega) (by omega) h Sd λG' A L l D h=> ?_).mono ?_
 ·have e:(#[]++ #[ph (V ⟨A,0,I⟩)]++ #[ph (V ⟨w,0,I⟩)]:Γ)= #[ph (V ⟨A,0,I⟩),ph (V ⟨w,0,I⟩)]:=by simp
  rw [e];exact qh3 C D h
 rintro _ E ⟨rfl,O,K,h⟩;obtain ⟨q,h⟩:=h.exI 0 rfl;obtain ⟨H,h⟩:=h.prI 0 rfl;have h:St O E [pt w (Y #[nS q] 4)]:=h;refine ⟨_,rfl,λ_=>⟨q,h.ld0 rfl,λN=> ?_,λJ=> ?_⟩,λe=>absurd rfl e⟩
 ·exact ⟨.inl ⟨H.1 N,rfl⟩,aa B (aa K h.le)⟩
 ·exact ⟨.inr ⟨λX=>(by rw [H.2 X] at J;cases J),rfl⟩,aa B (aa K h.le)⟩
end
