/-
  Package facts: Cyclic, Check.
-/
import Derived.Test.YteilolbbgieadaaGreatDoorAb
import Derived.Tactics
import Derived.Tactics2
import Derived.Recover
import Derived.MapKept
import Derived.RangeFuncBox
import Derived.RangeFuncLeaves
import Derived.Shelf.Abstract
import Derived.WalkKit
import Derived.OwnWalkIn
import Derived.TacticsInMore
import Derived.LoopNIn
import Derived.LoopIn
set_option maxRecDepth 10000
open Option renaming some->V,none->I
open Go.Obj renaming cells->Y
open Bool renaming false->mD,true->nk
open Go.Value renaming agg->nQ,bool->nW,pointer->pk,tuple->po,slice->tX
open Go.Addr renaming add->nV,mk->oB
open Int renaming toNat->nX
noncomputable section
namespace Go.Proofs.YteilolbbgieadaaGreatDoor
open Go.IntKind (i64 u8 u64)
open Sl renaming v->nI,nil->pm,mk->t7
open Go Go.Proofs.Tryz Tr
section
def WY (l:List Pr) (P:Nat->Tr) (c:Cf) (a b:Int):Prop:=∃(i j:Nat) (x:Pr) (s:Sy),l[i]? =V x/\x.right[j]? =V s/\s.t=mD/\x.left=a/\s.i=b/\(P i).ev c=nk/\
 ∀(m:Nat) (y:Sy),m≠j->x.right[m]? =V y->y.t=mD/\Der l P nk c y.i
inductive Tg {α:Type} (R:α->α->Prop) (a:α):α->Prop
 |one {b:α}:R a b->Tg R a b
 |snoc {b d:α}:Tg R a b->R b d->Tg R a d
section
variable {α:Type} {R:α->α->Prop}
theorem Tg.head {a b:α} (h:Tg R a b):∃d,R a d:=by
 induction h with
 |one g=>exact ⟨_,g⟩
 |snoc _ _ ih=>exact ih
end
variable {R:VR} {F:PH}
set_option maxHeartbeats 4000000
def UR (c:Γ) (R:VR) (F:PH):Prop:=Nb F (Y c 39) λf F=>Nb F (Y (#[nW mD]) 4) λd F=>pv F (Z d 0) (nW mD) λF=>Lr F 9 (Z f 0) λe=>Ci 78 #[nQ e,.func (.func 79) #[] #[(Pp d)]] F λa F=>Bc (a=0) (Lb F (Z d 0) λb=>Bb (b) (R (U 60) F) (R (U a) F)) (R (U a) F)
theorem qga {a:Γ} (h:UR a R F):ν 47 #[nQ a] F R:=Rx.Λ .N h
def Ik (b:ξ) (g e:Nat) (R:VR) (F:PH):Prop:=Fn b λf c d=>aj prog f (c++([(Pp e)]).toArray++d) F λv F=>v=(po #[])/\pv F (Z g 0) (U 0) λF=>Li F (Z g 0) λa=>R (U a) F
def Il (d:Ω) (_:ξ) (_ _ _:Nat) (_:Sl) (a:Int) (_:VR) (F:PH):Prop:=d (i64.wrap (a+1)) F
def Bf (i:Ω) (b:ξ) (j k c l:Nat) (d:Sl) (e:Int) (R:VR) (F:PH):Prop:=Ls F (Z c 9) λf=>Lr F 2 (Z l 0) λa=>a.size=2/\Nb F (Y a 33) λh F=>Ap 205 #[nI f,nI (Sb h 1)] F λg F=>pv F (Z c 9) (nI g) λF=>Il i b j k c d e R F
def vP (_ f:Ω) (_:ξ) (_ _ _ _:Nat) (_:Sl) (_:Int) (_:Sl) (a:Int) (_:VR) (F:PH):Prop:=f (i64.wrap (a+1)) F
def vQ (u x:Ω) (b:ξ) (l w k m:Nat) (f:Sl) (g:Int) (c:Sl) (R:VR) (a:Int) (F:PH):Prop:=Bc (a<(c.len:Int)) (Ix c a λn=>Lr F 2 (nV n (nX a*2)) λo=>Nb F (Y (#[nW mD,U 0]) 130) λh F=>aA F (Z h 0) 2 o λF=>Lb F (Z h 0) λp=>Bb (p) (Lr F 2 (Z m 0) λq=>Ls F (Z l 3) λi=>Li F (Z h 1) λd=>Ix i d λr=>Lr F 2 (nV (nV r (nX d*7)) 5) λs=>ν 109 #[nQ q,nQ s] F λv F=>∃j,∃e,v=(po #[nQ j,(U e)])/\F.cell (Z h 1)=V (U d)/\F.cell (Z l 3)=V (nI i)/\Ca 108 #[nQ j,(U e)] F λt F=>F.cell (Z h 1)=V (U d)/\F.cell (Z l 3)=V (nI i)/\aA F (Z m 0) 2 t λF=>vP u x b l w k m f g c a R F) (vP u x b l w k m f g c a R F)) (Bf u b l w k m f g R F)
def Bg (t:Ω) (c:ξ) (q r g:Nat) (d:Sl) (R:VR) (a:Int) (F:PH):Prop:=Bc (a<(d.len:Int)) (Ix d a λh=>Lr F 13 (nV h (nX a*13)) λi=>Nb F (Y zP 64) λo F=>aA F (Z o 0) 13 i λF=>Lr F 2 (Z q 1) λj=>Lr F 2 (Z o 3) λk=>ν 109 #[nQ j,nQ k] F λv F=>∃e,∃b,v=(po #[nQ e,(U b)])/\Ca 108 #[nQ e,(U b)] F λl F=>Nb F (Y zD 33) λs F=>aA F (Z s 0) 2 l λF=>Ls F (Z o 2) λm=>(∃(p:Nat->Ω) (n:Nat),p n 0 F/\∀n f F,p n f F-> vQ t (Xh p n) c q r g s d a m R f F)) (Ik c r g R F)
def US (j:Γ) (d:ξ) (R:VR) (F:PH):Prop:=Nb F (Y j 39) λh F=>Nb F (Y (#[U 0]) 49) λi F=>Lr F 9 (Z h 0) λe=>Ci 104 #[nQ e] F λb F=>Bc (b≠0) (pv F (Z i 0) (U b) λF=>Li F (Z i 0) λa=>R (U a) F) (Ct prog ⟨.fn (.func 107) #[(Pp i)],#[]++[].toArray⟩/\Lr F 9 (Z h 0) λc=>c.size=9/\Nb F (Y (wr (#[tX I 0 0,.slice I 0 0,U 0,.slice I 0 0,.slice I 0 0,.slice I 0 0,U 0,.slice I 0 0,.slice I 0 0,.slice I 0 0]:Γ) 0 c.toList) 207) λk F=>Ls F (Z h 5) λf=>Lp 0 F λN g F=>Bg N d h i k f R g F)
theorem qgb {b:Γ} {a:ξ} (h:US b a R F):ν 78 #[nQ b,a] F R:=Rx.Λ (.qa8 (.qa8 (.qa8 (.qa8 (.J mD [] (.qa8 (.L [(24,.int .i64)] (.qa8 (.qa8 (.J mD [] (.qa8 (.qa8 (.J mD [] (.qa8 (.L [(39,.int .i64)] (.qa8 (.qa8 (.J mD [] .N .N))))) .N))) .N))))) .N))))) h
def Im (i:Ψ) (h:Θ) (j:Nat) (R:VR) (F:PH):Prop:=aG prog (Instr.next (Pp j) mD 0) F λv F=>∃d,v=(po d)/\∃e,d[0]? =V (nW e)/\Bb (e) (∃b,qX prog (Instr.entry (Pp j)) F (po b)/\∃c,b[1]? =V (nQ c)/\Nb F (Y zD 33) λk F=>aA F (Z k 0) 2 c λF=>∃a,h=V a/\Lb F a λf=>Bb (f) (pv F a (nW nk) λF=>i F) (Li F (Z k 1) λg=>pv F a (nW (decide (g≠0))) λF=>i F)) (R (po #[]) F)
def UT (c d:Θ) (R:VR) (F:PH):Prop:=ν 80 #[pk c] F λv F=>∃a:Option Nat,v=(.map a)/\aG prog (Instr.range 170 (.map a)) F λv F=>∃f:Nat,v=(Pp f)/\(∃(e:Nat->Ψ) (b:Nat),e b F/\∀b F,e b F-> Im (λF=>∃g,g<b/\e g F) d f R F)
theorem qgc {a:Θ} {b:Θ} (h:UT a b R F):ν 79 #[pk a,pk b] F R:=Rx.Λ (.qa8 (.L [] .N)) h
def In (a:Nat) (R:VR) (F:PH):Prop:=R (.map (V a)) F
def vR (e:Ω) (_:Addr) (_ _ _:Nat) (_:Sl) (a:Int) (_:VR) (F:PH):Prop:=e (i64.wrap (a+1)) F
def Io (i:Ω) (f:Addr) (j g c:Nat) (a:Int) (h:Nat) (d:Sl) (R:VR) (F:PH):Prop:=∃b:Option Nat,F.cell (Z h 0)=V (.map b)/\Ca 116 #[.map b,(U a)] F λe F=>aG prog (Instr.mapUpdate 170 (.map (V c)) (U a) (nQ e)) F λ_ F=>vR i f j g c d a R F
def Ip (q:Ω) (o:Ψ) (l:Addr) (p m n:Nat) (c:Int) (g d:Nat) (h:Sl) (R:VR) (F:PH):Prop:=Ls F (Z d 0) λi=>Bc ((0:Int)<(i.len:Int)) (Ls F (Z d 0) λj=>Ix j 0 λk=>Li F (nV k (nX 0*1)) λb=>Ls F (Z d 0) λa=>1<=a.len/\a.len<=a.cap/\pv F (Z d 0) (nI (Sl.cut a 1 1 a.len a.cap)) λF=>Bc (b≠c) (∃e:Option Nat,F.cell (Z g 0)=V (.map e)/\∃f,qX prog (Instr.lookup 170 (.map e) (U b) mD) F (nQ f)/\Cu 115 #[(U b),nQ f,(Pp m),(Pp g),(Pp p),(Pp d)] F λF=>o F) (o F)) (Io q l p m n c g h R F)
def Bi (p:Ω) (c:Addr) (n g d:Nat) (b:Sl) (R:VR) (a:Int) (F:PH):Prop:=Bc (a<(b.len:Int)) (∃e:Option Nat,F.cell (Z g 0)=V (.map e)/\∃f,qX prog (Instr.lookup 215 (.map e) (U a) mD) F (nI f)/\Bc ((f.len:Int)=0) (vR p c n g d b a R F) (Nb F (.map #[] 0) λk F=>Nb F (Y (#[.map I]) 170) λh F=>pv F (Z h 0) (.map (V k)) λF=>Nb F (Y #[] 3) λl F=>Nb F (Y (#[tX I 0 0]) 76) λi F=>pv F (Z i 0) (nI (Sb l 0)) λF=>Lr F 2 (nV c 1) λj=>Cu 115 #[(U a),nQ j,(Pp g),(Pp h),(Pp n),(Pp i)] F λF=>(∃(o:Nat->Ψ) (m:Nat),o m F/\∀m F,o m F-> Ip p (λF=>∃q,q<m/\o q F) c n g d a h i b R F))) (In d R F)
def vS (e:Θ) (g f:Nat) (R:VR) (F:PH):Prop:=Nb F (.map #[] 0) λd F=>∃a,e=V a/\Ls F (nV a 4) λb=>Lp 0 F λN c F=>Bi N a g f d b R c F
def Iq (q:Ψ) (p:Θ) (r d l:Nat) (R:VR) (F:PH):Prop:=aG prog (Instr.next (Pp l) mD 0) F λv F=>∃e,v=(po e)/\∃f,e[0]? =V (nW f)/\Bb (f) (∃g,qX prog (Instr.entry (Pp l)) F (po g)/\∃h,g[0]? =V (nQ h)/\Nb F (Y (#[U 0,U 0]) 213) λc F=>aA F (Z c 0) 2 h λF=>∃a:Option Nat,F.cell (Z d 0)=V (.map a)/\0<=(0:Int)/\(0:Int)<2/\Li F (nV (Z c 0) (nX 0*1)) λi=>∃b:Option Nat,F.cell (Z d 0)=V (.map b)/\0<=(0:Int)/\(0:Int)<2/\Li F (nV (Z c 0) (nX 0*1)) λj=>∃k,qX prog (Instr.lookup 215 (.map b) (U j) mD) F (nI k)/\0<=(1:Int)/\(1:Int)<2/\Li F (nV (Z c 0) (nX 1*1)) λm=>Nb F (Y #[(U m)] 3) λo F=>Ap 76 #[nI k,nI (Sb o 1)] F λn F=>F.cell (nV (Z c 0) (nX 0*1))=V (U j)/\F.cell (Z d 0)=V (.map b)/\F.cell (nV (Z c 0) (nX 0*1))=V (U i)/\F.cell (Z d 0)=V (.map a)/\aG prog (Instr.mapUpdate 215 (.map a) (U i) (nI n)) F λ_ F=>q F) (vS p r d R F)
def vT (e:Θ) (h:Nat) (R:VR) (F:PH):Prop:=Nb F (.map #[] 0) λf F=>Nb F (Y (#[.map I]) 215) λc F=>pv F (Z c 0) (.map (V f)) λF=>∃a:Option Nat,F.cell (Z h 0)=V (.map a)/\aG prog (Instr.range 211 (.map a)) F λv F=>∃b:Nat,v=(Pp b)/\(∃(g:Nat->Ψ) (d:Nat),g d F/\∀d F,g d F-> Iq (λF=>∃i,i<d/\g i F) e h c b R F)
def Ir (e:Ω) (_:Addr) (_:Option Nat) (_:Nat) (_:Sl) (a:Int) (_:VR) (F:PH):Prop:=e (i64.wrap (a+1)) F
def nH (_ g:Ω) (_:Addr) (_:Option Nat) (_:Nat) (_:Int) (_:Nat) (_ _:Sl) (a:Int) (_:VR) (F:PH):Prop:=g (i64.wrap (a+1)) F
def Is (x y:Ω) (b:Addr) (f:Option Nat) (n:Nat) (g:Int) (w z o:Nat) (h i:Sl) (j:Int) (R:VR) (F:PH):Prop:=Li F (Z o 1) λp=>Bc (p≠0) (Li F (Z w 1) λq=>Li F (Z z 1) λr=>Nb F (Y (#[U 0,U 0]) 213) λe F=>aA F (Z e 0) 2 (#[(U q),(U r)]:Γ) λF=>∃a:Option Nat,F.cell (Z n 0)=V (.map a)/\Lr F 2 (Z e 0) λc=>∃k:Option Nat,F.cell (Z n 0)=V (.map k)/\Lr F 2 (Z e 0) λs=>Lr F 2 (Z o 0) λl=>Ca 114 #[.map k,nQ s] F λt F=>F.row (Z o 0) l/\F.row (Z e 0) c/\F.cell (Z n 0)=V (.map a)/\ν 113 #[nQ t,nQ l] F λv F=>∃m,∃d,v=(po #[nQ m,(U d)])/\F.row (Z e 0) c/\F.cell (Z n 0)=V (.map a)/\Ca 108 #[nQ m,(U d)] F λu F=>F.row (Z e 0) c/\F.cell (Z n 0)=V (.map a)/\aG prog (Instr.mapUpdate 211 (.map a) (nQ c) (nQ u)) F λ_ F=>nH x y b f n g w h i j R F) (nH x y b f n g w h i j R F)
def vU (_ _ i:Ω) (_:Addr) (_:Option Nat) (_:Nat) (_:Int) (_ _ _:Nat) (_ _:Sl) (_:Int) (_:Sl) (a:Int) (_:VR) (F:PH):Prop:=i (i64.wrap (a+1)) F
def Bj (o p t:Ω) (a:Addr) (d:Option Nat) (q:Nat) (e:Int) (r s i:Nat) (f g:Sl) (h:Int) (c:Sl) (R:VR) (b:Int) (F:PH):Prop:=Bc (b<(c.len:Int)) (Ix c b λj=>Lr F 2 (nV j (nX b*2)) λk=>Nb F (Y (#[nW mD,U 0]) 130) λl F=>aA F (Z l 0) 2 k λF=>Lb F (Z l 0) λm=>Bb (m) (Ca 112 #[nW mD] F λn F=>aA F (Z i 0) 2 n λF=>vU o p t a d q e r s i f g h c b R F) (vU o p t a d q e r s i f g h c b R F)) (Is o p a d q e r s i f g h R F)
def Bk (v A:Ω) (c:Addr) (f:Option Nat) (w:Nat) (d:Int) (i:Nat) (h g:Sl) (R:VR) (a:Int) (F:PH):Prop:=Bc (a<(g.len:Int)) (Ix g a λl=>Lr F 2 (nV l (nX a*2)) λm=>Nb F (Y (#[nW mD,U 0]) 130) λx F=>aA F (Z x 0) 2 m λF=>Lb F (Z x 0) λn=>Bb (n) (nH v A c f w d i h g a R F) (Ls F (Z i 2) λe=>0<=a/\0<=(nX a)/\(nX a)<=e.cap/\Ls F (Z i 2) λb=>0<=(i64.wrap (a+1))/\(nX (i64.wrap (a+1)))<=b.len/\b.len<=b.cap/\Nb F (Y #[] 130) λy F=>Ap 61 #[nI (Sb y 0),nI (Sl.cut e 2 0 (nX a) e.cap)] F λo F=>F.cell (Z i 2)=V (nI b)/\F.cell (Z i 2)=V (nI e)/\Ap 61 #[nI o,nI (Sl.cut b 2 (nX (i64.wrap (a+1))) b.len b.cap)] F λj F=>F.cell (Z i 2)=V (nI b)/\F.cell (Z i 2)=V (nI e)/\Ls F (nV c 9) λp=>Ix p d λq=>Lr F 2 (nV q (nX d*2)) λr=>Ca 111 #[nQ r,nI j,.map f] F λs F=>Nb F (Y zD 33) λt F=>aA F (Z t 0) 2 s λF=>(∃(z:Nat->Ω) (u:Nat),z u 0 F/\∀u k F,z u k F-> Bj v A (Xh z u) c f w d i x t h g a j R k F))) (Ir v c f w h d R F)
def vV (m:Ω) (a:Addr) (e:Option Nat) (l:Nat) (c:Sl) (R:VR) (b:Int) (F:PH):Prop:=Bc (b<(c.len:Int)) (Ix c b λf=>Lr F 13 (nV f (nX b*13)) λg=>Nb F (Y zP 64) λj F=>aA F (Z j 0) 13 g λF=>Ls F (Z j 2) λh=>(∃(k:Nat->Ω) (i:Nat),k i 0 F/\∀i d F,k i d F-> Bk m (Xh k i) a e l b j c h R d F)) (vT (V a) l R F)
def UU (c:Θ) (R:VR) (F:PH):Prop:=ν 110 #[pk c,nW nk] F λv F=>∃b:Option Nat,v=(.map b)/\Nb F (.map #[] 0) λf F=>Nb F (Y (#[.map I]) 211) λg F=>pv F (Z g 0) (.map (V f)) λF=>∃a,c=V a/\Ls F (nV a 5) λd=>Lp 0 F λN e F=>vV N a b g d R e F
theorem qgd {a:Θ} (h:UU a R F):ν 80 #[pk a] F R:=Rx.Λ (.qa8 (.qa8 (.qa8 (.J mD [(0,.ptr)] (.qa8 (.L [(31,.int .i64)] (.qa8 (.qa8 (.J mD [] (.qa8 (.qa8 (.L [(39,.int .i64)] (.qa8 (.qa8 (.J mD [] (.qa8 (.qa8 (.qa8 (.qa8 (.J mD [] (.qa8 (.L [(70,.int .i64)] (.qa8 (.qa8 (.J mD [] .N .N))))) .N))))) .N)))))) .N))))) (.qa8 (.J mD [] (.qa8 (.L [] .N)) (.qa8 (.J mD [] (.qa8 (.L [(123,.int .i64)] (.qa8 (.qa8 (.J mD [] (.qa8 (.qa8 (.qa8 (.qa8 (.qa8 (.qa8 (.J mD [] (.L [] .N) .N))))))) .N))))) .N)))))))) h
def Ox (b:Γ) (c:Int) (R:VR) (F:PH):Prop:=Nb F (Y b 33) λe F=>Nb F (Y zD 33) λd F=>Bc (c≠0) (False) (Lr F 2 (Z e 0) λa=>aA F (Z d 0) 2 a λF=>Rr 2 (Z d 0) R F)
theorem qcI {a:Γ} {b:Int} (h:Ox a b R F):ν 108 #[nQ a,(U b)] F R:=Rx.Λ .N h
def Oy (e:Θ) (a:Bool) (R:VR) (F:PH):Prop:=Nb F (Y #[pk e] 169) λf F=>Nb F (Y #[nW a] 4) λg F=>Nb F (.map #[] 0) λh F=>Nb F (Y (#[.map I]) 170) λd F=>pv F (Z d 0) (.map (V h)) λF=>∃c:Option Nat,F.cell (Z d 0)=V (.map c)/\Cu 150 #[.map c,.func (.func 151) #[] #[(Pp f),(Pp g),(Pp d)]] F λF=>∃b:Option Nat,F.cell (Z d 0)=V (.map b)/\R (.map b) F
theorem qcJ {b:Θ} {a:Bool} (h:Oy b a R F):ν 110 #[pk b,nW a] F R:=Rx.Λ .N h
def Dk (c b:Nat) (R:VR) (F:PH):Prop:=Lr F 2 (Z c 0) λa=>aA F (Z b 0) 2 a λF=>Rr 2 (Z b 0) R F
def pF (c:Ω) (_:Option Nat) (_ _:Nat) (_:Sl) (a:Int) (_:VR) (F:PH):Prop:=c (i64.wrap (a+1)) F
def pG (l:Ω) (a:Option Nat) (f m n:Nat) (g:Sl) (c:Int) (h:Bool) (R:VR) (F:PH):Prop:=Bb (h) (Lr F 2 (Z f 0) λd=>Li F (Z n 1) λi=>Ca 116 #[.map a,(U i)] F λj F=>F.row (Z f 0) d/\ν 109 #[nQ d,nQ j] F λv F=>∃e,∃b,v=(po #[nQ e,(U b)])/\Ca 108 #[nQ e,(U b)] F λk F=>aA F (Z f 0) 2 k λF=>pF l a f m g c R F) (pF l a f m g c R F)
def vW (k:Ω) (b:Option Nat) (h j:Nat) (c:Sl) (R:VR) (a:Int) (F:PH):Prop:=Bc (a<(c.len:Int)) (Ix c a λd=>Lr F 2 (nV d (nX a*2)) λe=>Nb F (Y (#[nW mD,U 0]) 130) λi F=>aA F (Z i 0) 2 e λF=>Lb F (Z i 0) λf=>Bb ((!f)) (Li F (Z h 1) λg=>pG k b h j i c a (decide (g≠0)) R F) (pG k b h j i c a mD R F)) (Dk h j R F)
def Oz (c:Γ) (d:Sl) (a:Option Nat) (R:VR) (F:PH):Prop:=Nb F (Y c 33) λe F=>Nb F (Y zD 33) λf F=>Lp 0 F λN b F=>vW N a e f d R b F
theorem qcK {b:Γ} {c:Sl} {a:Option Nat} (h:Oz b c a R F):ν 111 #[nQ b,nI c,.map a] F R:=Rx.Λ (.qa8 (.J mD [] (.qa8 (.L [(11,.int .i64)] (.qa8 (.qa8 (.J mD [] (.qa8 (.J mD [(22,.bool)] .N .N)) .N))))) .N)) h
def OA (b:Option Nat) (g:Γ) (R:VR) (F:PH):Prop:=Nb F (Y g 213) λj F=>Nb F (Y zD 33) λf F=>Lr F 2 (Z j 0) λh=>∃(c:Γ) (a:Bool),qX prog (Instr.lookup 211 (.map b) (nQ h) nk) F (po #[nQ c,nW a])/\Nb F (Y zD 33) λi F=>aA F (Z i 0) 2 c λF=>Bb (a) (Lr F 2 (Z i 0) λd=>aA F (Z f 0) 2 d λF=>Rr 2 (Z f 0) R F) (Ca 112 #[nW mD] F λe F=>aA F (Z f 0) 2 e λF=>Rr 2 (Z f 0) R F)
theorem qcL {a:Option Nat} {b:Γ} (h:OA a b R F):ν 114 #[.map a,nQ b] F R:=Rx.Λ .N h
def pH (d:Ω) (_:Int) (_ _ _:Θ) (_:Nat) (_:Sl) (a:Int) (_:VR) (F:PH):Prop:=d (i64.wrap (a+1)) F
def ij (t:Ω) (b:Int) (d:Addr) (j k:Θ) (u:Nat) (f:Int) (r:Nat) (g:Sl) (h:Int) (e:Θ) (R:VR) (F:PH):Prop:=Lr F 2 (Z r 0) λl=>∃a,e=V a/\Lr F 2 a λm=>vf 117 #[nQ l,nQ m] F λn F=>Bb ((!n)) (∃i:Option Nat,F.cell d=V (.map i)/\Lr F 2 a λo=>aG prog (Instr.mapUpdate 170 (.map i) (U f) (nQ o)) F λ_ F=>∃c,k=V c/\Ls F c λp=>Nb F (Y #[(U f)] 3) λs F=>Ap 76 #[nI p,nI (Sb s 1)] F λq F=>pv F c (nI q) λF=>pH t b (V d) j (V c) u g h R F) (pH t b (V d) j k u g h R F)
def vX (N:Ω) (c:Int) (T z0 t:Θ) (M:Nat) (g:Sl) (R:VR) (e:Int) (F:PH):Prop:=Bc (e<(g.len:Int)) (Ix g e λO=>Li F (nV O (nX e*1)) λh=>∃i,T=V i/\∃z2:Option Nat,F.cell i=V (.map z2)/\Ca 116 #[.map z2,(U h)] F λP F=>Nb F (Y zD 33) λf F=>aA F (Z f 0) 2 P λF=>Lr F 2 (Z f 0) λd=>Lr F 2 (Z M 0) λK=>∃a,z0=V a/\∃b:Option Nat,F.cell a=V (.map b)/\∃u,qX prog (Instr.lookup 211 (.map b) (nQ (#[(U c),(U h)]:Γ)) mD) F (nQ u)/\((ν 109 #[nQ K,nQ u] F λv F=>∃w,∃j,v=(po #[nQ w,(U j)])/\F.cell a=V (.map b)/\F.row (Z f 0) d/\((Ca 108 #[nQ w,(U j)] F λL F=>F.cell a=V (.map b)/\F.row (Z f 0) d/\((ν 113 #[nQ d,nQ L] F λv F=>∃x,∃k,v=(po #[nQ x,(U k)])/\F.cell a=V (.map b)/\((Ca 108 #[nQ x,(U k)] F λQ F=>F.cell a=V (.map b)/\Nb F (Y zD 33) λS F=>aA F (Z S 0) 2 Q λF=>ij N c i (V a) t M h f g e (V (Z S 0)) R F)/\(Nb F (Y zD 33) λy F=>Ca 108 #[nQ x,(U k)] F λC F=>F.cell a=V (.map b)/\aA F (Z y 0) 2 C λF=>ij N c i (V a) t M h f g e (V (Z y 0)) R F)))/\(Nb F (Y zD 33) λz F=>ν 113 #[nQ d,nQ L] F λv F=>∃l,∃m,v=(po #[nQ l,(U m)])/\F.cell a=V (.map b)/\Ca 108 #[nQ l,(U m)] F λD F=>F.cell a=V (.map b)/\aA F (Z z 0) 2 D λF=>ij N c i (V a) t M h f g e (V (Z z 0)) R F)))/\(Nb F (Y zD 33) λA F=>Ca 108 #[nQ w,(U j)] F λE F=>F.cell a=V (.map b)/\F.row (Z f 0) d/\ν 113 #[nQ d,nQ E] F λv F=>∃n,∃o,v=(po #[nQ n,(U o)])/\F.cell a=V (.map b)/\Ca 108 #[nQ n,(U o)] F λG F=>F.cell a=V (.map b)/\aA F (Z A 0) 2 G λF=>ij N c i (V a) t M h f g e (V (Z A 0)) R F)))/\(Nb F (Y zD 33) λB F=>ν 109 #[nQ K,nQ u] F λv F=>∃p,∃q,v=(po #[nQ p,(U q)])/\F.cell a=V (.map b)/\F.row (Z f 0) d/\Ca 108 #[nQ p,(U q)] F λH F=>F.cell a=V (.map b)/\F.row (Z f 0) d/\ν 113 #[nQ d,nQ H] F λv F=>∃r,∃s,v=(po #[nQ r,(U s)])/\F.cell a=V (.map b)/\Ca 108 #[nQ r,(U s)] F λz1 F=>F.cell a=V (.map b)/\aA F (Z B 0) 2 z1 λF=>ij N c i (V a) t M h f g e (V (Z B 0)) R F))) (R (po #[]) F)
def OB (a:Int) (f:Γ) (g h i j:Θ) (R:VR) (F:PH):Prop:=Nb F (Y f 33) λk F=>∃b,g=V b/\∃c:Option Nat,F.cell b=V (.map c)/\∃d,qX prog (Instr.lookup 215 (.map c) (U a) mD) F (nI d)/\Lp 0 F λN e F=>vX N a h i j k d R e F
theorem qcM {a:Int} {b:Γ} {c:Θ} {d:Θ} {e:Θ} {f:Θ} (h:OB a b c d e f R F):ν 115 #[(U a),nQ b,pk c,pk d,pk e,pk f] F R:=Rx.Λ (.qa8 (.qa8 (.L [(16,.int .i64)] (.qa8 (.qa8 (.J mD [(3,.ptr),(5,.ptr)] (.qa8 (.qa8 (.J mD [(4,.ptr),(11,.ptr)] .N .N))) .N)))))) h
def OC (b:Option Nat) (g:Int) (R:VR) (F:PH):Prop:=Nb F (Y zD 33) λf F=>∃(c:Γ) (a:Bool),qX prog (Instr.lookup 170 (.map b) (U g) nk) F (po #[nQ c,nW a])/\Nb F (Y zD 33) λh F=>aA F (Z h 0) 2 c λF=>Bb (a) (Lr F 2 (Z h 0) λd=>aA F (Z f 0) 2 d λF=>Rr 2 (Z f 0) R F) (Ca 112 #[nW mD] F λe F=>aA F (Z f 0) 2 e λF=>Rr 2 (Z f 0) R F)
theorem U0 {a:Option Nat} {b:Int} (h:OC a b R F):ν 116 #[.map a,(U b)] F R:=Rx.Λ .N h
def Dl (i:Θ->Ψ) (c:ξ) (j:Nat) (R:VR) (b:Θ) (F:PH):Prop:=∃a,b=V a/\Lb F a λg=>Bb (g) (pv F a (nW mD) λF=>Fn c λk e f=>aj prog k (e++([(Value.func (.func 187) #[] #[(Pp j),(pk (V a))])]).toArray++f) F λv F=>v=(po #[])/\Lb F a λh=>Nb F (Y (#[nW mD]) 4) λd F=>pv F (Z d 0) (nW h) λF=>i (V (Z d 0)) F) (R (po #[]) F)
def OD (c:Option Nat) (b:ξ) (R:VR) (F:PH):Prop:=Nb F (Y #[.map c] 170) λg F=>Nb F (Y (#[nW mD]) 4) λf F=>pv F (Z f 0) (nW nk) λF=>(∃(e:Nat->Θ->Ψ) (d:Nat),e d (V (Z f 0)) F/\∀d a F,e d a F-> Dl (Xh e d) b g R a F)
theorem U1 {b:Option Nat} {a:ξ} (h:OD b a R F):ν 150 #[.map b,a] F R:=Rx.Λ (.qa8 (.qa8 (.L [(4,.ptr)] .N))) h
def pI (e:Ω) (_:ξ) (_:Addr) (_ _:Θ) (_:Sl) (a:Int) (_:VR) (F:PH):Prop:=e (i64.wrap (a+1)) F
def Dm (u:Ω) (c:ξ) (b:Addr) (q r:Θ) (d:Int) (s:Nat) (l:Sl) (R:VR) (F:PH):Prop:=Li F (Z s 1) λh=>Lq F b λe=>∃a,e=V a/\Ls F (nV a 9) λf=>Ix f d λm=>Lr F 2 (nV m (nX d*2)) λn=>Ls F (Z s 2) λo=>∃g,r=V g/\∃i:Option Nat,F.cell g=V (.map i)/\Ca 111 #[nQ n,nI o,.map i] F λp F=>F.cell (nV a 9)=V (nI f)/\F.cell b=V (pk e)/\F.cell (Z s 1)=V (U h)/\Fn c λt j k=>aj prog t (j++([(U h),(nQ p)]).toArray++k) F λv F=>v=(po #[])/\F.cell (nV a 9)=V (nI f)/\F.cell b=V (pk e)/\pI u c b q (V g) l d R F
def pJ (_ g:Ω) (_:ξ) (_:Addr) (_ _:Θ) (_:Int) (_:Nat) (_ _:Sl) (a:Int) (_:VR) (F:PH):Prop:=g (i64.wrap (a+1)) F
def vY (n p:Ω) (a:ξ) (c:Addr) (i h:Θ) (d:Int) (o:Nat) (e f:Sl) (R:VR) (b:Int) (F:PH):Prop:=Bc (b<(f.len:Int)) (Ix f b λj=>Lr F 2 (nV j (nX b*2)) λk=>Nb F (Y (#[nW mD,U 0]) 130) λq F=>aA F (Z q 0) 2 k λF=>Lb F (Z q 0) λl=>Bb (l) (∃g,i=V g/\Lb F g λm=>Bb (m) (pI n a c (V g) h e d R F) (pJ n p a c (V g) h d o e f b R F)) (pJ n p a c i h d o e f b R F)) (Dm n a c i h d o e R F)
def vZ (n:Ω) (d:ξ) (e:Addr) (j k:Θ) (b:Sl) (R:VR) (a:Int) (F:PH):Prop:=Bc (a<(b.len:Int)) (Ix b a λf=>Lr F 13 (nV f (nX a*13)) λg=>Nb F (Y zP 64) λl F=>aA F (Z l 0) 13 g λF=>Ls F (Z l 2) λh=>(∃(m:Nat->Ω) (i:Nat),m i 0 F/\∀i c F,m i c F-> vY n (Xh m i) d e j k a l b h R c F)) (R (po #[]) F)
def OE (c:ξ) (f g h:Θ) (R:VR) (F:PH):Prop:=∃a,f=V a/\Lq F a λi=>∃b,i=V b/\Ls F (nV b 5) λd=>Lp 0 F λN e F=>vZ N c a g h d R e F
theorem U2 {a:ξ} {b:Θ} {c:Θ} {d:Θ} (h:OE a b c d R F):ν 151 #[a,pk b,pk c,pk d] F R:=Rx.Λ (.qa8 (.qa8 (.L [(15,.int .i64)] (.qa8 (.qa8 (.J mD [(2,.ptr),(3,.ptr)] (.qa8 (.J mD [] (.qa8 (.L [(23,.int .i64)] (.qa8 (.qa8 (.J mD [(2,.ptr)] .N .N))))) .N)) .N)))))) h
def OF (g:Int) (p:Γ) (q r:Θ) (R:VR) (F:PH):Prop:=Nb F (Y p 33) λw F=>Li F (Z w 1) λs=>Bc (s=0) (R (po #[]) F) (∃b,q=V b/\∃c:Option Nat,F.cell b=V (.map c)/\Ca 116 #[.map c,(U g)] F λh F=>Nb F (Y zD 33) λt F=>aA F (Z t 0) 2 h λF=>Lr F 2 (Z t 0) λi=>Lr F 2 (Z w 0) λj=>ν 113 #[nQ i,nQ j] F λv F=>∃d,∃a,v=(po #[nQ d,(U a)])/\Ca 108 #[nQ d,(U a)] F λk F=>Nb F (Y zD 33) λu F=>aA F (Z u 0) 2 k λF=>Lr F 2 (Z t 0) λl=>Lr F 2 (Z u 0) λm=>vf 117 #[nQ l,nQ m] F λn F=>Bb ((!n)) (∃e:Option Nat,F.cell b=V (.map e)/\Lr F 2 (Z u 0) λo=>aG prog (Instr.mapUpdate 170 (.map e) (U g) (nQ o)) F λ_ F=>∃f,r=V f/\pv F f (nW nk) λF=>R (po #[]) F) (R (po #[]) F))
theorem U3 {a:Int} {b:Γ} {c:Θ} {d:Θ} (h:OF a b c d R F):ν 187 #[(U a),nQ b,pk c,pk d] F R:=Rx.Λ .N h
section
variable {κ:Type} {enc:κ->ξ} {G G0 G1 F:PH} {As:List (Ψ)} {m:Nat} {S S':κ->Tr} {mp mp':κ->Option ξ}
def i8 (G:PH) (S:κ->Tr) (mp:κ->Option ξ):Prop:=∀n,(mp n=I/\S n=qa6 mD)\/∃w,mp n=V (nQ w)/\DV G w (pj (S n))
theorem i8.le (h:i8 G0 S mp) (l:G0.le G):i8 G S mp:=λn=>(h n).imp id λ⟨w,g,r⟩=>⟨w,g,r.le l⟩
theorem i8.empty (G:PH):i8 G (λ_:κ=>qa6 mD) (λ_=>I):=λ_=> .inl ⟨rfl,rfl⟩
variable [DecidableEq κ]
theorem i8.put (h:i8 G S mp) {n:κ} {w:Γ} {t:Tr} (hd:DV G w (pj t)):i8 G (kj S n t) (λk=>if k=n then V (nQ w) else mp k):=λk=>by
 unfold kj;dsimp only;by_cases e:k=n
 ·rw [Χ e,Χ e];exact .inr ⟨w,rfl,hd⟩
 ·rw [Υ e,Υ e];exact h k
def mS (enc:κ->ξ) (G:PH) (m:Nat) (S:κ->Tr):Ψ:=λH=>∃o mp,H m=V o/\dW enc mp o/\i8 G S mp
theorem St.mS_at (h:St G F As) {i:Nat} (hi:As[i]? =V (mS enc G0 m S)):∃o mp,F m=V o/\dW enc mp o/\i8 G0 S mp:=by obtain ⟨H,⟨o,mp,g,r,A⟩,_,w⟩:=h.get hi;exact ⟨o,mp,w _ _ g,r,A⟩
theorem St.mS_set (h:St G F As) (i:Nat) (hi:As[i]? =V (mS enc G0 m S)) {o':Obj} (D:dW enc mp' o') (B:i8 G1 S' mp'):St G (F.set m o') (As.set i (mS enc G1 m S')):=by
 obtain ⟨H,⟨o,mp,w,_,_⟩,E,A,C⟩:=h.set (A':=mS enc G1 m S') hi;refine C (H.set m o') _ ⟨o',mp',aq _ _ _,D,B⟩ (λx g=> ?_) (λx p g=> ?_) (λx p g r=> ?_)
 ·by_cases e:x=m
  ·rw [e,w];exact .inl (by simp)
  ·rw [aw _ _ e] at g;exact .inl g
 ·by_cases e:x=m
  ·rw [e,aq] at g ⊢;exact g
  ·rw [aw _ _ e] at g ⊢;exact A _ _ g
 ·have e:x≠m:=λe=>by rw [e,w] at r;cases r
  rw [aw _ _ e];exact g
end
theorem It:fY prog 170 be (.agg zD):=⟨_,_,underlying170,Tt,M0⟩
theorem RV:fY prog 211 gD (.agg zD):=⟨_,_,underlying211,Tt,aai⟩
theorem ci {F:PH} {w:Γ} {d:wa} (hd:DV F w d):ν 108 #[nQ w,U 0] F λr B=>r=nQ w/\F.le B:=by refine qcI ?_;unfold Ox;refine fresh λG g C q2 _=> ?_;refine (St.start g).new λD F2 h=>⟨λA=>absurd rfl A,λ_=>⟨w,hd.size,ai (h.le _ _ q2),?_⟩⟩;refine h.put0 (w':=w) hd.size rfl hd.st λE h=>⟨w,hd.size,ai (h.ptAt (i:=0) rfl),rfl,aa C h.le⟩
section
variable {G G0 F:PH} {As:List (Ψ)} {m:Nat} {k:Nat}
theorem lT {S:Int->Tr} (h:St G F (mS be G0 m S::As)) (K:G0.le G) (n:Int):
  ν 116 #[.map (V m),U n] F λr N=>∃B w,r=nQ w/\DV B w (pj (S n))/\G.le B/\St B N (mS be G0 m S::As):=by
 refine U0 ?_;unfold OC;refine h.new λX J h=> ?_;obtain ⟨o,mp,H,L,W⟩:=h.mS_at (i:=1) rfl;have A:=bL (F:=J) It H L n nk;rcases W n with ⟨C,E⟩|⟨w,C,E⟩
 ·rw [C] at A;refine ⟨_,_,A,?_⟩;refine h.new λP F2 h=> ?_;refine h.put0 (w':=zD) rfl rfl (by simp [ak]) λM h=>⟨λD=>(by cases D),λ_=> ?_⟩;refine (h.call (gE mD)).mono ?_;rintro _ F4 ⟨B,⟨w,rfl,g,O⟩,h⟩;refine ⟨w,rfl,?_⟩;refine h.put1 (w':=w) g.size rfl g.st λQ h=>⟨w,g.size,ai (h.ptAt (i:=1) rfl),?_⟩;exact ⟨B,w,rfl,by rw [E];exact g,O,h.tail.tail⟩
 ·rw [C] at A;refine ⟨_,_,A,?_⟩;have g:=E.le K;refine h.new λP F2 h=> ?_;refine h.put0 (w':=w) g.size rfl g.st λM h=>⟨λ_=>⟨w,g.size,ai (h.ptAt (i:=0) rfl),?_⟩,λD=>(by cases D)⟩;refine h.put1 (w':=w) g.size rfl g.st λQ h=>⟨w,g.size,ai (h.ptAt (i:=1) rfl),?_⟩;exact ⟨G,w,rfl,g,au _,h.tail.tail⟩
theorem Bl {a b:Tr} {u w:Γ} (A:k<=6) (g:Sx k a) (B:Sx k b) (E:DV F u (pj a)) (D:DV F w (pj b)):
  ν 113 #[nQ u,nQ w] F λr h=>∃x,r=po #[nQ x,U 0]/\DV h x (pj (ap2 z8 a b))/\F.le h:=by
 refine (Nf E D).mono ?_;rintro r h ⟨⟨x,rfl,C⟩,l⟩;rw [J5 (g.small A) (B.small A) ((g.ap2 (o:=z8) B).small A) (cE g.1 B.1).2] at C ⊢;exact ⟨x,rfl,C,l⟩
theorem pK {a b:Tr} {u w:Γ} (A:k<=6) (g:Sx k a) (B:Sx k b) (E:DV F u (pj a)) (D:DV F w (pj b)):
  ν 109 #[nQ u,nQ w] F λr h=>∃x,r=po #[nQ x,U 0]/\DV h x (pj (ap2 bV a b))/\F.le h:=by
 refine (J0 E D).mono ?_;rintro r h ⟨⟨x,rfl,C⟩,l⟩;rw [J5 (g.small A) (B.small A) ((g.ap2 (o:=bV) B).small A) (cE g.1 B.1).2] at C ⊢;exact ⟨x,rfl,C,l⟩
theorem i9 {t:Tr} (h:t.ok):(pj t).2=0↔t=qa6 mD:=by
 refine ⟨λg=> ?_,λg=>by rw [g];rfl⟩;have r:num (aU t) t=0:=by have:((num (aU t) t:Nat):Int)=0:=g;omega
 have w:=qM (S:=aU t) (t:=t) (by omega);cases t with
 |qa7 _ _ _=>cases w
 |qa6 b=>
  cases b with
  |false=>rfl
  |true=>cases r
theorem qhF {a:Tr} (g:a.ok):ap2 z8 a (qa6 mD)=a:=eq_of_ev (cE g (b:=qa6 mD) trivial).1 g λc=>by rw [(cE g (b:=qa6 mD) trivial).2];exact Yr _
theorem kP {g:Type} [DecidableEq g] {S:g->Tr} (h:Sxs k S) (n:g):dU S n (qa6 mD)=S:=by unfold dU;rw [qhF (h n).1,uz]
theorem pL {g:Type} [DecidableEq g] {S:g->Tr} {n:g} {d:Tr}:dU S n d=S↔ap2 z8 (S n) d=S n:=by
 constructor
 ·intro h;have:=congrFun h n;unfold dU kj at this;rwa [Χ rfl] at this
 ·intro h;unfold dU;rw [h,uz]
theorem FO {S:Int->Tr} {b2 b4:Nat} {ch:Bool} {w:Γ} {d:Tr} (h:St G F (mS be G0 m S::pt b4 (Y #[nW ch] 4)::As)) (X:G0.le G) (hk:k<=6) (K:Sxs k S) (hx:Sx k d) (hd:DV G w (pj d))
  (h2:G.cell ⟨b2,0,I⟩=V (.map (V m))) (n:Int):
  ν 187 #[U n,nQ w,pk (V ⟨b2,0,I⟩),pk (V ⟨b4,0,I⟩)] F λr L=>∃W O,r=po #[]/\(O=nk↔ch=nk\/dU S n d≠S)/\G.le W/\
   St W L (mS be W m (dU S n d)::pt b4 (Y #[nW O] 4)::As):=by
 refine U3 ?_;unfold OF;have up:∀{G1 M L:PH} {S':Int->Tr} {D:List (Ψ)},St M L (mS be G1 m S'::D)->G1.le M->St M L (mS be M m S'::D):=λ{G1 M L S' D} h l=>h.imp 0 rfl λH _ ⟨o,mp,a1,a2,a3⟩=>⟨o,mp,a1,a2,a3.le l⟩;obtain ⟨s,rfl,_⟩:=id hd;refine h.newG λb5 G1 F1 B q5 _ h=>⟨_,ld (h.le _ _ q5) rfl,λh0=> ?_,λh0=> ?_⟩
 ·have e:=(i9 hx.1).1 h0;refine ⟨G1,ch,rfl,?_,B,?_⟩
  ·rw [e,kP K];simp
  ·rw [e,kP K];exact up h (aa X B)
 ·refine ⟨_,rfl,_,aK (aa B h.le) h2,?_⟩;refine (lT h (aa X B) n).mono ?_;rintro _ F2 ⟨M,u,rfl,N,l2,h⟩;refine ⟨u,rfl,?_⟩;refine h.var N.st (λb6 G3 F3 l3 q6 h=> ?_) rfl N.size;have J:=aa l2 l3;refine ⟨u,N.size,ai (h.le _ _ q6),_,rfl,ai (h.le _ _ (J _ _ q5)),?_⟩;refine h.run (P:=λr W=>∃x,r=po #[nQ x,U 0]/\DV W x (pj (ap2 z8 (S n) d))) ((Bl hk (K n) hx (N.le l3) (hd.le (aa B J))).mono λr L ⟨x,a,b,c⟩=>⟨⟨x,a,b⟩,c⟩) λ_ G4 F4 hr l4 h=> ?_;obtain ⟨x,rfl,g⟩:=hr;refine ⟨_,_,rfl,?_⟩;refine h.runv (ci g) λG5 F5 l5 h=>⟨_,rfl,?_⟩;refine h.var g.st (λb7 G6 F6 l6 q7 h=> ?_) rfl g.size;have E:=aa l4 (aa l5 l6);refine ⟨u,N.size,ai (h.le _ _ (E _ _ q6)),x,g.size,ai (h.le _ _ q7),?_⟩;refine h.runv (od (N.le (aa l3 E)) (g.le (aa l5 l6)) (Ez ((K n).small hk))) λG7 F7 l7 h=>⟨_,rfl,?_⟩;have A:=aa J (aa E l7);have kk:=(K n).ap2 (o:=z8) hx;refine ⟨λC=> ?_,λhe=> ?_⟩
  ·have C:ap2 z8 (S n) d≠S n:=λe=>by rw [e,ε rfl] at C;cases C
   refine ⟨_,aK (aa (aa B A) h.le) h2,x,g.size,ai (h.le _ _ (l7 _ _ q7)),?_⟩;obtain ⟨o,mp,m1,m2,m3⟩:=h.mS_at (i:=0) rfl;refine bj It m1 m2 n (nQ x) λo' a0=> ?_;have Q:=g.le (aa l5 (aa l6 l7));have h:=h.mS_set 0 rfl (G1:=G7) (S':=dU S n d) a0 ((m3.le (aa (aa X B) A)).put Q);refine ⟨_,rfl,h.set1 (w':= #[nW nk]) (vr rfl) rfl λF8 h=> ?_⟩;exact ⟨G7,nk,rfl,⟨λ_=> .inr λe=>C (pL.1 e),λ_=>rfl⟩,aa B A,h⟩
  ·have e:ap2 z8 (S n) d=S n:=by
    have:decide (pj (S n)=pj (ap2 z8 (S n) d))=nk:=by simpa using he
    exact (xS (K n).1 kk.1 (ζ this)).symm
   have e2:=pL.2 e;refine ⟨G7,ch,rfl,?_,aa B A,?_⟩
   ·rw [e2];simp
   ·rw [e2];exact up h (aa (aa X B) A)
end
theorem uk (S:Int->Tr) (s:Sy):∀(r:List Sy) (d:Tr),ft S d (r++[s])=if s.t=nk then ft S d r else ap2 bV (ft S d r) (S s.i)
 |[],d=>rfl
 |x::r,d=>by rw [zK];unfold ft;exact uk S s r _
theorem qhm {a:Tr} (g:a.ok):ap2 bV (qa6 mD) a=qa6 mD:=eq_of_ev (cE (a:=qa6 mD) trivial g).1 trivial λc=>by rw [(cE (a:=qa6 mD) trivial g).2];rfl
theorem bg {α:Type} {r:List α} {i:Nat} {x:α} (h:r[i]? =V x):r.take (i+1)=r.take i++[x]:=by rw [Wx,h];rfl
section
variable {G G0 F:PH} {As:List (Ψ)} {m:Nat} {k:Nat}
theorem ul {S:Int->Tr} (h:St G F (mS be G0 m S::As)) (l0:G0.le G) (hk:k<=6) (hS:Sxs k S) {d:Tr} {w:Γ} (hx:Sx k d) (hd:DV G w (pj d)) {sl:Sl} {r:List Sy} (hr:RL G sl r) (hl:r.length<=1000000):
  ν 111 #[nQ w,sl.v,.map (V m)] F λres B=>∃g u,res=nQ u/\DV g u (pj (ft S d r))/\G.le g/\St g B (mS be G0 m S::As):=by
 have a3:=hr.len;refine qcK ?_;unfold Oz;refine h.new λQ F1 h=>h.new λO F2 h=> ?_;refine bD (vW · (V m) Q O sl _) r.length (λi B=>∃(g:PH) (u:Γ),G.le g/\DV g u (pj (ft S d (r.take i)))/\St g B (pt O (Y zD 33)::pt Q (Y u 33)::mS be G0 m S::As)) ⟨G,w,au _,by rw [z6];exact hd,h⟩ ?_;rintro i F3 N hi ⟨G1,u,W,C,h⟩ next;unfold vW;obtain ⟨fx,_⟩:=cL hS (r.take i) hx;refine ⟨λH=> ?_,λa4=> ?_⟩
 ·have H:i<r.length:=by omega
  refine t8 ((hr.le W).le h.le) (by decide) (by omega) (by omega) λa c s hs J L=>⟨c,Mem.len L,J,?_⟩;rw [N4] at hs;obtain rfl:c=s.arr:=L;have et:=bg hs;have A:=uk S s (r.take i) d;refine h.var (by simp [ak]) (λb8 G2 F4 D q8 h=>⟨_,ld (h.le _ _ q8) rfl,?_⟩) rfl rfl;have fin:∀{g B:PH} {K:Γ},G1.le g->DV g K (pj (ft S d (r.take (i+1))))->St g B (pt O (Y zD 33)::pt Q (Y K 33)::mS be G0 m S::As)->
    pF N (V m) Q O sl (i:Int) (λres B=>∃g u,res=nQ u/\DV g u (pj (ft S d r))/\G.le g/\St g B (mS be G0 m S::As)) B:=λ{g B K} l a2 h=>by
   unfold pF;rw [aC H];exact next _ H ⟨g,K,aa W l,a2,h⟩
  refine ⟨λE=> ?_,λE=> ?_⟩
  ·have E:s.t=mD:=by simpa using E
   rw [E,Υ YM] at A;obtain ⟨su,rfl,_⟩:=id C;refine ⟨_,h.ld1 rfl,?_⟩;unfold pG;refine ⟨λa5=>⟨_,rfl,ai (h.ptAt (i:=1) rfl),_,ld (h.le _ _ q8) rfl,?_⟩,λhe=> ?_⟩
   ·refine (lT h.front2 (aa l0 (aa W D)) s.i).mono ?_;rintro _ F5 ⟨G3,x,rfl,a1,l3,h⟩;have h:=h.back2;have X:=C.le (aa D l3);refine ⟨x,rfl,ai (h.ptAt (i:=1) rfl),?_⟩;refine h.run (P:=λr' g=>∃y,r'=po #[nQ y,U 0]/\DV g y (pj (ap2 bV (ft S d (r.take i)) (S s.i)))) ((pK hk fx (hS s.i) X a1).mono λr B ⟨x,a,b,c⟩=>⟨⟨x,a,b⟩,c⟩) λ_ G4 F6 a0 l4 h=> ?_;obtain ⟨y,rfl,M⟩:=a0;refine ⟨_,_,rfl,?_⟩;refine h.runv (ci M) λG5 F7 l5 h=>⟨_,rfl,?_⟩;refine h.put1 (w':=y) M.size rfl M.st λF8 h=> ?_;refine fin (aa D (aa l3 (aa l4 l5))) ?_ h;rw [et,A];exact M.le l5
   ·have e:ft S d (r.take i)=qa6 mD:=(i9 fx.1).1 (by simpa using he);refine fin D ?_ h;rw [et,A,e,qhm (hS _).1,<- e];exact C.le D
  ·have E:s.t=nk:=by simpa using E
   rw [E,Χ rfl] at A;unfold pG;refine ⟨λL=>(by cases L),λ_=>fin D ?_ h⟩;rw [et,A];exact C.le D
 ·have e:i=r.length:=by omega
  subst e;rw [wB] at C;unfold Dk;refine ⟨u,C.size,ai (h.ptAt (i:=1) rfl),?_⟩;refine h.put0 (w':=u) C.size rfl C.st λF5 h=>⟨u,C.size,ai (h.ptAt (i:=0) rfl),?_⟩;exact ⟨G1,u,rfl,C,W,h.tail.tail⟩
end
set_option maxRecDepth 100000
theorem Mn (p:Addr) (w:World):CallsD prog 107 #[pk (V p)] .returning w λe r w'=>(∃v,e=.returned v)/\r=.returning/\w'=w:=by refine callsD_of_wpS func107 rfl λg A h=> ?_;apply wpS_seq;apply wpS_region;simp [wpOpsS,go_sem,recoverD,h,ntmps107,Exit.thenS];apply wpS_seq;apply wpS_region;simp [wpOpsS,go_sem,Exit.thenS];refine wpS_cond (t:=mD) (by simp [Act.eval,Array.replicate]) ?_;simp only [VQ,if_false];refine wpS_of_wp (wp_skip ?_);cases g;simp_all [bodyPostS,results,results107]
theorem Mo (p:Addr):Ct prog ⟨.fn (.func 107) #[pk (V p)],#[]++[].toArray⟩:=
 ⟨_,_,107,#[pk (V p)],rfl,λw=>⟨by simp [go_sem],Mn p w⟩⟩
structure OkK (g:Gr) (k:Nat):Prop where
 ok:OkG g
 len:g.qa4.length=k
 le:k<=6
theorem Bm {d:wa} {n:Nat} (h:iB d n):Sx n (vi d)/\d=pj (vi d):=by obtain ⟨t,g,A,r,_,w⟩:=uA h;rw [r];exact ⟨⟨g,w⟩,A⟩
theorem rp {n:Nat}:∀(l:List Tk) (g:List ο),fV n g l->∀t∈l,∃d,Jn n d t
 |[],_,_,_,h=>by cases h
 |t::l,g,⟨h1,h2⟩,x,r=>by
  rcases tS.1 r with rfl|r
  ·exact ⟨_,h1⟩
  ·exact rp l _ h2 x r
theorem ik {g:Gr}:∀(l:List Pr) (r:List ο),eG g r l=0->∀p∈l,jj g p/\∃d,MU g d p
 |[],_,_,_,h=>by cases h
 |p::l,r,h,x,A=>by
  unfold eG at h;by_cases w:jj g p
  ·rw [Υ (μ w)] at h;by_cases B:MU g r p
   ·rw [Υ (μ B)] at h;rcases tS.1 A with rfl|A
    ·exact ⟨w,_,B⟩
    ·exact ik l _ h x A
   ·rw [Χ B] at h;cases h
  ·rw [Χ w] at h;cases h
section
variable {g:Gr} {k:Nat}
theorem OkK.fam (h:OkK g k):Sx k (vi g.fam)/\g.fam=pj (vi g.fam):=by have:=Bm h.ok.fam.2.2.1;rwa [h.len] at this
theorem OkK.fam0 (h:OkK g k):vi g.fam≠qa6 mD:=λe=>by have r:=h.ok.fam.2.2.2;rw [h.fam.2,e] at r;exact r rfl
theorem OkK.tok (h:OkK g k) {t:Tk} (r:t∈g.qa2):Sx k (vi t.cond)/\t.cond=pj (vi t.cond):=by obtain ⟨d,_,_,_,_,w,_⟩:=rp _ _ h.ok.qa2 t r;have:=Bm w;rwa [h.len] at this
theorem OkK.prod (h:OkK g k) {x:Pr} (w:x∈g.qa0):Sx k (vi x.cond)/\x.cond=pj (vi x.cond)/\jj g x:=by obtain ⟨r,d,_,_,A,_⟩:=ik _ _ h.ok.qa0 x w;have:=Bm A;rw [h.len] at this;exact ⟨this.1,this.2,r⟩
def eI (g:Gr) (i:Int):Tr:=match g.qa2[i.toNat]? with
 |some t=>vi t.cond
 |none=>qa6 mD
theorem OkK.tkd (h:OkK g k) (i:Int):Sx k (eI g i):=by
 unfold eI;split
 ·rename_i t r;exact (h.tok (vO r)).1
 ·exact Sx.qa6 k mD
def kQ (g:Gr):Tr->List Sy->Tr
 |d,[]=>d
 |d,s::r=>kQ g (if s.t=nk then ap2 bV d (eI g s.i) else d) r
theorem um (s:Sy):∀(r:List Sy) (d:Tr),kQ g d (r++[s])=if s.t=nk then ap2 bV (kQ g d r) (eI g s.i) else kQ g d r
 |[],d=>rfl
 |x::r,d=>by rw [zK];unfold kQ;exact um s r _
theorem fN (h:OkK g k):∀(r:List Sy) {d:Tr},Sx k d->Sx k (kQ g d r)/\∀c,(kQ g d r).ev c=(d.ev c && r.all λs=> !s.t || (eI g s.i).ev c)
 |[],d,hd=>⟨hd,λc=>by simp [kQ]⟩
 |s::r,d,hd=>by
  unfold kQ;by_cases w:s.t=nk
  ·rw [Χ w];obtain ⟨A,B⟩:=fN h r (hd.ap2 (o:=bV) (h.tkd s.i));refine ⟨A,λc=> ?_⟩;rw [B,Xw,(cE hd.1 (h.tkd s.i).1).2,w,Bool.and_assoc];rfl
  ·rw [Υ w];obtain ⟨A,B⟩:=fN h r hd;exact ⟨A,λc=>by rw [B,Xw,Yl.2 w];simp⟩
def bI (g:Gr) (i:Nat):Tr:=match g.qa0[i]? with
 |some x=>kQ g (ap2 bV (vi g.fam) (vi x.cond)) x.right
 |none=>qa6 mD
theorem OkK.prs (h:OkK g k) (i:Nat):Sx k (bI g i):=by
 unfold bI;split
 ·rename_i x r;exact (fN h _ (h.fam.1.ap2 (o:=bV) (h.prod (vO r)).1)).1
 ·exact Sx.qa6 k mD
theorem OkK.prs_ev (h:OkK g k) {i:Nat} {x:Pr} (r:g.qa0[i]? =V x) (c:Cf):(bI g i).ev c=((vi g.fam).ev c && (vi x.cond).ev c && x.right.all λs=> !s.t || (eI g s.i).ev c):=by unfold bI;rw [r];have w:=(h.prod (vO r)).1;dsimp only;rw [(fN h _ (h.fam.1.ap2 (o:=bV) w)).2,(cE h.fam.1.1 w.1).2]
end
instance:Mem wa where
 n:=2
 rep F d c:=DV F c d
 len h:=h.size
 le hl h:=h.le hl
 st h:=h.st
theorem qge:∃b z,SlT 205 33 2 b z:=⟨_,_,underlying205,aaF,Tt,rfl,by decide,by decide⟩
abbrev Y3 (g:Gr) (c n t s p l f q:Sl):Γ:= #[c.v,n.v,U g.fam.2,t.v,s.v,p.v,U g.start,l.v,f.v,q.v]
def tU (g:Gr) (n:Nat):List wa:=(List.range n).map λi=>pj (bI g i)
theorem FP (g:Gr) (n:Nat):tU g (n+1)=tU g n++[pj (bI g n)]:=by unfold tU;rw [List.range_succ,yW];rfl
theorem rq (g:Gr) (n:Nat):(tU g n).length=n:=by unfold tU;rw [ub,WI]
structure AnV (F:PH) (b:Nat) (g:Gr):Prop where
 ex:∃c n t s p l f q,F b=V (Y (Y3 g c n t s p l f q) 207)/\GS F g c n t s p l f/\RL F q (tU g g.qa0.length)
theorem AnV.le {F G:PH} {b:Nat} {g:Gr} (h:AnV F b g) (l:F.le G):AnV G b g:=by obtain ⟨c,n,t,s,p,lv,f,q,r,A,w⟩:=h;exact ⟨c,n,t,s,p,lv,f,q,l _ _ r,A.le l,w.le l⟩
theorem Iu (x:Addr) (i j:Nat):nV (nV x i) j=nV x (i+j):=by obtain ⟨a,o,p⟩:=x;by_cases hi:i=0<;>by_cases g:j=0<;>simp [nV,hi,g,Wo]
section
variable {G F:PH} {As:List (Ψ)} {g:Gr} {k:Nat}
theorem U4 (hk:OkK g k) {N1:Ω} {rv:ξ} {b2 b4 J O i:Nat} {p r:Sl} {R:VR} {c n t s p' l f:Sl} {x:Pr} (hx:g.qa0[i]? =V x) (q2:G b2=V (Y (g.arr c n t s p' l f) 39)) (ht:RL G t g.qa2) (hr:RL G r x.right) (hl:x.right.length<=1000000)
  {w:Γ} {d:Tr} (hd:Sx k d) (hw:DV G w (pj d)) (h:St G F (pt O (Y w 33)::As))
  (fin:∀B H w',G.le B->DV B w' (pj (kQ g d x.right))->St B H (pt O (Y w' 33)::As)->Bf N1 rv b2 b4 J O p (i:Int) R H):
  ∃(I2:Nat->Ω) (m2:Nat),I2 m2 (0:Int) F/\∀m2 L F,I2 m2 L F->vQ N1 (λa1 F=>∃m',m'<m2/\I2 m' a1 F) rv b2 b4 J O p (i:Int) r R L F:=by
 have b1:=hr.len;have a8:=(hk.prod (vO hx)).2.2.2;refine bD (vQ N1 · rv b2 b4 J O p (i:Int) r R) x.right.length (λj H=>∃(B:PH) (u:Γ),G.le B/\DV B u (pj (kQ g d (x.right.take j)))/\St B H (pt O (Y u 33)::As)) ⟨G,w,au _,by rw [z6];exact hw,h⟩ ?_;rintro j F3 N hj ⟨G1,u,l1,hu,h⟩ next;obtain ⟨fx,_⟩:=fN hk (x.right.take j) hd;unfold vQ;refine ⟨λa0=> ?_,λb5=> ?_⟩
 ·have a0:j<x.right.length:=by omega
  refine t8 ((hr.le l1).le h.le) (by decide) (by omega) (by omega) λa cc C hs a3 hc=>⟨cc,Mem.len hc,a3,?_⟩;rw [N4] at hs;obtain rfl:cc=C.arr:=hc;have et:=bg hs;have D:=um (g:=g) C (x.right.take j) d;obtain ⟨s0,_,s2⟩:=a8 C (vO hs);refine h.var (by simp [ak]) (λb8 G2 F4 Q E h=>⟨_,ld (h.le _ _ E) rfl,?_⟩) rfl rfl;have M:∀{B H:PH} {u':Γ},G1.le B->DV B u' (pj (kQ g d (x.right.take (j+1))))->St B H (pt O (Y u' 33)::As)->
    vP N1 N rv b2 b4 J O p (i:Int) r (j:Int) R H:=λ{B H u'} l b0 h=>by
   unfold vP;rw [aC a0];exact next _ a0 ⟨B,u',aa l1 l,b0,h⟩
  refine ⟨λA=> ?_,λA=> ?_⟩
  ·have A:C.t=nk:=A;rw [Χ A] at D;obtain ⟨tk,K,_⟩:=s2 A;have ed:eI g C.i=vi tk.cond:=by unfold eI;rw [K]
   obtain ⟨tx,td⟩:=hk.tok (vO K);have a4:=ht.le (aa l1 Q);have b7:=a4.len;have b6:C.i.toNat<g.qa2.length:=(N6.1 K).1;refine ⟨u,hu.size,ai (h.ptAt (i:=0) rfl),_,ld (h.le _ _ (Q _ _ (l1 _ _ q2))) rfl,_,ld (h.le _ _ E) rfl,?_⟩;refine h.ix a4 (by decide) s0 (by omega) λa2 c2 y X W a9=> ?_;rw [K] at X;obtain rfl:=yR X;obtain ⟨pp,nn,rfl,_,a7⟩:=a9;have a6:DV G2 #[nn.v,U tk.cond.2] (pj (eI g C.i)):=by rw [ed,<- td];exact DV.mk a7
   refine ⟨#[nn.v,U tk.cond.2],rfl,λq hq=> ?_,?_⟩
   ·have b3:q<2:=hq;have:=W (5+q) (by show 5+q<7;omega);rw [Iu];refine this.trans ?_;rcases (show q=0\/q=1 by omega) with rfl|rfl<;>rfl
   ·refine h.run (P:=λr' B=>∃y,r'=po #[nQ y,U 0]/\DV B y (pj (ap2 bV (kQ g d (x.right.take j)) (eI g C.i)))) ((pK hk.le fx (hk.tkd C.i) (hu.le Q) a6).mono λr H ⟨x,a,b,c⟩=>⟨⟨x,a,b⟩,c⟩) λ_ G4 F6 a5 l4 h=> ?_;obtain ⟨y,rfl,X⟩:=a5;refine ⟨_,_,rfl,ld (h.le _ _ (l4 _ _ E)) rfl,ld (h.le _ _ (l4 _ _ (Q _ _ (l1 _ _ q2)))) rfl,?_⟩;refine h.runv (ci X) λG5 F7 l5 h=>⟨_,rfl,?_⟩;refine ⟨ld (h.le _ _ (l5 _ _ (l4 _ _ E))) rfl,ld (h.le _ _ (l5 _ _ (l4 _ _ (Q _ _ (l1 _ _ q2))))) rfl,?_⟩;refine h.put0 (w':=y) X.size hu.size X.st λF8 h=> ?_;refine M (aa Q (aa l4 l5)) ?_ h;rw [et,D];exact X.le l5
  ·have A:C.t≠nk:=λe=>by rw [show C.t=nk from e] at A;cases A
   rw [Υ A] at D;refine M Q ?_ h;rw [et,D];exact hu.le Q
 ·have e:j=x.right.length:=by omega
  subst e;rw [wB] at hu;exact fin G1 _ u l1 hu h
end
section
variable {G F:PH} {As:List (Ψ)} {Bs:PH->List (Ψ)} {g:Gr} {k:Nat}
theorem St.rot {A:Ψ} (h:St G F (A::As)):St G F (As++[A]):=by
 refine h.pick (λi=>if i=As.length then 0 else i+1) (λi j _ _ e=> ?_) (λi hi=> ?_)
 ·split at e<;>split at e<;>omega
 ·rw [tT,Ub] at hi;split
  ·rename_i e;rw [e,Ua (ru _),X4];rfl
  ·rw [zM (by omega)];rfl
theorem St.unrot {A:Ψ} (h:St G F (As++[A])):St G F (A::As):=by
 refine h.pick (λi=>if i=0 then As.length else i - 1) (λi j hi r e=> ?_) (λi hi=> ?_)
 ·rw [wg] at hi r;split at e<;>split at e<;>omega
 ·rw [wg] at hi;split
  ·rename_i e;rw [e,Ua (ru _),X4];rfl
  ·rename_i e;obtain ⟨j,rfl⟩:∃j,i=j+1:=⟨i - 1,by omega⟩;rw [Nat.add_sub_cancel,zM (by omega)];rfl
theorem qhT {v:Γ} (hT:Tab G) (hg:GV G v g) (hz:Sz g) (J:OkK g k) (hl:∀x∈g.qa0,x.right.length<=1000000) (hp:g.qa0.length<=1000000) (h:St G F As) {kr:Nat} {fst cap:Γ} (cb:aF prog kr=nk)
  (run:∀w b O,G.le w->AnV w b g->St w O As->aj prog kr (fst++ #[pk (V ⟨b,0,I⟩)]++cap) O λr a8=>∃M,r=po #[]/\w.le M/\St M a8 (Bs M)):
  ν 78 #[nQ v,.func (.func kr) fst cap] F λr O=>r=U 0/\∃w,G.le w/\St w O (Bs w):=by
 obtain ⟨_,_,T⟩:=qge;have hc:=w7.2 J.ok;refine qgb ?_;unfold US;refine h.newG λb2 G1 F1 l1 q2 _ h=>h.new λb4 F2 h=>⟨v,hg.size,ai (h.le _ _ q2),?_⟩;refine h.run (oO (hT.le l1) (hg.le l1) hz) λ_ G3 F3 hr l3 h=> ?_;rw [hr,hc];refine ⟨_,rfl,λhn=>absurd rfl hn,λ_=>⟨Mo _,v,hg.size,ai (h.le _ _ (l3 _ _ q2)),hg.size,?_⟩⟩;have K:=aa l1 l3;obtain ⟨c,n,t,s,p,lv,f,rfl,hs⟩:=hg.le K;have q2:=l3 _ _ q2;refine h.new λE F4 h=> ?_;rw [show wr (#[tX I 0 0,.slice I 0 0,U 0,.slice I 0 0,.slice I 0 0,.slice I 0 0,U 0,.slice I 0 0,.slice I 0 0,.slice I 0 0]:Γ) 0 (g.arr c n t s p lv f).toList=Y3 g c n t s p lv f pm by kernel_rfl] at h;refine ⟨_,ld (h.le _ _ q2) rfl,?_⟩;have h:=h.nilOwn 33 2;have ep:=hs.p.len
 refine bD (Bg · (.func (.func kr) fst cap) b2 b4 E p _) g.qa0.length (λi O=>∃(w:PH) (sl:Sl) (vs:List Γ),G3.le w/\bS w (tU g i) vs/\
  St w O (own sl 33 2 (tZ vs)::pt E (Y (Y3 g c n t s p lv f sl) 207)::pt b4 (Y #[U 0] 49)::As)) ⟨G3,pm,[],au _,.nil,h⟩ ?_
 rintro i F5 N hi ⟨G4,sl,vs,l4,hv,h⟩ next;have W:=hs.le l4;unfold Bg;refine ⟨λL=> ?_,λb5=> ?_⟩
 ·have L:i<g.qa0.length:=by omega
  refine h.ix W.p (by decide) (by omega) (by omega) λa c8 x hx a3 D=>⟨c8,Mem.len D,a3,?_⟩;rw [N4] at hx;have a2:=vO hx;obtain ⟨X,b1,_⟩:=J.prod a2;refine h.var (Mem.st D) (λb8 G5 F6 C q8 h=> ?_) rfl (Mem.len D);obtain ⟨r8,n8,l8,rfl,a5,a9,_⟩:=D;have a1:=W.le C;have a0:=C _ _ (l4 _ _ q2);have d1:DV G5 #[n.v,U g.fam.2] (pj (vi g.fam)):=by rw [<- J.fam.2];exact DV.mk a1.n
  have d2:DV G5 #[n8.v,U x.cond.2] (pj (vi x.cond)):=by rw [<- b1];exact DV.mk (a9.le C)
  refine ⟨#[n.v,U g.fam.2],rfl,ga (h.le _ _ a0) rfl,#[n8.v,U x.cond.2],rfl,ga (h.le _ _ q8) rfl,?_⟩;refine h.run (P:=λr' w=>∃y,r'=po #[nQ y,U 0]/\DV w y (pj (ap2 bV (vi g.fam) (vi x.cond)))) ((pK J.le J.fam.1 X d1 d2).mono λr O ⟨x,a,b,c⟩=>⟨⟨x,a,b⟩,c⟩) λ_ G6 F7 a6 l6 h=> ?_;obtain ⟨y,rfl,hy⟩:=a6;refine ⟨_,_,rfl,?_⟩;refine h.runv (ci hy) λG7 F8 l7 h=>⟨_,rfl,?_⟩;have B:=aa l6 l7;refine h.new λb9 F9 h=> ?_;refine h.put0 (w':=y) hy.size rfl hy.st λc4 h=>⟨_,ld (h.le _ _ (B _ _ q8)) rfl,?_⟩;refine U4 J hx (B _ _ a0) (a1.le B).t (a5.le (aa C B)) (hl x a2) (J.fam.1.ap2 (o:=bV) X) (hy.le l7) h λG8 b7 w' b3 hw h=> ?_;unfold Bf;refine ⟨_,h.ld2 rfl,w',hw.size,ai (h.ptAt (i:=0) rfl),hw.size,?_⟩;have a4:=aa B b3;have Q:=hv.le (aa C a4);have c2:sl.len=i:=by have:=RL.len ⟨vs,Q.le h.le,bO.rd (h.ownAt (i:=1) rfl).1⟩ (by decide);rw [rq] at this;exact this
  refine h.push1 T hw.size hw.st (by omega) λs' G9 b6 l9 h c5=> ?_;refine h.set2 (w':=Y3 g c n t s p lv f s') (vr rfl) rfl λc3 h=> ?_;unfold Il;rw [aC L];refine next _ L ⟨G9,s',vs++[w'],aa l4 (aa C (aa a4 l9)),?_,?_⟩
  ·rw [FP];have e:bI g i=kQ g (ap2 bV (vi g.fam) (vi x.cond)) x.right:=by unfold bI;rw [hx]
   rw [e];exact (Q.append (.cons hw .nil)).le l9
  ·rw [ba,cI];exact h.tail
 ·have e:i=g.qa0.length:=by omega
  subst e;unfold Ik;obtain ⟨G5,C,hd,h⟩:=h.pinO;obtain ⟨G6,l6,⟨H,hA,hH⟩,h⟩:=h.pin;have a7:=hH _ _ hA;have A:=aa l4 (aa C l6);have b0:AnV G6 E g:=⟨c,n,t,s,p,lv,f,sl,a7,hs.le A,⟨vs,hv.le (aa C l6),hd.le l6⟩⟩;refine ⟨kr,fst,cap,rfl,cb,?_⟩;refine (h.rot.callL (Bs':=λ_ w=>Bs w) (P:=λr _=>r=po #[]) λF1 h1=>run G6 E F1 (aa K A) b0 h1).mono ?_;rintro r F7 ⟨G7,rfl,l7,h⟩;refine ⟨rfl,?_⟩;have h:=h.unrot;refine h.set0 (w':= #[U 0]) (vr rfl) rfl λF8 h=>⟨_,h.ld0 rfl,rfl,G7,aa K (aa A l7),h.tail⟩
end
theorem RW:aF prog 187=nk:=by kernel_rfl
section
variable {G G0 F:PH} {m k:Nat} {σ:Type}
structure U5 (G:PH) (k m:Nat) (kr:Nat) (fst cap:Γ) (keys:Φ) (Inv:(Int->Tr)->Prop) (rnd:(Int->Tr)->Int->Tr) (aux:(Int->Tr)->σ) (As:PH->σ->List (Ψ)):Prop where
 cb:aF prog kr=nk
 sx:∀S,Sxs k S->Inv S->Sxs k (rnd S)/\Inv (rnd S)/\Lt' S (rnd S)/\∀n,rnd S n≠S n->n∈keys
 run:∀G' F' S x b2 b4,G.le G'->Sxs k S->Inv S->G'.cell ⟨b2,0,I⟩=V (.map (V m))->St G' F' (mS be G' m S::pt b4 (Y #[nW mD] 4)::As G' x)->
  aj prog kr (fst++ #[.func (.func 187) #[] #[pk (V ⟨b2,0,I⟩),pk (V ⟨b4,0,I⟩)]]++cap) F' λr F''=>∃G'' ch,r=po #[]/\G'.le G''/\(ch=nk↔rnd S≠S)/\
   St G'' F'' (mS be G'' m (rnd S)::pt b4 (Y #[nW ch] 4)::As G'' (aux S))
theorem FQ {kr:Nat} {fst cap:Γ} {keys:Φ} {Inv:(Int->Tr)->Prop} {g:(Int->Tr)->Int->Tr} {E:(Int->Tr)->σ} {As:PH->σ->List (Ψ)} (W:U5 G k m kr fst cap keys Inv g E As)
  (up:∀w A K x S,w.le A->St A K (mS be w m S::As w x)->St A K (mS be A m S::As A x)) {S:Int->Tr} {x:σ} (hS:Sxs k S) (hI:Inv S) (h:St G F (mS be G m S::As G x)):
  ν 150 #[.map (V m),.func (.func kr) fst cap] F λr K=>∃w S',r=po #[]/\G.le w/\Sxs k S'/\Inv S'/\g S'=S'/\St w K (mS be w m S'::As w (E S')):=by
 refine U1 ?_;unfold OD;refine h.newG λb2 Q F1 l1 q2 _ h=> ?_;have h:=up G Q F1 x S l1 h;refine h.new λb4 F2 h=> ?_;refine h.set0 (w':= #[nW nk]) (vr rfl) rfl λF3 h=> ?_
 refine ⟨λq p K=>∃(b:Nat) (w:PH) (S':Int->Tr) (y:σ) (M:Bool),p=V (oB b 0 I)/\q=mu k keys S'+(if M=nk then 1 else 0)/\Q.le w/\Sxs k S'/\Inv S'/\(M=mD->g S'=S'/\y=E S')/\
  St w K (pt b (Y #[nW M] 4)::mS be w m S'::As w y),mu k keys S+1,⟨b4,Q,S,x,nk,rfl,rfl,au _,hS,hI,λL=>(by cases L),h⟩,?_⟩
 rintro q p F4 ⟨b,G2,C,y,M,rfl,rfl,O,D,H,X,h⟩;unfold Dl;refine ⟨_,rfl,M,h.ld0 rfl,λht=> ?_,λP=> ?_⟩
 ·subst ht;refine h.set0 (w':= #[nW mD]) (vr rfl) rfl λF5 h=>⟨kr,fst,cap,rfl,W.cb,?_⟩;obtain ⟨s1,s2,s3,s4⟩:=W.sx C D H;refine (W.run G2 F5 C y b2 b (aa l1 O) D H (ld (O _ _ q2) rfl) h.swap).mono ?_;rintro _ F6 ⟨G3,B,rfl,l3,N,h⟩;refine ⟨rfl,B,h.ld1 rfl,?_⟩;have h:=h.swap;refine h.new λb5 F7 h=> ?_;refine h.set0 (w':= #[nW B]) (vr rfl) rfl λF8 h=> ?_;refine ⟨mu k keys (g C)+(if B=nk then 1 else 0),?_,b5,G3,g C,E C,B,rfl,rfl,aa O l3,s1,s2,λP=> ?_,h.swap.tail.swap.swap⟩
  ·obtain ⟨m1,m2⟩:=Jk D s1 s3 keys;rw [Χ rfl];by_cases L:B=nk
   ·rw [Χ L];have J:=N.1 L;obtain ⟨n,hn⟩:∃n,g C n≠C n:=Classical.not_forall.1 λha=>J (funext ha);have:=m2 n (s4 n hn) (Ne.symm hn);omega
   ·rw [Υ L];omega
  ·have e:g C=C:=Classical.not_not.1 λJ=>by rw [N.2 J] at P;cases P
   exact ⟨by rw [e,e],by rw [e]⟩
 ·subst P;obtain ⟨e1,e2⟩:=X rfl;exact ⟨G2,C,rfl,aa l1 O,D,H,e1,by rw [<- e2];exact h.tail⟩
end
abbrev FR (b2 b4:Nat):Value:=.func (.func 187) #[] #[pk (V ⟨b2,0,I⟩),pk (V ⟨b4,0,I⟩)]
theorem Mp {B:Type} {k:Nat} {S T g:B->Tr} (E:Sxs k S) (w:Sxs k T) (C:Sxs k g) (r:Lt' S T) (A:Lt' T g):(T≠S\/g≠T)↔g≠S:=by
 constructor
 ·rintro h rfl;have e:T=g:=Lt'.antisymm w C A r;rcases h with h|h
  ·exact h e
  ·exact h e.symm
 ·intro h;by_cases e:T=S
  ·exact .inr λD=>h (D.trans e)
  ·exact .inl e
theorem un {st:Bool} {x:Pr}:gj st x=nk↔st=nk/\∃s∈x.right,s.t=nk:=by unfold gj;rw [Xk,XK]
section
variable {G F:PH} {As:List (Ψ)} {g:Gr} {k m:Nat} {st:Bool}
structure DrE (G:PH) (g:Gr) (st:Bool) (m ban b1 b3 b5 b2:Nat):Prop where
 q1:G b1=V (Y #[pk (V ⟨ban,0,I⟩)] 169)
 q3:G b3=V (Y #[nW st] 4)
 q5:G b5=V (Y #[.map (V m)] 170)
 q2:G.cell ⟨b2,0,I⟩=V (.map (V m))
 an:AnV G ban g
theorem DrE.le {G D:PH} {r C w B A:Nat} (h:DrE G g st m r C w B A) (l:G.le D):DrE D g st m r C w B A:=⟨l _ _ h.q1,l _ _ h.q3,l _ _ h.q5,aK l h.q2,h.an.le l⟩
theorem Mq {e3 b1 b3 b5 b2 X:Nat} (hk:OkK g k) (hl:∀x∈g.qa0,x.right.length<=1000000) (hp:g.qa0.length<=1000000) (E:DrE G g st m e3 b1 b3 b5 b2) {S:Int->Tr} (hS:Sxs k S)
  (h:St G F (mS be G m S::pt X (Y #[nW mD] 4)::As)):
  ν 151 #[FR b2 X,.pointer (V ⟨b1,0,I⟩),pk (V ⟨b3,0,I⟩),pk (V ⟨b5,0,I⟩)] F λr b7=>∃w D,r=po #[]/\G.le w/\(D=nk↔iX st (bI g) 0 g.qa0 S≠S)/\
   St w b7 (mS be w m (iX st (bI g) 0 g.qa0 S)::pt X (Y #[nW D] 4)::As):=by
 obtain ⟨c,n,t,s,p,lv,f,q,qa,hs,hq⟩:=E.an.ex;have ep:=hs.p.len;have eq:=hq.len;rw [rq] at eq;refine U2 ?_;unfold OE;refine ⟨_,rfl,_,ld (h.le _ _ E.q1) rfl,_,rfl,_,by rw [aI];exact ld (h.le _ _ qa) rfl,?_⟩
 refine bD (vZ · (FR b2 X) (oB b1 0 I) _ _ p _) g.qa0.length (λi P=>∃(C:PH) (S':Int->Tr) (D:Bool),G.le C/\Sxs k S'/\Lt' S S'/\iX st (bI g) 0 g.qa0 S=iX st (bI g) i (g.qa0.drop i) S'/\(D=nk↔S'≠S)/\
  St C P (mS be C m S'::pt X (Y #[nW D] 4)::As)) ⟨G,S,mD,au _,hS,Lt'.refl S,by rw [Vu],by simp,h⟩ ?_
 rintro i F1 N hi ⟨G1,S1,D,l1,M,d3,K,e1,h⟩ next;have E1:=E.le l1;have up:∀{G1 G2 P:PH} {S':Int->Tr} {d0:List (Ψ)},St G2 P (mS be G1 m S'::d0)->G1.le G2->St G2 P (mS be G2 m S'::d0):=λ{G1 G2 P S' d0} h l=>h.imp 0 rfl λH _ ⟨o,mp,a1,a2,a3⟩=>⟨o,mp,a1,a2,a3.le l⟩;unfold vZ;refine ⟨λa0=> ?_,λe5=> ?_⟩
 ·have a0:i<g.qa0.length:=by omega
  have e4:=hs.le l1;refine h.ix e4.p (by decide) (by omega) (by omega) λa c6 x hx d4 a4=>⟨c6,Mem.len a4,d4,?_⟩;rw [N4] at hx;have c2:=vO hx;have c5:g.qa0.drop i=x::g.qa0.drop (i+1):=fK hx;obtain ⟨a1,a2⟩:=gl (st:=st) M (hk.prs i) x;refine h.var (Mem.st a4) (λb6 G2 F2 l2 q6 h=> ?_) rfl (Mem.len a4);obtain ⟨r,n6,l6,rfl,hr,e6,_⟩:=a4;have er:=(hr.le l2).len;refine ⟨_,ld (h.le _ _ q6) rfl,?_⟩;have a6:∀{C P:PH} {W:Bool} {S':Int->Tr},G2.le C->S'=(if gj st x=nk then S1 else dU S1 x.left (ft S1 (bI g i) x.right))->(W=nk↔D=nk\/S'≠S1)->St C P (mS be C m S'::pt X (Y #[nW W] 4)::As)->
    pI N (FR b2 X) (oB b1 0 I) (V (oB b3 0 I)) (V (oB b5 0 I)) p (i:Int) (λr b7=>∃w D,r=po #[]/\G.le w/\(D=nk↔iX st (bI g) 0 g.qa0 S≠S)/\
   St w b7 (mS be w m (iX st (bI g) 0 g.qa0 S)::pt X (Y #[nW D] 4)::As)) P:=λ{C P W S'} l e L h=>by
   unfold pI;rw [aC a0];subst e;refine next _ a0 ⟨C,_,W,aa l1 (aa l2 l),a1,d3.trans a2,?_,?_,h⟩
   ·rw [K,c5];rfl
   ·rw [L,e1];exact Mp hS M a1 d3 a2
  refine bD (vY N · (FR b2 X) (oB b1 0 I) (V (oB b3 0 I)) (V (oB b5 0 I)) (i:Int) b6 p r _) x.right.length (λj P=>∃C:PH,G2.le C/\(st=nk->∀(j':Nat) (y:Sy),j'<j->x.right[j']? =V y->y.t=mD)/\
   St C P (mS be C m S1::pt X (Y #[nW D] 4)::As)) ⟨G2,au _,λ_ j' y hj=>by omega,up h l2⟩ ?_
  rintro j F3 N2 hj ⟨G3,l3,e0,h⟩ Q;unfold vY;have E3:=E1.le (aa l2 l3);refine ⟨λO=> ?_,λe7=> ?_⟩
  ·have O:j<x.right.length:=by omega
   refine h.ix (hr.le (aa l2 l3)) (by decide) (by omega) (by omega) λa8 c8 y hy b9 d2=>⟨c8,Mem.len d2,b9,?_⟩;rw [N4] at hy;obtain rfl:c8=y.arr:=d2;refine h.var (by simp [ak]) (λb8 G4 F4 l4 q8 h=>⟨_,ld (h.le _ _ q8) rfl,λA=> ?_,λA=> ?_⟩) rfl rfl
   ·have A:y.t=nk:=A;refine ⟨_,rfl,_,ld (h.le _ _ (l4 _ _ E3.q3)) rfl,λJ=> ?_,λJ=> ?_⟩
    ·refine a6 (aa l3 l4) (S':=S1) ?_ (by simp) (up h l4);rw [Χ (un.2 ⟨J,y,vO hy,A⟩)]
    ·unfold pJ;rw [aC O (by have:=hl x c2;omega)];exact Q _ O ⟨G4,aa l3 l4,λh=>(by rw [show st=mD from J] at h;cases h),up h l4⟩
   ·unfold pJ;rw [aC O (by have:=hl x c2;omega)];refine Q _ O ⟨G4,aa l3 l4,λJ j' z b0 hz=> ?_,up h l4⟩;by_cases e:j'=j
    ·subst e;rw [hy] at hz;cases hz;exact A
    ·exact e0 J j' z (by omega) hz
  ·have hj:j=x.right.length:=by omega
   subst hj;have c4:¬gj st x=nk:=λe2=>by obtain ⟨h1,y,hy,A⟩:=un.1 e2;obtain ⟨j',b0⟩:=List.getElem?_of_mem hy;have:=e0 h1 j' y (N6.1 b0).1 b0;rw [A] at this;cases this
   unfold Dm;have d1:=aa l1 (aa l2 l3);have c3:=d1 _ _ qa;have a7:=l3 _ _ q6;refine ⟨_,ld (h.le _ _ a7) rfl,_,ld (h.le _ _ E3.q1) rfl,_,rfl,_,by rw [aI];exact ld (h.le _ _ c3) rfl,?_⟩;refine h.ix (hq.le d1) (by decide) (by omega) (by omega) λa9 c9 dd B c7 a5=>⟨c9,Mem.len a5,c7,?_⟩;rw [N4] at B;have B:dd=pj (bI g i):=by unfold tU at B;rw [yw,Xz a0] at B;exact (yR B).symm
   have a5:DV G3 c9 (pj (bI g i)):=by rw [<- B];exact a5
   refine ⟨_,ld (h.le _ _ a7) rfl,_,rfl,_,ld (h.le _ _ E3.q5) rfl,?_⟩;refine (ul h (au _) hk.le M (hk.prs i) a5 (hr.le (aa l2 l3)) (hl x c2)).mono ?_;rintro _ F5 ⟨G5,u,rfl,hu,l5,h⟩;have E5:=E3.le l5;refine ⟨u,rfl,by rw [aI];exact ld (h.le _ _ (l5 _ _ c3)) rfl,ld (h.le _ _ E5.q1) rfl,ld (h.le _ _ (l5 _ _ a7)) rfl,_,_,_,rfl,RW,?_⟩;refine (FO h l5 hk.le M (cL M x.right (hk.prs i)).1 hu E5.q2 x.left).mono ?_;rintro _ F6 ⟨G6,W,rfl,L,l6,h⟩;refine ⟨rfl,by rw [aI];exact ld (h.le _ _ (l6 _ _ (l5 _ _ c3))) rfl,ld (h.le _ _ (l6 _ _ E5.q1)) rfl,?_⟩;exact a6 (aa l3 (aa l5 l6)) (by rw [Υ c4]) L h
 ·have e:i=g.qa0.length:=by omega
  subst e;rw [XX] at K;have K:iX st (bI g) 0 g.qa0 S=S1:=K;rw [K];exact ⟨G1,D,rfl,l1,e1,h⟩
end
theorem RX:aF prog 151=nk:=by kernel_rfl
section
variable {G F:PH} {As:List (Ψ)} {g:Gr} {k m:Nat} {st:Bool}
theorem St.toMap {r:Type} [DecidableEq r] (enc:r->ξ) (h:St G F (pt m (.map #[] 0)::As)):St G F (mS enc G m (λ_=>qa6 mD)::As):=
 h.imp (A':=mS enc G m (λ_=>qa6 mD)) 0 rfl λ_ _ w=>⟨_,_,w,dW.empty enc,i8.empty G⟩
theorem Mr {w B C A:Nat} (D:OkK g k) (M:∀x∈g.qa0,x.right.length<=1000000) (X:g.qa0.length<=1000000) (q1:G B=V (Y #[pk (V ⟨w,0,I⟩)] 169)) (q3:G C=V (Y #[nW st] 4))
  (q5:G A=V (Y #[.map (V m)] 170)) (H:AnV G w g):
  U5 G k m 151 #[] #[pk (V ⟨B,0,I⟩),pk (V ⟨C,0,I⟩),pk (V ⟨A,0,I⟩)] (g.qa0.map (·.left)) (Zr g.qa0 (bI g) st) (iX st (bI g) 0 g.qa0) (λ_=>()) (λ_ _=>As) where
 cb:=RX
 sx S hS hI:=by obtain ⟨a1,a2,P⟩:=lq (st:=st) D.prs g.qa0 0 hS;refine ⟨a1,zd D.prs g.qa0 0 (λj x Q=>by rw [x9];exact Q) hS hI,a2,λn N=> ?_⟩;obtain ⟨x,O,e⟩:=P n N;exact xv.2 ⟨x,O,e⟩
 run G' F' S x b2 b4 l hS hI hc h:=by
  have e:(#[]++ #[FR b2 b4]++ #[pk (V ⟨B,0,I⟩),pk (V ⟨C,0,I⟩),pk (V ⟨A,0,I⟩)]:Γ)= #[FR b2 b4,.pointer (V ⟨B,0,I⟩),pk (V ⟨C,0,I⟩),pk (V ⟨A,0,I⟩)]:=by simp
  rw [e];refine (Mq D M X ⟨l _ _ q1,l _ _ q3,l _ _ q5,hc,H.le l⟩ hS h).mono ?_;rintro r L ⟨E,W,J,K,h3,h4⟩;exact ⟨E,W,J,K,h3,h4⟩
theorem qhe {E:Nat} (L:OkK g k) (P:∀x∈g.qa0,x.right.length<=1000000) (hp:g.qa0.length<=1000000) (K:AnV G E g) (h:St G F As):
  ν 110 #[pk (V ⟨E,0,I⟩),nW st] F λr C=>∃A B S,r=.map (V B)/\G.le A/\Jl k g.qa0 (bI g) st S/\St A C (mS be A B S::As):=by
 refine qcJ ?_;unfold Oy;refine h.newG λb1 G1 F1 l1 q1 _ h=>h.newG λb3 G2 F2 M q3 _ h=>h.new λB F3 h=> ?_;have h:=h.toMap be;refine h.new λb5 F4 h=> ?_;refine h.set0 (w':= #[.map (V B)]) (vr rfl) rfl λF5 h=> ?_;obtain ⟨G3,J,⟨H,hA,hH⟩,h⟩:=h.pin;have q5:=hH _ _ hA;have D:=aa l1 (aa M J);have up:∀(A w C:PH) (x:Unit) (S:Int->Tr),A.le w->St w C (mS be A B S::As)->St w C (mS be w B S::As):=λA w C _ S l h=>h.imp 0 rfl λH _ ⟨o,mp,a1,a2,W⟩=>⟨o,mp,a1,a2,W.le l⟩;have h:=up _ _ _ () _ J h;refine ⟨_,ld (h.le _ _ q5) rfl,?_⟩;refine (FQ (Mr (As:=As) L P hp (J _ _ (M _ _ q1)) (J _ _ q3) q5 (K.le D)) up (x:=()) (λ_=>Sx.qa6 k mD) (λn c X=>by cases X) h).mono ?_;rintro _ F6 ⟨G6,S,rfl,N,O,hI,Q,h⟩;exact ⟨rfl,_,ld (h.le _ _ (N _ _ q5)) rfl,G6,B,S,rfl,aa D N,Jm L.prs O hI Q,h⟩
end
structure uo (k n:Nat) (l:List Pr) (P:Nat->Tr) (C:Int->Tr):Prop where
 sx:Sxs k C
 iff:∀(i:Nat) c,i<n->((C i).ev c=nk↔Tg (WY l P c) i i)
theorem St.exI {α:Type} {G F:PH} {As:List (Ψ)} {A:α->Ψ} (h:St G F As) (i:Nat) (hi:As[i]? =V λH=>∃x,A x H):∃x,St G F (As.set i (A x)):=by
 obtain ⟨K,E,w,D⟩:=h;obtain ⟨⟨x,C⟩,hd,r⟩:=w i _ hi;refine ⟨x,K,E,λj B g=> ?_,λj k g J=>D j k (by simpa using g) (by simpa using J)⟩;by_cases e:j=i
 ·subst e;rw [X1 (N6.1 hi).1] at g;cases g;exact ⟨C,hd,r⟩
 ·rw [Zh (Ne.symm e)] at g;exact w j B g
theorem St.prI {P:Prop} {G F:PH} {As:List (Ψ)} {A:Ψ} (h:St G F As) (i:Nat) (hi:As[i]? =V λH=>P/\A H):P/\St G F (As.set i A):=by obtain ⟨H,⟨g,_⟩,_⟩:=h.get hi;exact ⟨g,h.imp i hi λ_ _ h=>h.2⟩
theorem St.hd {G F:PH} {As:List (Ψ)} {A:Ψ} (h:St G F (A::As)):St G F [A]:=h.pick id (λ_ _ _ _ e=>e) λi hi=>by
 cases i with
 |zero=>rfl
 |succ i=>simp at hi
section
variable {G F Gd:PH} {g:Gr} {k m mu ms:Nat} {D:Int->Tr}
theorem mS.le {r:Type} [DecidableEq r] {enc:r->ξ} {G w:PH} {m:Nat} {S:r->Tr} {H:PH} (h:mS enc G m S H) (l:G.le w):mS enc w m S H:=by obtain ⟨o,mp,A,B,C⟩:=h;exact ⟨o,mp,A,B,C.le l⟩
end
theorem St.var1 {G F:PH} {As:List (Ψ)} (h:St G F As) {z v:ξ} {e:TypeId} {K:Nat->Ψ} (k:∀b g r,G.le g->g b=V (Y #[v] e)->St g r As->K b r):∀b,F b=I->xJ (F.set b (Y #[z] e)) λF=>pv F (oB b 0 I) v (K b):=by refine h.new λb w h=> ?_;refine h.set0 (w':= #[v]) (vr rfl) rfl λF2 h=> ?_;exact h.pinb λg l q h=>k b g F2 l q h
def tV (n:Nat):Φ:=(List.range n).map λi:Nat=>(i:Int)
theorem Iv {n i:Nat} (h:i<n):(tV n)[i]? =V (i:Int):=by unfold tV;rw [yw,Xz h];rfl
instance:Mem (List wa) where
 n:=1
 rep F x c:=∃s:Sl,c= #[s.v]/\RL F s x
 len h:=by obtain ⟨s,rfl,_⟩:=h;rfl
 le hl h:=by obtain ⟨s,h1,h2⟩:=h;exact ⟨s,h1,h2.le hl⟩
 st h:=by obtain ⟨s,rfl,_⟩:=h;simp [ak,nI]
theorem gg {α:Type} [DecidableEq α]:∀{l m:List α},l.Nodup->(∀x∈l,x∈m)->l.length<=m.length
 |[],_,_,_=>yA _
 |x::l,m,h,hs=>by rw [WT] at h;have g:=hs x (by simp);have:=gg (m:=m.erase x) h.2 λy r=>(List.mem_erase_of_ne λe=>h.1 (by rw [<- e];exact r)).2 (hs y (Vz _ r));rw [List.length_erase_of_mem g] at this;have w:0<m.length:=List.length_pos_of_mem g;rw [wg];omega
theorem jz {K:Type} [DecidableEq K] {k:K} {v:ξ}:∀{L:List (K×ξ)},(L.map (·.1)).Nodup->(lk k L=V v↔(k,v)∈L)
 |[],_=>by simp [lk]
 |p::L,h=>by
  rw [xA,WT] at h;unfold lk;by_cases e:k=p.1
  ·rw [Χ e];constructor
   ·intro g;cases g;rw [e];exact XA ..
   ·intro g;rcases tS.1 g with g|g
    ·rw [<- g]
    ·exact absurd (xv.2 ⟨_,g,e⟩) h.1
  ·rw [Υ e,jz h.2,tS];exact ⟨.inr,λg=>g.resolve_left λg=>e (by rw [<- g])⟩
theorem uq {K:Type} [DecidableEq K] (k:K):∀(L:List (K×ξ)) (i:Nat),Ws k L i=I->∀p∈L,p.1≠k
 |[],_,_,p,h=>by cases h
 |q::L,i,h,p,g=>by
  unfold Ws at h;split at h
  ·cases h
  ·rename_i r;rcases tS.1 g with rfl|g
   ·exact λe=>r e.symm
   ·exact uq k L _ h p g
section
variable {K:Type} [DecidableEq K] {enc:K->ξ} {m:K->Option ξ} {F:PH} {r:Nat}
structure ry (enc:K->Value) (m:K->Option Value) (es:Array MapEntry) (c:Nat) (L:List (K×Value)):Prop where
 eq:es.toList.map (λe=>(e.key,e.val))=L.map (λp=>(enc p.1,p.2))
 lk:∀k,m k=lk k L
 st:MapKept.Stamped es c
def yB (enc:K->ξ) (m:K->Option ξ) (o:Obj):Prop:=∃es c L,o=.map es c/\ry enc m es c L
theorem yB.mapO {o:Obj} (h:yB enc m o):dW enc m o:=by obtain ⟨g,c,L,rfl,h⟩:=h;exact ⟨g,c,L,rfl,h.eq,h.lk⟩
theorem yB.empty (enc:K->ξ):yB enc (λ_=>I) (.map #[] 0):=⟨#[],0,[],rfl,rfl,λ_=>rfl,MapKept.stamped_empty 0⟩
theorem ry.len {g:Array MapEntry} {c:Nat} {L:List (K×ξ)} (h:ry enc m g c L):g.size=L.length:=by simpa using congrArg List.length h.eq
theorem ry.nodup {A:Array MapEntry} {c:Nat} {L:List (K×ξ)} (h:ry enc m A c L):(L.map (·.1)).Nodup:=by
 have w:=h.st.2.2;have e:A.toList.map (·.key)=(L.map (·.1)).map enc:=by have:=congrArg (List.map Prod.fst) h.eq;simpa [X3,Function.comp_def] using this
 rw [e] at w;exact (List.pairwise_map.1 w).imp λg e=>g (by rw [e])
theorem ry.entry {g:Array MapEntry} {c:Nat} {L:List (K×ξ)} (h:ry enc m g c L) {e:MapEntry} (C:e∈g.toList):∃k,e.key=enc k/\m k=V e.val:=by
 have A:(e.key,e.val)∈g.toList.map (λe=>(e.key,e.val)):=xv.2 ⟨e,C,rfl⟩;rw [h.eq] at A;obtain ⟨p,B,w⟩:=xv.1 A;injection w with w h3
 exact ⟨p.1,w.symm,by rw [h.lk,<- h3];exact (jz h.nodup).2 B⟩
theorem ry.of {A:Array MapEntry} {c:Nat} {L:List (K×ξ)} (h:ry enc m A c L) {k:K} {v:ξ} (B:m k=V v):∃e∈A.toList,e.key=enc k/\e.val=v:=by
 rw [h.lk,jz h.nodup] at B;have w:(enc k,v)∈L.map λp=>(enc p.1,p.2):=xv.2 ⟨_,B,rfl⟩;rw [<- h.eq] at w;obtain ⟨e,C,g⟩:=xv.1 w;injection g with g h3
 exact ⟨e,C,g,h3⟩
variable {P:Program} {mt:TypeId} {z:ξ}
theorem FS (hm:fY P mt enc z) (W:∀a b,enc a=enc b->a=b) {o:Obj} (X:F r=V o) (ho:yB enc m o) (k:K) (v:ξ) {Q:Unit->Ψ}
  (h:∀o',yB enc (λk'=>if k'=k then V v else m k') o'->Q () (F.set r o')):aG P (Instr.mapUpdate mt (.map (V r)) (enc k) v) F Q:=by
 obtain ⟨kt,e,h1,h2,N⟩:=hm.ex;have B:=ho.mapO.not_cells;obtain ⟨C,c,L,rfl,g⟩:=ho;have G:=g.eq;have hf:=nz k v L 0;have hn:=ny k v L 0;unfold Instr.mapUpdate;simp only [aD,bW h1];refine ⟨_,X,B,?_⟩;rw [show (Sem.pure (Obj.map C c):Sem Obj)=pure (Obj.map C c) from rfl];simp only [aL,aD];refine g0 _ _ _ _ (N.chk F _ k) ?_;refine g0 _ _ _ _ (gx N k _ _ G) ?_;have E:∀k',(if k'=k then V v else m k')=lk k' (WP k v L):=λk'=>by rw [CJ,g.lk]
 cases hfd:Ws k L 0 with
 |none=>
  refine ⟨_,X,B,h _ ⟨_,_,WP k v L,rfl,?_,E,MapKept.stamped_push g.st λx hx=> ?_⟩⟩
  ·rw [(hn hfd).2];simp [G]
  ·obtain ⟨k',e1,e2⟩:=g.entry hx;rw [e1];intro e';have:=W _ _ e';rw [g.lk,jz g.nodup] at e2;exact uq k L 0 hfd _ e2 this
 |some q=>
  obtain ⟨j,w⟩:=q;obtain ⟨d,hj,hd,h5,h6,h7⟩:=hf j w hfd;obtain rfl:j=d:=by omega
  have J:=g.len;have M:∀e∈C.toList,C[j]? =V e->enc k=e.key:=λe _ he=>by
   have:=congrArg (λl=>l[j]?) G;simp only [yw,h5,VD,YI,he] at this;injection this with this
   injection this with this _
   exact this.symm
  have H:(C[j]?.map (·.key)).getD (enc k)=enc k:=by
   have:=congrArg (λl=>l[j]?) G;simp only [yw,h5,VD] at this;have A:j<C.size:=by omega
   simp [A] at this ⊢;exact this.1
  simp only [aD,H,Instr.keyThatStays,N.same,if_true,aL];refine ⟨_,X,B,h _ ⟨_,_,WP k v L,rfl,?_,E,MapKept.stamped_modify g.st j _ (λ_ _=>rfl) (λe O a0=>M e O a0)⟩⟩;rw [h7];apply WH;intro i;have D:=congrArg (λl=>l[i]?) G;simp only [yw] at D;simp only [Array.toList_modify,yw,YJ,Yk];by_cases hi:j=i
  ·subst hi;have A:j<C.toList.length:=by simpa [J] using hd
   rw [N5 A];simp [hd]
  ·simp only [hi,if_false];simpa using D
end
section
variable {F:PH} {r:Nat}
theorem qgY {n:Nat} (w:0<n) {F:PH} {Q:Nat->Ψ} (h:∀i,i<n->Q i F):aG prog (choose (.mapNext n)) F Q:=by
 unfold choose;unfold aG;by_cases g:(Question.mapNext n).forced=nk
 ·rw [Χ g];exact h 0 w
 ·rw [Υ g];intro t;exact h (t % n) (VU _ w)
theorem Bn {w:Array MapEntry} {c b:Nat} {seen:Array Nat} {W:TypeId} (P:F r=V (.map w c)) (E:MapKept.Stamped w c) (N:F b=V (.mapIter (V r) c seen c)) {Q:ξ->Ψ}
  (X:(∀e∈w.toList,seen.contains e.born=nk)->Q (po #[nW mD]) F)
  (O:∀e∈w.toList,seen.contains e.born=mD->Q (po #[nW nk,e.key,e.val]) (F.set b (.mapIter (V r) c (seen.push e.born) c))):
  aG prog (Instr.next (pk (V ⟨b,0,I⟩)) mD W) F Q:=by
 unfold Instr.next;simp only [aD];refine ⟨_,N,λ_ _ _ h=>(by cases h),?_⟩;rw [show (Sem.pure (Obj.mapIter (V r) c seen c):Sem Obj)=pure (Obj.mapIter (V r) c seen c) from rfl];simp only [aL,aD];refine ⟨_,P,λ_ _ _ h=>(by cases h),?_⟩;rw [show (Sem.pure (Obj.map w c):Sem Obj)=pure (Obj.map w c) from rfl];simp only [aL];have G:(w.all λe=>decide (e.born≥c))=mD\/w.isEmpty=nk:=by
  by_cases D:w.isEmpty=nk
  ·exact .inr D
  ·left;rw [Yl];intro M;rw [Array.all_eq_true'] at M;have K:w.toList≠[]:=λe=>D (by rw [Array.isEmpty_iff];exact Array.toList_eq_nil_iff.1 e);obtain ⟨x,L⟩:=List.exists_mem_of_ne_nil _ K;have h2:=E.1 x L;have J:=M x (Array.mem_def.2 L);simp at J;omega
 have H:(!seen.isEmpty && !w.isEmpty && w.all λe=>decide (e.born≥c))=mD:=by rcases G with h|h<;>simp [h]
 rw [H];simp only [VQ,if_false,aD]
 refine qgY (by
  rw [Array.size_append];by_cases B:((w.filter λe=> !seen.contains e.born).filter λx=>decide (x.born<c)).isEmpty=nk
  ·rw [Χ B];exact Nat.lt_of_lt_of_le Nat.zero_lt_one (Nat.le_add_right _ _)
  ·rw [Υ B];have:0<((w.filter λe=> !seen.contains e.born).filter λx=>decide (x.born<c)).size:=by
    rcases Yh ((w.filter λe=> !seen.contains e.born).filter λx=>decide (x.born<c)).size with h|h
    ·exact absurd (by simpa [Array.isEmpty] using h) B
    ·exact h
   rw [Array.size_map,Array.size_append]
   omega) λi hi=> ?_
 rw [Wv hi];have g:=Array.getElem_mem hi;revert g;generalize ((if ((w.filter λe=> !seen.contains e.born).filter λx=>decide (x.born<c)).isEmpty=nk then #[I] else #[])++Array.map V ((w.filter λe=> !seen.contains e.born).filter (λx=>decide (x.born<c))++(w.filter λe=> !seen.contains e.born).filter λx=>decide (x.born≥c)))[i]=y;intro g;rw [Array.mem_append] at g;cases y with
 |none=>
  simp only [aL];refine X λe D=> ?_;have J:=E.1 e D;rcases g with g|g
  ·by_cases B:((w.filter λe=> !seen.contains e.born).filter λx=>decide (x.born<c)).isEmpty=nk
   ·cases hs:seen.contains e.born with
    |true=>rfl
    |false=>
     exfalso;have A:e∈(w.filter λe=> !seen.contains e.born).filter λx=>decide (x.born<c):=by rw [Array.mem_filter,Array.mem_filter];exact ⟨⟨Array.mem_def.2 D,by rw [hs];rfl⟩,by simpa using J⟩
     rw [Array.isEmpty_iff] at B;rw [B] at A;exact absurd A (by simp)
   ·rw [Υ B] at g;exact absurd g (by simp)
  ·rw [Array.mem_map] at g;obtain ⟨_,_,h⟩:=g;cases h
 |some e=>
  have A:e∈w/\seen.contains e.born=mD:=by
   rcases g with g|g
   ·split at g
    ·simp at g
    ·simp at g
   ·rw [Array.mem_map] at g;obtain ⟨e',C,h⟩:=g;injection h with h
    subst h;simp only [Array.mem_append,Array.mem_filter] at C;rcases C with h|h
    ·exact ⟨h.1.1,by simpa using h.1.2⟩
    ·exact ⟨h.1.1,by simpa using h.1.2⟩
  simp only [aD,aL];refine ⟨_,N,λ_ _ _ h=>(by cases h),O e (Array.mem_def.1 A.1) A.2⟩
theorem qhU {w C e:TypeId} (A:prog.underlying w=V (.map C e)) {g:Array MapEntry} {c:Nat} (B:F r=V (.map g c)) {Q:ξ->Ψ} (h:∀b,F b=I->Q (.pointer (V ⟨b,0,I⟩)) (F.set b (.mapIter (V r) c #[] c))):aG prog (Instr.range w (.map (V r))) F Q:=by unfold Instr.range;simp only [aD,bW A];refine ⟨_,B,λ_ _ _ h=>(by cases h),?_⟩;rw [show (Sem.pure (Obj.map g c):Sem Obj)=pure (Obj.map g c) from rfl];simp only [aL,aD,newObj,aG];exact h
theorem rz:∀{l:List MapEntry},(l.map (·.born)).Nodup->∀{a b},a∈l->b∈l->a.born=b.born->a=b
 |[],_,_,_,g,_,_=>by simp at g
 |x::l,h,a,b,g,w,e=>by
  rw [xA,WT] at h;rcases tS.1 g with g|g<;>rcases tS.1 w with w|w
  ·rw [g,w]
  ·exact absurd (xv.2 ⟨b,w,by rw [<- e,g]⟩) h.1
  ·exact absurd (xv.2 ⟨a,g,by rw [e,w]⟩) h.1
  ·exact rz h.2 g w e
theorem FT {F:PH} {g:Array MapEntry} {c r b:Nat} {seen:Array Nat} {e:MapEntry} (G:F r=V (.map g c)) (w:MapKept.Stamped g c) (E:F b=V (.mapIter (V r) c (seen.push e.born) c)) (A:e∈g.toList):
  qX prog (Instr.entry (pk (V ⟨b,0,I⟩))) F (po #[e.key,e.val]):=by
 unfold Instr.entry;simp only [am];refine ⟨_,⟨_,E,λ_ _ _ h=>(by cases h),rfl⟩,?_⟩;simp only [Array.back?_push];simp only [am];refine ⟨_,⟨_,G,λ_ _ _ h=>(by cases h),rfl⟩,?_⟩;simp only [bne_self_eq_false,VQ,if_false];have D:g.find? (λx=>x.born==e.born)=V e:=by
  cases h:g.find? (λx=>x.born==e.born) with
  |none=>rw [Array.find?_eq_none] at h;exact absurd (show (e.born==e.born)=nk by simp) (h e (Array.mem_def.2 A))
  |some y=>have B:=Array.mem_of_find?_eq_some h;have C:=Array.find?_some h;rw [rz w.2.1 (Array.mem_def.1 B) A (by simpa using C)]
 rw [D];rfl
end
section
variable {K:Type} [DecidableEq K] {enc:K->ξ} {m:K->Option ξ} {G F:PH} {As:List (Ψ)} {r b c:Nat} {es:Array MapEntry} {L:List (K×ξ)}
theorem St.newB (h:St G F As) {b:Nat} (w:F b=I) (o:Obj):St G (F.set b o) (pt b o::As):=h.push (H:=PH.set (λ_=>I) b o) (aq _ _ _) (λx g=>by
 by_cases e:x=b
 ·rw [e];exact w
 ·rw [aw _ _ e] at g;exact absurd rfl g) (λx p g=>by
 by_cases e:x=b
 ·rw [e,aq] at g ⊢;exact g
 ·rw [aw _ _ e] at g;cases g) (ae o w)
def itG (enc:K->ξ) (r b:Nat) (es:Array MapEntry) (c:Nat) (ks:List K):Ψ:=λH=>∃done:List MapEntry,done.map (·.key)=ks.map enc/\(∀e∈done,e∈es.toList)/\H b=V (.mapIter (V r) c (done.map (·.born)).toArray c)
theorem St.rangeG {g J e:TypeId} (A:prog.underlying g=V (.map J e)) (h:St G F As) (enc:K->ξ) (E:F r=V (.map es c)) {C:Nat->Ψ} (k:∀b w,St G w (itG enc r b es c []::As)->C b w):
  aG prog (Instr.range g (.map (V r))) F λv F=>∃b,v=pk (V ⟨b,0,I⟩)/\C b F:=by
 have _:=(inferInstance:DecidableEq K);refine qhU A E λb B=>⟨b,rfl,?_⟩;have:=h.newB B (.mapIter (V r) c #[] c);exact k b _ (this.imp 0 rfl λH _ D=>⟨[],rfl,λ_ h=>(by cases h),D⟩)
theorem St.nextG (D:ry enc m es c L) (a4:∀a b,enc a=enc b->a=b) {ks:List K} (h:St G F (itG enc r b es c ks::As)) (hn:ks.Nodup) (hs:∀k∈ks,∃v,m k=V v) (hr:F r=V (.map es c)) {ty:TypeId} {Q:ξ->Ψ}
  (fin:(∀k v,m k=V v->k∈ks)->Q (po #[nW mD]) F)
  (step:∀k v F',m k=V v->k ∉ ks->ks.length<es.size->St G F' (itG enc r b es c (ks++[k])::As)->F' r=V (.map es c)->qX prog (Instr.entry (pk (V ⟨b,0,I⟩))) F' (po #[enc k,v])->Q (po #[nW nk,enc k,v]) F'):
  aG prog (Instr.next (pk (V ⟨b,0,I⟩)) mD ty) F Q:=by
 obtain ⟨H,⟨g,h1,h2,h3⟩,hd,a9,a0⟩:=h.set (i:=0) (A':=itG enc r b es c ks) rfl;clear a0;have hb:=a9 _ _ h3;have N:∀e∈es.toList,e∈g↔∃k∈ks,e.key=enc k:=λe B=>by
  constructor
  ·intro hi;have:e.key∈g.map (·.key):=xv.2 ⟨e,hi,rfl⟩;rw [h1] at this;obtain ⟨k,E,A⟩:=xv.1 this;exact ⟨k,E,A.symm⟩
  ·rintro ⟨k,E,A⟩;have:enc k∈ks.map enc:=xv.2 ⟨k,E,rfl⟩;rw [<- h1] at this;obtain ⟨x,w,O⟩:=xv.1 this;have:x=e:=qt D.st.2.2 (h2 x w) B (by rw [O,A]);rw [<- this];exact w
 have C:∀e∈es.toList,((g.map (·.born)).toArray.contains e.born=nk↔e∈g):=λe B=>by
  rw [Array.contains_iff_mem,Array.mem_def];constructor
  ·intro hi;obtain ⟨a,ha,A⟩:=xv.1 hi;rw [<- rz D.st.2.1 (h2 a ha) B A];exact ha
  ·intro hi;exact xv.2 ⟨e,hi,rfl⟩
 refine Bn hr D.st hb (λa1=>fin λk v E=> ?_) λe B J=> ?_
 ·obtain ⟨e,B,e1,_⟩:=D.of E;obtain ⟨k',a6,O⟩:=(N e B).1 ((C e B).1 (a1 e B));rw [a4 k k' (by rw [<- e1,O])];exact a6
 ·obtain ⟨k,e1,O⟩:=D.entry B;have a3:e ∉ g:=λhi=>by rw [(C e B).2 hi] at J;cases J
  have E:k ∉ ks:=λhi=>a3 ((N e B).2 ⟨k,hi,e1⟩);have a8:r≠b:=λA=>by rw [A,hb] at hr;cases hr
  have P:(F.set b (.mapIter (V r) c ((g.map (·.born)).toArray.push e.born) c)) r=V (.map es c):=by rw [aw _ _ a8];exact hr
  have b0:ks.length<es.size:=by
   have a2:∀x∈ks++[k],x∈L.map (·.1):=λx w=>by
    have:∃v,m x=V v:=by
     rcases vj.1 w with w|w
     ·exact hs x w
     ·rw [vu.1 w];exact ⟨_,O⟩
    obtain ⟨v,hv⟩:=this;rw [D.lk,jz D.nodup] at hv;exact xv.2 ⟨_,hv,rfl⟩
   have a7:(ks++[k]).Nodup:=by rw [VB];exact ⟨hn,by simp,λa ha b' b1 A=>E (by rw [vu.1 b1] at A;rw [<- A];exact ha)⟩
   have:=gg a7 a2;rw [tT,Ub,ub,<- D.len] at this;omega
  have a5:St G (F.set b (.mapIter (V r) c ((g.map (·.born)).toArray.push e.born) c)) (itG enc r b es c (ks++[k])::As):=by
   obtain ⟨H2,⟨d2,g1,g2,g3⟩,gd,W,X⟩:=h.set (i:=0) (A':=itG enc r b es c (ks++[k])) rfl;have ed:d2.map (·.born)=g.map (·.born):=by
    have:=W _ _ g3;rw [hb] at this;injection this with this
    injection this with _ _ this _
    simpa using this.symm
   refine X (H2.set b (.mapIter (V r) c ((g.map (·.born)).toArray.push e.born) c)) _ ⟨d2++[e],by simp [g1,e1],λx w=> ?_,?_⟩ (λx w=> ?_) (λx p w=> ?_) (λx p w hn=> ?_)
   ·rcases vj.1 w with w|w
    ·exact g2 x w
    ·rw [vu.1 w];exact B
   ·rw [aq,yW,ed];simp
   ·by_cases A:x=b
    ·rw [A,g3];exact .inl (by simp)
    ·rw [aw _ _ A] at w;exact .inl w
   ·by_cases A:x=b
    ·rw [A,aq] at w ⊢;exact w
    ·rw [aw _ _ A] at w ⊢;exact W _ _ w
   ·have A:x≠b:=λA=>by rw [A,g3] at hn;cases hn
    rw [aw _ _ A];exact w
  have M:=FT (e:=e) P D.st (aq F b (.mapIter (V r) c ((g.map (·.born)).toArray.push e.born) c)) B;rw [e1] at M ⊢;exact step k e.val _ O E b0 a5 P M
where
 qt:∀{l:List MapEntry},(l.map (·.key)).Nodup->∀{a b:MapEntry},a∈l->b∈l->a.key=b.key->a=b
  |[],_,_,_,ha,_,_=>by simp at ha
  |x::l,h,a,b,ha,hb,e=>by
   rw [xA,WT] at h;rcases tS.1 ha with ha|ha<;>rcases tS.1 hb with hb|hb
   ·rw [ha,hb]
   ·exact absurd (xv.2 ⟨b,hb,by rw [<- e,ha]⟩) h.1
   ·exact absurd (xv.2 ⟨a,ha,by rw [e,hb]⟩) h.1
   ·exact qt h.2 ha hb e
end
section
variable {k:Nat} {l:List Pr} {P:Nat->Tr} {N:Int->Tr}
def nJ (N:Int->Tr) (Pi:Tr) (r:List Sy) (j:Nat):Tr:=if (r.eraseIdx j).any (·.t)=nk then qa6 mD else ft N Pi (r.eraseIdx j)
def rA (N:Int->Tr) (Pi:Tr) (x:Pr):Nat->List Sy->(Int×Int->Tr)->Int×Int->Tr
 |_,[],S=>S
 |j,s::r,S=>rA N Pi x (j+1) r (if s.t=nk then S else dU S (x.left,s.i) (nJ N Pi x.right j))
def tW (N:Int->Tr) (P:Nat->Tr):Nat->List Pr->(Int×Int->Tr)->Int×Int->Tr
 |_,[],S=>S
 |i,x::l,S=>tW N P (i+1) l (rA N (P i) x 0 x.right S)
theorem im (H:Sxs k N) {D:Tr} (J:Sx k D) (r:List Sy) (j:Nat):Sx k (nJ N D r j)/\∀c,(nJ N D r j).ev c=nk↔D.ev c=nk/\∀m y,m≠j->r[m]? =V y->y.t=mD/\(N y.i).ev c=nk:=by
 obtain ⟨E,G⟩:=cL H (r.eraseIdx j) J;unfold nJ;by_cases C:(r.eraseIdx j).any (·.t)=nk
 ·rw [Χ C];refine ⟨Sx.qa6 k mD,λc=>⟨λh=>(by cases h),λh=> ?_⟩⟩;rw [XK] at C;obtain ⟨y,A,w⟩:=C;obtain ⟨m,B,g⟩:=List.mem_eraseIdx_iff_getElem?.1 A;have:=(h.2 m y B g).1;rw [w] at this;cases this
 ·rw [Υ C];refine ⟨E,λc=> ?_⟩;rw [G,Xk,VA];refine and_congr_right λ_=>⟨λh m y B g=> ?_,λh y A=> ?_⟩
  ·have A:y∈r.eraseIdx j:=List.mem_eraseIdx_iff_getElem?.2 ⟨m,B,g⟩;have w:y.t=mD:=by
    cases e:y.t with
    |false=>rfl
    |true=>exact absurd (XK.2 ⟨y,A,e⟩) C
   have:=h y A;rw [w,Bool.false_or] at this;exact ⟨w,this⟩
  ·obtain ⟨m,B,g⟩:=List.mem_eraseIdx_iff_getElem?.1 A;rw [(h m y B g).2,Bool.or_true]
theorem kR (G:Sxs k N) {B:Tr} (H:Sx k B) (x:Pr):∀(r:List Sy) (j:Nat) {S:Int×Int->Tr},Sxs k S->Sxs k (rA N B x j r S)/\
  ∀n c,(rA N B x j r S n).ev c=nk↔(S n).ev c=nk\/∃m s,r[m]? =V s/\s.t=mD/\n=(x.left,s.i)/\(nJ N B x.right (j+m)).ev c=nk
 |[],j,S,hS=>⟨hS,λn c=>⟨.inl,λh=>h.resolve_right λ⟨m,s,h,_⟩=>(by simp at h)⟩⟩
 |s::r,j,S,hS=>by
  have hd:=(im G H x.right j).1;unfold rA;have g:∀(n:Int×Int) (c:Cf),(∃m y,(s::r)[m]? =V y/\y.t=mD/\n=(x.left,y.i)/\(nJ N B x.right (j+m)).ev c=nk)↔(s.t=mD/\n=(x.left,s.i)/\(nJ N B x.right j).ev c=nk)\/∃m y,r[m]? =V y/\y.t=mD/\n=(x.left,y.i)/\(nJ N B x.right (j+1+m)).ev c=nk:=λn c=>by
   constructor
   ·rintro ⟨m,y,A,w,D,C⟩;cases m with
    |zero=>cases A;exact .inl ⟨w,D,C⟩
    |succ m=>exact .inr ⟨m,y,by simpa using A,w,D,by rw [show j+1+m=j+(m+1) by omega];exact C⟩
   ·rintro (⟨w,D,C⟩|⟨m,y,A,w,D,C⟩)
    ·exact ⟨0,s,rfl,w,D,C⟩
    ·exact ⟨m+1,y,by simpa using A,w,D,by rw [show j+(m+1)=j+1+m by omega];exact C⟩
  by_cases E:s.t=nk
  ·rw [Χ E];obtain ⟨A,w⟩:=kR G H x r (j+1) hS;refine ⟨A,λn c=> ?_⟩;rw [w,g];refine or_congr_right ⟨.inr,λh=>h.resolve_left λ⟨h,_⟩=>(by rw [E] at h;cases h)⟩
  ·rw [Υ E];obtain ⟨A,w⟩:=kR G H x r (j+1) (pU hS hd (n:=(x.left,s.i)));refine ⟨A,λn c=> ?_⟩;rw [w,g,mw hS hd,Bool.or_eq_true_iff,Xk,δ,or_assoc];refine or_congr_right (or_congr_left ⟨λh=>⟨Yl.2 E,h⟩,λh=>h.2⟩)
theorem rB (g:Sxs k N) (r:∀i,Sx k (P i)):∀(l:List Pr) (i:Nat) {S:Int×Int->Tr},Sxs k S->Sxs k (tW N P i l S)/\
  ∀n c,(tW N P i l S n).ev c=nk↔(S n).ev c=nk\/∃(m:Nat) (x:Pr) (j:Nat) (s:Sy),l[m]? =V x/\x.right[j]? =V s/\s.t=mD/\n=(x.left,s.i)/\(nJ N (P (i+m)) x.right j).ev c=nk
 |[],i,S,hS=>⟨hS,λn c=>⟨.inl,λh=>h.resolve_right λ⟨m,x,j,s,h,_⟩=>(by simp at h)⟩⟩
 |x::l,i,S,hS=>by
  obtain ⟨A,C⟩:=kR g (r i) x x.right 0 hS;unfold tW;obtain ⟨w,B⟩:=rB g r l (i+1) A;refine ⟨w,λn c=> ?_⟩;rw [B,C,or_assoc];refine or_congr_right ?_;constructor
  ·rintro (⟨j,s,a,b,d,e⟩|⟨m,y,j,s,a,b,d,e,f⟩)
   ·exact ⟨0,x,j,s,rfl,a,b,d,by rw [x9] at e;exact e⟩
   ·exact ⟨m+1,y,j,s,by simpa using a,b,d,e,by rw [show i+(m+1)=i+1+m by omega];exact f⟩
  ·rintro ⟨m,y,j,s,a,b,d,e,f⟩;cases m with
   |zero=>cases a;exact .inl ⟨j,s,b,d,e,by rw [x9];exact f⟩
   |succ m=>exact .inr ⟨m,y,j,s,by simpa using a,b,d,e,by rw [show i+1+m=i+(m+1) by omega];exact f⟩
structure yD (k:Nat) (l:List Pr) (P:Nat->Tr) (S:Int×Int->Tr):Prop where
 sx:Sxs k S
 iff:∀n c,(S n).ev c=nk↔WY l P c n.1 n.2
theorem Ms (r:Jl k l P nk N) (B:∀i,Sx k (P i)):yD k l P (tW N P 0 l λ_=>qa6 mD):=by
 obtain ⟨C,D⟩:=rB r.sx B l 0 (S:=λ_=>qa6 mD) λ_=>Sx.qa6 k mD;refine ⟨C,λn c=>(D n c).trans ?_⟩;constructor
 ·rintro (h|⟨m,x,j,s,a,b,d,e,f⟩)
  ·cases h
  ·rw [x9] at f;obtain ⟨E,f2⟩:=((im r.sx (B m) x.right j).2 c).1 f;rw [e];exact ⟨m,j,x,s,a,b,d,rfl,rfl,E,λq y w A=>(f2 q y w A).imp id (r.iff _ _).1⟩
 ·rintro ⟨i,j,x,s,a,b,d,e,f,g,h⟩;refine .inr ⟨i,x,j,s,a,b,d,Prod.ext e.symm f.symm,?_⟩;rw [x9];exact ((im r.sx (B i) x.right j).2 c).2 ⟨g,λq y w A=>(h q y w A).imp id (r.iff _ _).2⟩
def iS (l:List Pr):List (Int×Int):=l.flatMap λx=>x.right.map λs=>(x.left,s.i)
theorem FU {l:List Pr} (h:∀x∈l,x.right.length<=16):(iS l).length<=l.length*16:=by
 induction l with
 |nil=>exact ru _
 |cons x l ih=>have r:=h x (by simp);have w:=ih λy g=>h y (Vz _ g);unfold iS at*;rw [VC,tT,ub,wg];omega
variable {T:Int×Int->Tr} {fam:Tr} {n:Int}
structure Bfs (k:Nat) (l:List Pr) (P:Nat->Tr) (T:Int×Int->Tr) (fam:Tr) (n:Int) (R:Int->Tr) (q:Φ):Prop where
 sx:Sxs k R
 snd:∀m c,(R m).ev c=nk->Tg (WY l P c) n m
 qa5:∀m c,fam.ev c=nk->(T (n,m)).ev c=nk->(R m).ev c=nk
 clos:∀m,m≠n->m ∉ q->∀m' c,(R m).ev c=nk->(T (m,m')).ev c=nk->(R m').ev c=nk
structure Vis (k:Nat) (keys:Φ) (T:Int×Int->Tr) (a:Int) (d:Tr) (R R':Int->Tr) (ps:Φ):Prop where
 sx:Sxs k R'
 le:Lt' R R'
 snd:∀m c,(R' m).ev c=nk->(R m).ev c=nk\/(d.ev c=nk/\(T (a,m)).ev c=nk)
 cpl:∀m c,d.ev c=nk->(T (a,m)).ev c=nk->(R' m).ev c=nk
 pu:∀m,R' m≠R m->m∈ps
 mu:mu k keys R'+ps.length<=mu k keys R
theorem Bfs.start (B:yD k l P T) {R:Int->Tr} {w keys:Φ} (g:Vis k keys T n fam (λ_=>qa6 mD) R w):Bfs k l P T fam n R w:=by
 refine ⟨g.sx,λm c r=> ?_,g.cpl,λm _ A C c r _=> ?_⟩
 ·rcases g.snd m c r with h|⟨_,h⟩
  ·cases h
  ·exact .one ((B.iff _ _).1 h)
 ·have:R m=qa6 mD:=Classical.not_not.1 λe=>A (g.pu m e);rw [this] at r;cases r
theorem Bfs.visit (K:yD k l P T) {R B:Int->Tr} {m:Int} {q D keys:Φ} (h:Bfs k l P T fam n R (m::q)) (r:Vis k keys T m (R m) R B D):Bfs k l P T fam n B (q++D):=by
 refine ⟨r.sx,λg c w=> ?_,λg c Q A=>r.le _ _ (h.qa5 g c Q A),λa O G g c w A=> ?_⟩
 ·rcases r.snd g c w with M|⟨J,L⟩
  ·exact h.snd g c M
  ·exact .snoc (h.snd m c J) ((K.iff _ _).1 L)
 ·have C:a ∉ q:=λe=>G (vj.2 (.inl e));have e:B a=R a:=Classical.not_not.1 λe=>G (vj.2 (.inr (r.pu a e)));rw [e] at w;by_cases E:a=m
  ·rw [E] at w A;exact r.cpl g c w A
  ·exact r.le _ _ (h.clos a O (λH=>(tS.1 H).elim E C) g c w A)
theorem Bfs.skip {R:Int->Tr} {q:Φ} (h:Bfs k l P T fam n R (n::q)):Bfs k l P T fam n R q:=
 ⟨h.sx,h.snd,h.qa5,λm g r=>h.clos m g λe=>(tS.1 e).elim g r⟩
theorem Bfs.fin (r:yD k l P T) (w:∀a b c,WY l P c a b->fam.ev c=nk) {R:Int->Tr} (h:Bfs k l P T fam n R []) (c:Cf):(R n).ev c=nk↔Tg (WY l P c) n n:=by
 refine ⟨h.snd n c,λt=> ?_⟩;have key:∀{m:Int},Tg (WY l P c) n m->(R m).ev c=nk:=λ{m} t=>by
  induction t with
  |one g=>exact h.qa5 _ c (w _ _ _ g) ((r.iff (n,_) c).2 g)
  | @snoc b d _ g ih=>
   by_cases e:b=n
   ·rw [e] at g;exact h.qa5 _ c (w _ _ _ g) ((r.iff (n,d) c).2 g)
   ·exact h.clos b e (by simp) d c ih ((r.iff (b,d) c).2 g)
 exact key t
end
section
variable {g:Gr} {k:Nat}
theorem OkK.fam_of (h:OkK g k) {i:Nat} {c:Cf} (r:(bI g i).ev c=nk):(vi g.fam).ev c=nk:=by
 cases hx:g.qa0[i]? with
 |none=>
  have:bI g i=qa6 mD:=by unfold bI;rw [hx]
  rw [this] at r;cases r
 |some x=>rw [h.prs_ev hx,Xk,Xk] at r;exact r.1.1
theorem OkK.stp_fam (h:OkK g k) {c:Cf} {a b:Int} (s:WY g.qa0 (bI g) c a b):(vi g.fam).ev c=nk:=by obtain ⟨i,_,_,_,_,_,_,_,_,r,_⟩:=s;exact h.fam_of r
end
def VF (e:TypeId) (s:Sl) (vs:Ξ):Ψ:=λH=>∃b o cur,s.qa5=V ⟨b,o,I⟩/\H b=V (Y cur e (0,0))/\o+s.cap<=cur.size/\s.len<=s.cap/\vs.length=s.len/\(cur.toList.drop o).take s.len=vs
section
variable {G F H:PH} {As:List (Ψ)} {e:TypeId} {s:Sl} {vs:Ξ}
theorem RY (h:VF e s vs H):RdS H s 1 vs:=by obtain ⟨b,o,A,g,r,D,B,C,w⟩:=h;refine ⟨by omega,B,λ_=>⟨b,o,g,λi hi=> ?_⟩⟩;rw [av r];have:=congrArg (λl=>l[i]?) w;simp only [YF (show i<s.len by omega),List.getElem?_drop,YI] at this;rw [this,N5 hi]
theorem Mt {v:ξ} (h:VF e s (v::vs) H):VF e (Sl.cut s 1 1 s.len s.cap) vs H:=by
 obtain ⟨b,o,g,w,A,J,E,D,C⟩:=h;rw [wg] at D;by_cases B:s.cap=1
 ·have r:vs=[]:=Wm (by omega);refine ⟨b,o,g,by unfold Sl.cut;rw [if_pos B];exact w,A,by unfold Sl.cut;dsimp only;omega,by unfold Sl.cut;dsimp only;omega,by unfold Sl.cut;dsimp only;omega,?_⟩;unfold Sl.cut;dsimp only;rw [r,show s.len - 1=0 by omega,z6]
 ·refine ⟨b,o+1,g,?_,A,by unfold Sl.cut;dsimp only;omega,by unfold Sl.cut;dsimp only;omega,by unfold Sl.cut;dsimp only;omega,?_⟩
  ·unfold Sl.cut;rw [Υ B,w];rfl
  ·unfold Sl.cut;dsimp only;have:=congrArg (λl=>l.drop 1) C;simp only [List.drop_take,XL,Xy,Vu] at this;exact this
theorem FV {b:Nat} (h:H b=V (Y #[] e)):VF e (t7 (V (oB b 0 I)) 0 0) [] H:=⟨b,0,#[],rfl,h,by simp,ru _,rfl,by simp⟩
theorem St.queAt (h:St G F As) {i:Nat} (hi:As[i]? =V (VF e s vs)):RdS F s 1 vs:=by obtain ⟨H,g,_,r⟩:=h.get hi;exact (RY g).le r
theorem St.quePush {t bytes:Nat} {z:ξ} (T:SlT t e 1 bytes z) {x:Sl} {v:ξ} {ty:TypeId} (h:St G F As) (i:Nat) (hi:As[i]? =V (VF e s vs)) (B:RdS F x 1 [v]) (a5:ak v) (a7:s.len<=400000000000) {K:Sl->Ψ}
  (k:∀A F',St G F' (As.set i (VF e A (vs++[v])))->A.len=s.len+1->K A F'):aG prog (Builtin.append_ #[t,t] ty #[s.v,x.v]) F λr F=>∃A:Sl,r=nI A/\K A F:=by
 have C:x.len=1:=by have:=B.len;rw [Ub] at this;omega
 have hq:=h.queAt hi;have a9:=hq.len;have put:∀{A:Sl} {b:Nat} {X:Obj},VF e A (vs++[v]) (F.set b X)->A.len=s.len+1->(∀a,A.qa5=V a->a.block=b)->((∃a,s.qa5=V a/\a.block=b)\/F b=I)->K A (F.set b X):=λ{A b X} a0 a6 L O=>by
  obtain ⟨H,a1,a2,a3,a4⟩:=h.set (A':=VF e A (vs++[v])) hi;have N:H b≠I\/F b=I:=by
   rcases O with ⟨a,J,rfl⟩|O
   ·obtain ⟨b0,o0,c0,M,Q,_⟩:=a1;rw [M] at J;cases J;exact .inl (by rw [Q];simp)
   ·exact .inr O
  refine k A _ (a4 (PH.set (λ_=>I) b X) _ ?_ (λx B=> ?_) (λx p B=> ?_) (λx p B hn=> ?_)) a6
  ·obtain ⟨b1,o1,c1,M,Q,e3⟩:=a0;have:b1=b:=L _ M;subst this;rw [aq] at Q;exact ⟨b1,o1,c1,M,by rw [aq];exact Q,e3⟩
  ·by_cases D:x=b
   ·rw [D];exact N
   ·rw [aw _ _ D] at B;exact absurd rfl B
  ·by_cases D:x=b
   ·rw [D,aq] at B ⊢;exact B
   ·rw [aw _ _ D] at B;cases B
  ·have D:x≠b:=λD=>by
    subst D;rcases N with h|h
    ·exact h hn
    ·rw [h] at B;cases B
   rw [aw _ _ D];exact B
 refine gu T.ht T.hsz T.hz T.hzs hq B (λw W=>by rw [vu.1 W];exact a5) (D8 T.hb (by omega)) (by omega) (λh0 _=>by omega) (λ_ E=> ?_) (λhgt cap b hc O=> ?_)
 ·obtain ⟨H,a1,_,a3⟩:=h.get hi;obtain ⟨b,o,g,P,h2,h3,h4,h5,h6⟩:=a1;have a8:g.toList.length=g.size:=zQ;refine ⟨b,o,g,e,P,a3 _ _ h2,by omega,_,rfl,put ⟨b,o,_,P,aq _ _ _,by rw [dJ];exact h3,E,by rw [tT,Ub,h5,C],?_⟩ (by rw [C]) (λa J=>by rw [P] at J;cases J;rfl) (.inl ⟨_,P,rfl⟩)⟩;have W:=jW [v] g.toList (o+s.len*1) (by rw [Ub];omega);rw [show g.toList.toArray=g by simp] at W;rw [W];dsimp only;rw [C,xF];have M:(List.take (o+s.len) g.toList).drop o=vs:=by rw [<- h6,List.drop_take,Yi]
  rw [xZ,List.drop_append_of_le_length (by rw [z9];omega),M];rw [<- xZ,Xi (by rw [tT,Ub];omega),zh (by rw [tT,Ub];omega)]
 ·refine ⟨_,rfl,put ⟨b,0,_,rfl,aq _ _ _,?_,hc,by rw [tT,Ub];show vs.length+1=s.len+x.len;omega,?_⟩ (by rw [C]) (λa J=>by cases J;rfl) (.inr O)⟩
  ·simp [Builtin.zeroCells,T.hzs];omega
  ·simp only [Yf,Zj,Vu,C];rw [Xi (by rw [tT,Ub];omega),zh (by rw [tT,Ub];omega)]
end
theorem RZ:∃b z,SlT 76 3 1 b z:=⟨_,_,underlying76,X6,X8,rfl,by decide,by decide⟩
theorem qgf:bv prog 76=V (nI pm):=by kernel_rfl
theorem R0:fY prog 215 be (nI pm):=⟨_,_,underlying215,qgf,M0⟩
section
variable {G F:PH} {As:List (Ψ)} {k b14 b18 b4 b19 mn mr mt:Nat} {nx:Int->Φ} {T:Int×Int->Tr}
structure CyE (G:PH) (b14 mn b4 mt:Nat) (nx:Int->Φ) (T:Int×Int->Tr):Prop where
 q14:G b14=V (Y #[.map (V mn)] 215)
 q4:G b4=V (Y #[.map (V mt)] 211)
 nx:∃o mp,G mn=V o/\dW be mp o/\∀a,(mp a=I/\nx a=[])\/∃s,mp a=V (nI s)/\RL G s (nx a)
 st:∃o mp,G mt=V o/\dW gD mp o/\i8 G T mp
theorem CyE.le {r:PH} (h:CyE G b14 mn b4 mt nx T) (l:G.le r):CyE r b14 mn b4 mt nx T:=by obtain ⟨w,B,⟨o,mp,K,H,E⟩,⟨A,g,C,D,J⟩⟩:=h;refine ⟨l _ _ w,l _ _ B,⟨o,mp,l _ _ K,H,λa=>(E a).imp id λ⟨s,a,b⟩=>⟨s,a,b.le l⟩⟩,⟨A,g,l _ _ C,D,J.le l⟩⟩
theorem CyE.look (h:CyE G b14 mn b4 mt nx T) (l:G.le F) (a:Int):∃s,qX prog (Instr.lookup 215 (.map (V mn)) (U a) mD) F (nI s)/\RL G s (nx a):=by
 obtain ⟨o,mp,C,B,A⟩:=h.nx;have g:=bL (F:=F) R0 (l _ _ C) B a mD;rcases A a with ⟨r,w⟩|⟨s,r,w⟩
 ·rw [r] at g;exact ⟨pm,g,by rw [w];exact RL.nil G⟩
 ·rw [r] at g;exact ⟨s,g,w⟩
theorem CyE.step (h:CyE G b14 mn b4 mt nx T) (l:G.le F) (n:Int×Int):∃w,qX prog (Instr.lookup 211 (.map (V mt)) (nQ (B1 n)) mD) F (nQ w)/\(DV G w (pj (T n))):=by
 obtain ⟨o,mp,D,C,B⟩:=h.st;have g:=bL (F:=F) RV (l _ _ D) C n mD;rcases B n with ⟨r,A⟩|⟨w,r,A⟩
 ·rw [r] at g;exact ⟨zD,g,by rw [A];exact DV.mk (s:=pm) (d:=pj (qa6 mD)) (RL.nil G)⟩
 ·rw [r] at g;exact ⟨w,g,A⟩
structure Iw (k:Nat) (keys:Φ) (T:Int×Int->Tr) (a:Int) (d:Tr) (l:Φ) (R R':Int->Tr) (ps:Φ):Prop where
 sx:Sxs k R'
 le:Lt' R R'
 snd:∀m c,(R' m).ev c=nk->(R m).ev c=nk\/(d.ev c=nk/\(T (a,m)).ev c=nk)
 cpl:∀m∈l,∀c,d.ev c=nk->(T (a,m)).ev c=nk->(R' m).ev c=nk
 pu:∀m,R' m≠R m->m∈ps
 mu:mu k keys R'+ps.length<=mu k keys R
theorem Iw.add {keys:Φ} {a:Int} {d:Tr} {l:Φ} {R g:Int->Tr} {C:Φ} (h:Iw k keys T a d l R g C) (H:Sxs k T) (hd:Sx k d) {m:Int} (K:m∈keys):
  (dU g m (ap2 bV d (T (a,m)))≠g->Iw k keys T a d (l++[m]) R (dU g m (ap2 bV d (T (a,m)))) (C++[m]))/\(dU g m (ap2 bV d (T (a,m)))=g->Iw k keys T a d (l++[m]) R g C):=by
 have A:Sx k (ap2 bV d (T (a,m))):=hd.ap2 (o:=bV) (H _);have L:∀c,(ap2 bV d (T (a,m))).ev c=(d.ev c && (T (a,m)).ev c):=(cE hd.1 (H _).1).2;have key:∀i c,(dU g m (ap2 bV d (T (a,m))) i).ev c=nk↔(g i).ev c=nk\/(i=m/\d.ev c=nk/\(T (a,m)).ev c=nk):=λi c=>by rw [mw h.sx A,L,Bool.or_eq_true_iff,Xk,Xk,δ]
 have cp:∀i∈l++[m],∀c,d.ev c=nk->(T (a,i)).ev c=nk->(dU g m (ap2 bV d (T (a,m))) i).ev c=nk:=λi hi c r B=>by
  rcases vj.1 hi with hi|hi
  ·exact (key i c).2 (.inl (h.cpl i hi c r B))
  ·have:=vu.1 hi;subst this;exact (key i c).2 (.inr ⟨rfl,r,B⟩)
 have w:=pU h.sx A (n:=m);constructor
 ·intro E;refine ⟨w,h.le.trans (wM h.sx A),λi c D=> ?_,cp,λi hi=> ?_,?_⟩
  ·rcases (key i c).1 D with D|⟨rfl,r,B⟩
   ·exact h.snd i c D
   ·exact .inr ⟨r,B⟩
  ·by_cases e:i=m
   ·rw [e];simp
   ·have:dU g m (ap2 bV d (T (a,m))) i=g i:=by unfold dU kj;rw [Υ e]
    rw [this] at hi;exact vj.2 (.inl (h.pu i hi))
  ·have r:=(Jk h.sx w (wM h.sx A) keys).2 m K λe=>E (by
    funext i;by_cases J:i=m
    ·rw [J];exact e.symm
    ·unfold dU kj;rw [Υ J])
   have:=h.mu;rw [tT,Ub];omega
 ·intro M;rw [M] at cp;exact ⟨h.sx,h.le,h.snd,cp,h.pu,h.mu⟩
theorem oF {n:Int} {d:Tr} {w:Γ} {R:Int->Tr} {qs:Sl} {q keys:Φ} (hk:k<=6) (E:CyE G b14 mn b4 mt nx T) (b0:G b18=V (Y #[.map (V mr)] 170)) (hT:Sxs k T) (hd:Sx k d) (hw:DV G w (pj d)) (hR:Sxs k R)
  (hn:∀m,T (n,m)≠qa6 mD->m∈nx n) (c5:∀m∈nx n,m∈keys) (hl:(nx n).length<=1000000) (hq:q.length<=100000000)
  (h:St G F (mS be G mr R::pt b19 (Y #[nI qs] 76)::VF 3 qs (q.map U)::As)):
  ν 115 #[U n,nQ w,pk (V ⟨b14,0,I⟩),pk (V ⟨b18,0,I⟩),pk (V ⟨b4,0,I⟩),pk (V ⟨b19,0,I⟩)] F λr L=>∃g R' J K,r=po #[]/\G.le g/\Vis k keys T n d R R' J/\
   St g L (mS be g mr R'::pt b19 (Y #[nI K] 76)::VF 3 K ((q++J).map U)::As):=by
 obtain ⟨_,_,TI⟩:=RZ;refine qcM ?_;unfold OB;refine h.newG λb7 G1 F1 l1 q7 _ h=> ?_;have E1:=E.le l1;obtain ⟨sn,c3,a9⟩:=E1.look h.le n;refine ⟨_,rfl,_,ld (h.le _ _ E1.q14) rfl,sn,c3,?_⟩;have e0:=a9.len
 refine bD (vX · n _ _ _ b7 sn _) (nx n).length (λi L=>∃(g:PH) (R':Int->Tr) (J:Φ) (K:Sl),G1.le g/\J.length<=i/\Iw k keys T n d ((nx n).take i) R R' J/\∃Bs,
  St g L ((mS be g mr R'::pt b19 (Y #[nI K] 76)::VF 3 K ((q++J).map U)::As)++Bs)) ⟨G1,R,[],qs,au _,ru _,⟨hR,Lt'.refl R,λm c h=> .inl h,λm hm=>(by simp at hm),λm h=>absurd rfl h,ru _⟩,[],
   by rw [yt,yt];exact h.imp 0 rfl λ_ _ hH=>hH.le l1⟩ ?_
 rintro i F2 N hi ⟨G2,X,J,H,l2,d4,hv,Bs,h⟩ next;replace h:St G2 F2 (mS be G2 mr X::pt b19 (Y #[nI H] 76)::VF 3 H ((q++J).map U)::As):=h.pick id (λ_ _ _ _ e=>e) λi hi=>by rw [id,zM hi]
 unfold vX;refine ⟨λa0=> ?_,λd1=> ?_⟩
 ·have a0:i<(nx n).length:=by omega
  refine t8 (a9.le l2) (by decide) (by omega) (by omega) λe1 c2 m hm b1 hc=> ?_;rw [N4] at hm;obtain rfl:c2= #[U m]:=hc;have b8:=vO hm;refine ⟨m,aE (aN h.le b1) rfl,_,rfl,_,ld (h.le _ _ (l2 _ _ (l1 _ _ b0))) rfl,?_⟩;refine (lT h (au _) m).mono ?_;rintro _ F3 ⟨G3,u,rfl,hu,l3,h⟩;refine ⟨u,rfl,?_⟩;refine h.var hu.st (λb2 G4 F4 l4 a6 h=> ?_) rfl hu.size;have a8:=aa l2 (aa l3 l4);have E4:=E1.le a8;have b3:=hu.le l4;obtain ⟨v,c8,d0⟩:=E4.step h.le (n,m);refine ⟨u,hu.size,ai (h.le _ _ a6),w,hw.size,ai (h.le _ _ (a8 _ _ q7)),_,rfl,_,ld (h.le _ _ E4.q4) rfl,v,c8,?_⟩;have hx:Sx k (ap2 bV d (T (n,m))):=hd.ap2 (o:=bV) (hT _);have hA:∀{g:PH},G4.le g->ν 109 #[nQ w,nQ v] g λr a1=>(∃y,r=po #[nQ y,U 0]/\DV a1 y (pj (ap2 bV d (T (n,m)))))/\g.le a1:=
   λl=>(pK hk hd (hT _) (hw.le (aa l1 (aa a8 l))) (d0.le l)).mono λr L ⟨x,a,b,c⟩=>⟨⟨x,a,b⟩,c⟩
  have hO:∀{g:PH} {y:Γ},G4.le g->DV g y (pj (ap2 bV d (T (n,m))))->ν 113 #[nQ u,nQ y] g λr a1=>(∃y,r=po #[nQ y,U 0]/\DV a1 y (pj (ap2 z8 (X m) (ap2 bV d (T (n,m))))))/\g.le a1:=
   λl M=>(Bl hk (hv.sx m) hx (b3.le l) M).mono λr L ⟨x,a,b,c⟩=>⟨⟨x,a,b⟩,c⟩
  obtain ⟨b9,b6⟩:=hv.add hT hd (c5 m b8);have et:=bg hm;have fin:∀{g L:PH} {y w0:Γ} {C:Nat},w0.size=2->G4.le g->DV g y (pj (ap2 z8 (X m) (ap2 bV d (T (n,m)))))->St g L (pt C (Y w0 33)::mS be G2 mr X::pt b19 (Y #[nI H] 76)::VF 3 H ((q++J).map U)::As)->
    aA L (oB C 0 I) 2 y λF=>ij N n (oB b18 0 I) (V (oB b4 0 I)) (V (oB b19 0 I)) b7 m b2 sn (i:Int) (V (oB C 0 I)) (λr L=>∃g R' J K,r=po #[]/\G.le g/\Vis k keys T n d R R' J/\
     St g L (mS be g mr R'::pt b19 (Y #[nI K] 76)::VF 3 K ((q++J).map U)::As)) F:=λ{g L y w0 C} c7 l M h=>by
   refine h.put0 M.size c7 M.st λF5 h=> ?_;unfold ij;refine ⟨u,hu.size,ai (h.le _ _ (l _ _ a6)),_,rfl,y,M.size,ai (h.ptAt (i:=0) rfl),?_⟩;refine h.runv (od (b3.le l) M (Ez ((hv.sx m).small hk))) λG6 F6 A h=>⟨_,rfl,?_⟩;have kk:=(hv.sx m).ap2 (o:=z8) hx;have a4:=aa (aa l3 l4) (aa l A);refine ⟨λa5=> ?_,λhe=> ?_⟩
   ·have a5:ap2 z8 (X m) (ap2 bV d (T (n,m)))≠X m:=λe=>by rw [e,ε rfl] at a5;cases a5
    refine ⟨_,ld (h.le _ _ (aa l2 a4 _ _ (l1 _ _ b0))) rfl,y,M.size,ai (h.ptAt (i:=0) rfl),?_⟩;obtain ⟨o,mp,m1,m2,m3⟩:=h.mS_at (i:=1) rfl;refine bj It m1 m2 m (nQ y) λo' c9=> ?_;have h:=h.mS_set 1 rfl (G1:=G6) (S':=dU X m (ap2 bV d (T (n,m)))) c9 ((m3.le a4).put (M.le A));refine ⟨_,rfl,H,ld (h.ptAt (i:=2) rfl) rfl,?_⟩;have c6:H.len=(q++J).length:=by have:=(h.queAt (i:=3) rfl).len;rw [ub,xF] at this;exact this.symm
    rw [tT] at c6;refine h.newG λd2 G7 F7 O b5 _ h=> ?_;refine h.quePush TI 3 rfl (RdS.new (h.le _ _ b5) rfl rfl (ru _)) (by simp [ak]) (by omega) λs' F8 h d3=> ?_;refine h.set2 (w':= #[nI s']) (vr rfl) rfl λF9 h=> ?_;unfold pH;rw [aC a0];refine next _ a0 ⟨G7,_,J++[m],s',aa l2 (aa a4 O),by rw [tT,Ub];omega,by rw [et];exact b9 λe=>a5 (pL.1 e),[pt C (Y y 33)],?_⟩;rw [<- xZ,yW (l₁:=q++J)];exact (h.imp 1 rfl λ_ _ hH=>mS.le hH O).rot
   ·have e:ap2 z8 (X m) (ap2 bV d (T (n,m)))=X m:=by
     have:decide (pj (X m)=pj (ap2 z8 (X m) (ap2 bV d (T (n,m)))))=nk:=by simpa using he
     exact (xS (hv.sx m).1 kk.1 (ζ this)).symm
    unfold pH;rw [aC a0];refine next _ a0 ⟨G6,X,J,H,aa l2 a4,by omega,by rw [et];exact b6 (pL.2 e),[pt C (Y y 33)],?_⟩;exact (h.imp 1 rfl λ_ _ hH=>mS.le hH a4).rot
  have Q:∀{g L:PH} {As:List (Ψ)},G4.le g->St g L As->L.cell (oB b4 0 I)=V (.map (V mt)):=λl h=>ld (h.le _ _ (E4.le l).q4) rfl;have a3:∀{g L:PH} {As:List (Ψ)},G4.le g->St g L As->L.row (oB b2 0 I) u:=λl h=>ai (h.le _ _ (l _ _ a6));refine ⟨?_,?_⟩
  ·refine h.run (hA (au _)) λ_ G5 F5 a7 B h=> ?_;obtain ⟨y,rfl,M⟩:=a7;refine ⟨_,_,rfl,Q B h,a3 B h,?_,?_⟩
   ·refine h.runv (ci M) λG6 F6 A h=>⟨_,rfl,Q (aa B A) h,a3 (aa B A) h,?_,?_⟩
    ·refine h.run (hO (aa B A) (M.le A)) λ_ G7 F7 P O h=> ?_;obtain ⟨z,rfl,W⟩:=P;have a2:=aa (aa B A) O;refine ⟨_,_,rfl,Q a2 h,?_,?_⟩
     ·refine h.runv (ci W) λG8 F8 D h=>⟨_,rfl,Q (aa a2 D) h,?_⟩;exact h.new λC F9 h=>fin rfl (aa a2 D) (W.le D) h
     ·refine h.new λC F8 h=> ?_;exact h.runv (ci W) λG8 F8 D h=>⟨_,rfl,Q (aa a2 D) h,fin rfl (aa a2 D) (W.le D) h⟩
    ·refine h.new λC F7 h=> ?_;refine h.run (hO (aa B A) (M.le A)) λ_ G7 F7 P O h=> ?_;obtain ⟨z,rfl,W⟩:=P;refine ⟨_,_,rfl,Q (aa (aa B A) O) h,?_⟩;exact h.runv (ci W) λG8 F8 D h=>⟨_,rfl,Q (aa (aa B A) (aa O D)) h,fin rfl (aa (aa B A) (aa O D)) (W.le D) h⟩
   ·refine h.new λC F6 h=> ?_;refine h.runv (ci M) λG6 F6 A h=>⟨_,rfl,Q (aa B A) h,a3 (aa B A) h,?_⟩;refine h.run (hO (aa B A) (M.le A)) λ_ G7 F7 P O h=> ?_;obtain ⟨z,rfl,W⟩:=P;refine ⟨_,_,rfl,Q (aa (aa B A) O) h,?_⟩;exact h.runv (ci W) λG8 F8 D h=>⟨_,rfl,Q (aa (aa B A) (aa O D)) h,fin rfl (aa (aa B A) (aa O D)) (W.le D) h⟩
  ·refine h.new λC F5 h=> ?_;refine h.run (hA (au _)) λ_ G5 F5 a7 B h=> ?_;obtain ⟨y,rfl,M⟩:=a7;refine ⟨_,_,rfl,Q B h,a3 B h,?_⟩;refine h.runv (ci M) λG6 F6 A h=>⟨_,rfl,Q (aa B A) h,a3 (aa B A) h,?_⟩;refine h.run (hO (aa B A) (M.le A)) λ_ G7 F7 P O h=> ?_;obtain ⟨z,rfl,W⟩:=P;refine ⟨_,_,rfl,Q (aa (aa B A) O) h,?_⟩;exact h.runv (ci W) λG8 F8 D h=>⟨_,rfl,Q (aa (aa B A) (aa O D)) h,fin rfl (aa (aa B A) (aa O D)) (W.le D) h⟩
 ·have e:i=(nx n).length:=by omega
  subst e;rw [wB] at hv;exact ⟨G2,X,J,H,rfl,aa l1 l2,⟨hv.sx,hv.le,hv.snd,λm c h1 h2=>hv.cpl m (hn m λe=>by rw [e] at h2;cases h2) c h1 h2,hv.pu,hv.mu⟩,h⟩
end
theorem RL.cut {α:Type} [Mem α] {G:PH} {s:Sl} {l:List α} {n k:Nat} (h:RL G s l) (w:Mem.n α=n) (A:k<=s.len):RL G (Sl.cut s n 0 k s.cap) (l.take k):=by subst w;obtain ⟨vs,g,hd⟩:=h;refine ⟨vs.take k,g.take k,?_⟩;have:=hd.cut (l:=0) (r:=k) (m:=s.cap) (by omega) A (by have:=hd.cap;omega);rw [Wp,Vu,VV,g.cat_take] at this;exact this
section
variable {F G F1:PH} {b8 b9:Nat} {g:Gr} {c m t s p l f:Sl} {part:Nat} {d:wa} {kc kt kn kp:Nat} {tk:Tk} {pr:Pr}
structure KK (F G:PH) (g:Gr) (c m t s p l f:Sl) (b8:Nat):Prop where
 lF:F.le G
 hT:Tab G
 gs:GS G g c m t s p l f
 q8:G b8=V (Y (g.arr c m t s p l f) 39)
 mg:MG g
 bd:Bd g 18 10
theorem KK.le {w:PH} (h:KK F G g c m t s p l f b8) (r:G.le w):KK F w g c m t s p l f b8:=⟨aa h.lF r,h.hT.le r,h.gs.le r,r _ _ h.q8,h.mg,h.bd⟩
end
theorem RL.cutD {α:Type} [Mem α] {G:PH} {s:Sl} {l:List α} {n k:Nat} (h:RL G s l) (w:Mem.n α=n) (B:0<n) (A:k<=s.len):RL G (Sl.cut s n k s.len s.cap) (l.drop k):=by subst w;have C:=h.len B;obtain ⟨vs,g,hd⟩:=h;refine ⟨vs.drop k,g.drop k,?_⟩;have:=hd.cut (l:=k) (r:=s.len) (m:=s.cap) A (ru _) hd.cap;rw [g.cat_drop,zh (by rw [(g.drop k).cat_len,W8,C];exact ru _)] at this;exact this
theorem U6:∃b z,SlT 61 130 2 b z:=⟨_,_,underlying61,QZ,Q1,rfl,by decide,by decide⟩
theorem yF:∀a b:Int×Int,gD a=gD b->a=b:=λa b h=>by
 injection h with h
 have h:=congrArg Array.toList h;simp at h;exact Prod.ext h.1 h.2
theorem yG:∀a b:Int,be a=be b->a=b:=λa b h=>by have h:(U a)=U b:=h;injection h
section
variable {κ:Type} [DecidableEq κ] {enc:κ->ξ} {G G0 G1 F:PH} {As:List (Ψ)} {m:Nat} {S S':κ->Tr} {K:List κ} {A:Ψ}
theorem St.mA_at (h:St G F As) {i:Nat} (hi:As[i]? =V A) (w:∀H,A H->mS enc G0 m S H):∃o mp,F m=V o/\dW enc mp o/\i8 G0 S mp:=by obtain ⟨H,B,_,C⟩:=h.get hi;obtain ⟨o,mp,g,r,D⟩:=w H B;exact ⟨o,mp,C _ _ g,r,D⟩
def mG (enc:κ->ξ) (K:List κ) (G:PH) (m:Nat) (S:κ->Tr):Ψ:=λH=>∃o mp,H m=V o/\yB enc mp o/\i8 G S mp/\∀n,mp n≠I->n∈K
theorem mG.mS {H:PH} (h:mG enc K G m S H):mS enc G m S H:=by obtain ⟨o,mp,g,w,r,_⟩:=h;exact ⟨o,mp,g,w.mapO,r⟩
theorem mG.le {H:PH} (h:mG enc K G0 m S H) (l:G0.le G1):mG enc K G1 m S H:=by obtain ⟨o,mp,g,B,w,r⟩:=h;exact ⟨o,mp,g,B,w.le l,r⟩
theorem St.mG_new (enc:κ->ξ) (K:List κ) (h:St G F (pt m (.map #[] 0)::As)):St G F (mG enc K G m (λ_=>qa6 mD)::As):=
 h.imp (A':=mG enc K G m (λ_=>qa6 mD)) 0 rfl λ_ _ g=>⟨_,_,g,yB.empty enc,i8.empty G,λ_ h=>absurd rfl h⟩
theorem St.mG_put {L:TypeId} {z:ξ} (O:fY prog L enc z) (D:∀a b,enc a=enc b->a=b) (h:St G F As) (i:Nat) (hi:As[i]? =V (mG enc K G0 m S)) (l0:G0.le G) {n:κ} (r:n∈K) {w:Γ} {t:Tr} (P:DV G w (pj t)) {C:Ψ}
  (k:∀N,St G N (As.set i (mG enc K G m (kj S n t)))->C N):aG prog (Instr.mapUpdate L (.map (V m)) (enc n) (nQ w)) F λ_ F=>C F:=by
 obtain ⟨H,⟨o,mp,E,a2,W,X⟩,b2,M,Q⟩:=h.set (A':=mG enc K G m (kj S n t)) hi;refine FS O D (M _ _ E) a2 n (nQ w) λJ B=>k _ ?_;refine Q (H.set m J) _ ⟨J,_,aq _ _ _,B,(W.le l0).put P,λx g=> ?_⟩ (λx g=> ?_) (λx p g=> ?_) (λx p g r=> ?_)
 ·by_cases e:x=n
  ·rw [e];exact r
  ·rw [Υ e] at g;exact X x g
 ·by_cases e:x=m
  ·rw [e,E];exact .inl (by simp)
  ·rw [aw _ _ e] at g;exact .inl g
 ·by_cases e:x=m
  ·rw [e,aq] at g ⊢;exact g
  ·rw [aw _ _ e] at g ⊢;exact M _ _ g
 ·have e:x≠m:=λe=>by rw [e,E] at r;cases r
  rw [aw _ _ e];exact g
end
section
variable {G G0 F:PH} {As:List (Ψ)} {m:Nat} {k:Nat} {A:Ψ}
theorem FW {S:Int×Int->Tr} (X:∀H,A H->mS gD G0 m S H) (h:St G F (A::As)) (M:G0.le G) (n:Int×Int):
  ν 114 #[.map (V m),nQ (B1 n)] F λr O=>∃C w,r=nQ w/\DV C w (pj (S n))/\G.le C/\St C O (A::As):=by
 refine qcL ?_;unfold OA;refine h.new λb3 Fa h=> ?_;refine h.new λb4 L h=> ?_;refine ⟨_,rfl,ai (h.ptAt (i:=1) rfl),?_⟩;obtain ⟨o,mp,K,N,W⟩:=h.mA_at (i:=2) rfl X;have B:=bL (F:=L) RV K N n nk;rcases W n with ⟨J,E⟩|⟨w,J,E⟩
 ·rw [J] at B;refine ⟨_,_,B,?_⟩;refine h.new λP F2 h=> ?_;refine h.put0 (w':=zD) rfl rfl (by simp [ak]) λQ h=>⟨λD=>(by cases D),λ_=> ?_⟩;refine (h.call (gE mD)).mono ?_;rintro _ F4 ⟨C,⟨w,rfl,g,l1⟩,h⟩;refine ⟨w,rfl,?_⟩;refine h.put1 (w':=w) g.size rfl g.st λF5 h=>⟨w,g.size,ai (h.ptAt (i:=1) rfl),?_⟩;exact ⟨C,w,rfl,by rw [E];exact g,l1,h.tail.tail.tail⟩
 ·rw [J] at B;refine ⟨_,_,B,?_⟩;have g:=E.le M;refine h.new λP F2 h=> ?_;refine h.put0 (w':=w) g.size rfl g.st λQ h=>⟨λ_=>⟨w,g.size,ai (h.ptAt (i:=0) rfl),?_⟩,λD=>(by cases D)⟩;refine h.put1 (w':=w) g.size rfl g.st λF5 h=>⟨w,g.size,ai (h.ptAt (i:=1) rfl),?_⟩;exact ⟨G,w,rfl,g,au _,h.tail.tail.tail⟩
end
section
variable {G F Gn:PH} {g:Gr} {k ms mn ban b4:Nat} {N:Int->Tr} {R:VR}
theorem U7 {q p:Sl} (hk:OkK g k) (hN:Sxs k N) (lN:Gn.le G) (hl:∀x∈g.qa0,x.right.length<=1000000) (hp:g.qa0.length<=1000000) (e2:RL G p g.qa0) (qa:∃c n t s p l f,G ban=V (Y (Y3 g c n t s p l f q) 207)) (hq:RL G q (tU g g.qa0.length))
  (q4:G b4=V (Y #[.map (V ms)] 211)) (h:St G F [mG gD (iS g.qa0) G ms (λ_=>qa6 mD),mS be Gn mn N])
  (fin:∀A K,G.le A->St A K [mG gD (iS g.qa0) A ms (tW N (bI g) 0 g.qa0 λ_=>qa6 mD)]->vT (V (oB ban 0 I)) b4 R K):
  Lp (0:Int) F λN v F=>vV N (oB ban 0 I) (V mn) b4 p R v F:=by
 obtain ⟨_,_,T⟩:=U6;obtain ⟨c',n',t',s',p',l',f',qa⟩:=qa;have ep:=e2.len;have eq:=hq.len;rw [rq] at eq
 refine bD (vV · (oB ban 0 I) (V mn) b4 p R) g.qa0.length (λi K=>∃(A:PH) (S:Int×Int->Tr),G.le A/\Sxs k S/\(tW N (bI g) 0 g.qa0 λ_=>qa6 mD)=tW N (bI g) i (g.qa0.drop i) S/\
  St A K [mG gD (iS g.qa0) A ms S,mS be Gn mn N]) ⟨G,_,au _,λ_=>Sx.qa6 k mD,by rw [Vu],h⟩ ?_
 rintro i F1 N1 hi ⟨G1,S1,l1,g9,M,h⟩ next;unfold vV;refine ⟨λa7=> ?_,λh8=> ?_⟩
 ·have a7:i<g.qa0.length:=by omega
  refine h.ix (e2.le l1) (by decide) (by omega) (by omega) λa c6 x hx e8 b0=>⟨c6,Mem.len b0,e8,?_⟩;rw [N4] at hx;have e7:=vO hx;have i4:=hl x e7;have d0:g.qa0.drop i=x::g.qa0.drop (i+1):=fK hx;refine h.var (Mem.st b0) (λb6 G2 F2 l2 q6 h=> ?_) rfl (Mem.len b0);obtain ⟨r,n6,l6,rfl,hr,i3,_⟩:=b0;have g1:=aa l1 l2;have a5:=hr.le l2;have er:=a5.len;have h4:=a5.cap;refine ⟨_,ld (h.le _ _ q6) rfl,?_⟩
  refine bD (Bk N1 · (oB ban 0 I) (V mn) b4 (i:Int) b6 p r R) x.right.length (λj K=>∃(A:PH) (L:Int×Int->Tr),G2.le A/\Sxs k L/\rA N (bI g i) x 0 x.right S1=rA N (bI g i) x j (x.right.drop j) L/\
   ∃Bs,St A K ([mG gD (iS g.qa0) A ms L,mS be Gn mn N]++Bs)) ⟨G2,S1,au _,g9,by rw [Vu],[],h.imp 0 rfl λ_ _ hH=>mG.le hH l2⟩ ?_
  rintro j F3 N2 hj ⟨G3,L,l3,Q,E,Bs,h⟩ a3;replace h:St G3 F3 [mG gD (iS g.qa0) G3 ms L,mS be Gn mn N]:=h.pick id (λ_ _ _ _ e=>e) λi hi=>by rw [id,zM hi]
  unfold Bk;refine ⟨λa2=> ?_,λj4=> ?_⟩
  ·have a2:j<x.right.length:=by omega
   refine t8 (a5.le l3) (by decide) (by omega) (by omega) λa8 c8 sy c7 c4 e3=>⟨c8,Mem.len e3,aN h.le c4,?_⟩;rw [N4] at c7;obtain rfl:c8=sy.arr:=e3;have f3:x.right.drop j=sy::x.right.drop (j+1):=fK c7;refine h.var (by simp [ak]) (λb8 G4 F4 l4 q8 h=>⟨_,ld (h.le _ _ q8) rfl,λB=> ?_,λB=> ?_⟩) rfl rfl
   ·have B:sy.t=nk:=B;unfold nH;rw [aC a2];refine a3 _ a2 ⟨G4,L,aa l3 l4,Q,?_,[],h.imp 0 rfl λ_ _ hH=>mG.le hH l4⟩;rw [E,f3];show rA N (bI g i) x (j+1) _ (if sy.t=nk then L else _)=_;rw [Χ B]
   ·have B:sy.t=mD:=B;have d1:=aa l3 l4;have J:=d1 _ _ q6;have f1:=a5.le d1;have f6:i64.wrap ((j:Int)+1)=((j+1:Nat):Int):=aC a2;refine ⟨_,ld (h.le _ _ J) rfl,by omega,by omega,by rw [N4];omega,_,ld (h.le _ _ J) rfl,?_⟩;dsimp only;rw [f6];refine ⟨by omega,by rw [N4];omega,h4,?_⟩;simp only [N4];obtain ⟨v1,e5,g4⟩:=f1.cut (n:=2) rfl (k:=j) (by omega);obtain ⟨v2,e6,h1⟩:=f1.cutD (n:=2) rfl (by decide) (k:=j+1) (by omega);refine h.new λh5 F5 h=> ?_;have h:=h.imp (A':=own (t7 (V (oB h5 0 I)) 0 0) 130 2 []) 0 rfl λH _ hH=>gP hH;have c3:(Sl.cut r 2 0 j r.cap).len=j:=by unfold Sl.cut;dsimp only;omega
    have e4:(Sl.cut r 2 (j+1) r.len r.cap).len=r.len - (j+1):=rfl;refine h.app0 T (g4.le h.le) e5.st (by rw [c3];show 0+j<=_;omega) λs1 F6 h f4=> ?_;rw [zB] at h;refine ⟨ld (h.le _ _ J) rfl,ld (h.le _ _ J) rfl,?_⟩;have f4:s1.len=0+j:=by rw [f4,c3]
    refine h.app0 T (h1.le h.le) e6.st (by rw [e4];omega) λs2 F7 h h9=> ?_;refine ⟨ld (h.le _ _ J) rfl,ld (h.le _ _ J) rfl,?_⟩;obtain ⟨G5,l5,g7,h⟩:=h.pinO;have a0:RL G5 s2 (x.right.eraseIdx j):=by rw [List.eraseIdx_eq_take_drop_succ];refine ⟨v1++v2,(e5.le l5).append (e6.le l5),?_⟩;rw [ba];exact g7
    have h2:(x.right.eraseIdx j).length<=1000000:=by have:=List.length_eraseIdx_le x.right j;omega
    have j7:=a0.len;have b5:=aa g1 (aa d1 l5);refine ⟨_,by rw [aI];exact ld (h.le _ _ (b5 _ _ qa)) rfl,?_⟩;refine t8 (hq.le b5) (by decide) (by omega) (by omega) λa9 c9 dd D d3 b3=>⟨c9,Mem.len b3,aN h.le d3,?_⟩;rw [N4] at D;have D:dd=pj (bI g i):=by unfold tU at D;rw [yw,Xz a7] at D;exact (yR D).symm
    have b3:DV G5 c9 (pj (bI g i)):=by rw [<- D];exact b3
    refine (ul h.swap (aa lN b5) hk.le hN (hk.prs i) b3 a0 h2).mono ?_;rintro _ F8 ⟨G6,u,rfl,hu,l6,h⟩;have h:=h.swap;refine ⟨u,rfl,?_⟩;refine h.new λb2 F9 h=> ?_;refine h.put0 (w':=u) hu.size rfl hu.st λj1 h=> ?_;obtain ⟨i5,_⟩:=cL hN (x.right.eraseIdx j) (hk.prs i);obtain ⟨e1,_⟩:=im hN (hk.prs i) x.right j;have j3:=aa l5 l6
    refine bD (Bj N1 N2 · (oB ban 0 I) (V mn) b4 (i:Int) b6 b8 b2 p r (j:Int) s2 R) (x.right.eraseIdx j).length (λe K=>∃(A:PH) (y:Γ),G6.le A/\
     DV A y (pj (if ((x.right.eraseIdx j).take e).any (·.t)=nk then qa6 mD else ft N (bI g i) (x.right.eraseIdx j)))/\St A K [pt b2 (Y y 33),mG gD (iS g.qa0) G3 ms L,mS be Gn mn N]) ⟨G6,u,au _,by rw [z6];exact hu,h⟩ ?_
    rintro e i2 N3 he ⟨G7,y,l7,hy,h⟩ W;unfold Bj;have b1:=aa l6 l7;refine ⟨λO=> ?_,λj2=> ?_⟩
    ·have O:e<(x.right.eraseIdx j).length:=by omega
     refine t8 (a0.le b1) (by decide) (by omega) (by omega) λh6 f5 sz f9 a6 c2=>⟨f5,Mem.len c2,aN h.le a6,?_⟩;rw [N4] at f9;obtain rfl:f5=sz.arr:=c2;have et:=bg f9;refine h.var (by simp [ak]) (λh7 G8 g3 l8 g6 h=>⟨_,ld (h.le _ _ g6) rfl,λC=> ?_,λC=> ?_⟩) rfl rfl
     ·have C:sz.t=nk:=C;refine (h.call (gE mD)).mono ?_;rintro _ g8 ⟨G9,⟨w,rfl,hw,l9⟩,h⟩;refine ⟨w,rfl,?_⟩;refine h.put0 (w':=w) hw.size hy.size hw.st λg5 h=> ?_;unfold vU;rw [aC O];refine W _ O ⟨G9,w,aa l7 (aa l8 l9),?_,h⟩;rw [et,List.any_append,List.any_cons,C,Bool.true_or,Bool.or_true,Χ rfl];exact hw
     ·have C:sz.t=mD:=C;unfold vU;rw [aC O];refine W _ O ⟨G8,y,aa l7 l8,?_,h⟩;rw [et,List.any_append,List.any_cons,C,List.any_nil,Yr,Yr];exact hy.le l8
    ·have he:e=(x.right.eraseIdx j).length:=by omega
     subst he;rw [wB] at hy;have hy:DV G7 y (pj (nJ N (bI g i) x.right j)):=hy;have a4:=aa l4 (aa l5 b1);have go:∀{A K:PH} {Bs:List (Ψ)},G7.le A->St A K ([mG gD (iS g.qa0) A ms (dU L (x.left,sy.i) (nJ N (bI g i) x.right j)),mS be Gn mn N]++Bs)->nH N1 N2 (oB ban 0 I) (V mn) b4 (i:Int) b6 p r (j:Int) R K:=λ{A K Bs} l h=>by unfold nH;rw [f6];refine a3 _ a2 ⟨A,_,aa l3 (aa a4 l),pU Q e1,?_,Bs,h⟩;rw [E,f3];show rA N (bI g i) x (j+1) _ (if sy.t=nk then L else _)=_;rw [B,Υ YM]
     unfold Is;obtain ⟨sd,ey,_⟩:=id hy;have h3:=aa (aa l3 a4) (au _) _ _ q6;refine ⟨_,ld (h.ptAt (i:=0) rfl) (by rw [ey];rfl),λh0=> ?_,λh0=> ?_⟩
     ·refine ⟨_,ld (h.le _ _ h3) rfl,_,ld (h.le _ _ (aa l5 b1 _ _ q8)) rfl,?_⟩;refine h.var (by simp [ak]) (λi1 G8 g3 l8 c5 h=> ?_) rfl rfl;have g2:=aa b5 (aa b1 l8);have d2:=g2 _ _ q4;have key:(x.left,sy.i)∈iS g.qa0:=XW.2 ⟨x,e7,xv.2 ⟨sy,vO c7,rfl⟩⟩;refine ⟨_,ld (h.le _ _ d2) rfl,_,rfl,ai (h.le _ _ c5),_,ld (h.le _ _ d2) rfl,_,rfl,ai (h.le _ _ c5),y,hy.size,ai (h.ptAt (i:=0) rfl),?_⟩;refine (FW (λH hH=>mG.mS hH) h.swap (aa a4 l8) (x.left,sy.i)).mono ?_;rintro _ g8 ⟨G9,w,rfl,hw,l9,h⟩;have h:=h.swap;have a1:=l9 _ _ c5;have d4:=l9 _ _ d2;refine ⟨w,rfl,ai (h.ptAt (i:=0) rfl),ai (h.le _ _ a1),ld (h.le _ _ d4) rfl,?_⟩;refine h.run (P:=λr' A=>∃z,r'=po #[nQ z,U 0]/\DV A z (pj (ap2 z8 (L (x.left,sy.i)) (nJ N (bI g i) x.right j)))) ((Bl hk.le (Q _) e1 hw (hy.le (aa l8 l9))).mono λr K ⟨x,a,b,c⟩=>⟨⟨x,a,b⟩,c⟩) λ_ j6 g5 e9 X h=> ?_;obtain ⟨z,rfl,hz⟩:=e9;refine ⟨_,_,rfl,ai (h.le _ _ (X _ _ a1)),ld (h.le _ _ (X _ _ d4)) rfl,?_⟩;refine h.runv (ci hz) λi0 j5 b7 h=>⟨_,rfl,ai (h.le _ _ (b7 _ _ (X _ _ a1))),ld (h.le _ _ (b7 _ _ (X _ _ d4))) rfl,?_⟩;have b9:=aa l8 (aa l9 (aa X b7));refine h.mG_put RV yF 1 rfl (aa a4 b9) key (hz.le b7) λj0 h=> ?_;exact go (Bs:=[pt b2 (Y y 33)]) b9 h.rot
     ·have e0:nJ N (bI g i) x.right j=qa6 mD:=(i9 e1.1).1 (by simpa using h0);refine go (Bs:=[pt b2 (Y y 33)]) (au _) ?_;rw [e0,kP Q];exact (h.imp 1 rfl λ_ _ hH=>mG.le hH a4).rot
  ·have hj:j=x.right.length:=by omega
   subst hj;rw [XX] at E;have E:rA N (bI g i) x 0 x.right S1=L:=E;unfold Ir;rw [aC a7];refine next _ a7 ⟨G3,L,aa g1 l3,Q,?_,h⟩;rw [M,d0];show tW N (bI g) (i+1) _ (rA N (bI g i) x 0 x.right S1)=_;rw [E]
 ·have e:i=g.qa0.length:=by omega
  subst e;rw [XX] at M;have M:(tW N (bI g) 0 g.qa0 λ_=>qa6 mD)=S1:=M;refine fin G1 F1 l1 ?_;rw [M];exact h.hd
end
theorem gA {α:Type} {F:PH} (L:(α->Ω)->α->Ω) (n:Nat) (Inv:Nat->α->Ψ) (A:α) (G:Inv 0 A F)
  (step:∀(k:Nat) (x:α) (F:PH) (N:α->Ω),k<=n->Inv k x F->(∀h g,k<n->Inv (k+1) h g->N h ((k+1:Nat):Int) g)->L N x (k:Int) F):
  ∃(r:Nat->α->Ω) (m:Nat),r m A (0:Int) F/\∀m x v F,r m x v F->L (λy z F=>∃B,B<m/\r B y z F) x v F:=by
 refine ⟨λm x i g=>∃k:Nat,i=k/\k<=n/\m=n - k/\Inv k x g,n,⟨0,rfl,by omega,rfl,G⟩,?_⟩;rintro m x i g ⟨k,rfl,E,rfl,hi⟩;exact step k x g _ E hi λh D C w=>⟨n - (k+1),by omega,k+1,rfl,by omega,rfl,w⟩
theorem St.ownPut {G F:PH} {As:List (Ψ)} {s:Sl} {e n:Nat} {vs:Ξ} (h:St G F As) (i:Nat) (hi:As[i]? =V (own s e n vs)) {a:Addr} (B:s.qa5=V a) {j:Nat} {v:ξ} (X:j<vs.length) {K:Ψ}
  (k:∀D,St G D (As.set i (own s e n (vs.set j v)))->K D):pv F (a.add j) v K:=by
 obtain ⟨H,Q,a2,J,W⟩:=h.set (A':=own s e n (vs.set j v)) hi;rcases Q with ⟨rfl,_⟩|⟨b,w,C,A,O,L,N,M⟩
 ·cases B
 ·rw [C] at B;cases B;have P:s.len*n<=s.cap*n:=Xj _ L;rw [aI,x9];refine ⟨w,e,J _ _ A,rfl,by show j<_;omega,?_⟩;refine tR (k _ (W (H.set b (Y (w.setIfInBounds j v) e)) _ (.inr ⟨b,_,C,aq _ _ _,by rw [Array.size_setIfInBounds,O],L,by rw [Yp,N],?_⟩) (λx g=> ?_) (λx p g=> ?_) λx p g E=> ?_))
  ·rw [Array.toList_setIfInBounds,<- M,List.take_set]
  ·by_cases r:x=b
   ·rw [r,A];exact .inl (by simp)
   ·rw [aw _ _ r] at g;exact .inl g
  ·by_cases r:x=b
   ·rw [r,aq] at g ⊢;exact g
   ·rw [aw _ _ r] at g ⊢;exact J _ _ g
  ·have r:x≠b:=λr=>by rw [r,A] at E;cases E
   rw [aw _ _ r];exact g
theorem Iy {s:Sl} {e n k:Nat} {vs:Ξ} {H:PH} (h:own s e n vs H) (r:k<=s.len):own (Sl.cut s n 0 k s.cap) e n (vs.take (k*n)) H:=by
 rcases h with ⟨rfl,rfl⟩|⟨b,g,w,B,E,G,D,C⟩
 ·have:k=0:=Nat.le_zero.1 r;subst this;exact .inl ⟨rfl,by simp⟩
 ·refine .inr ⟨b,g,?_,B,E,by show k - 0<=s.cap - 0;omega,?_,?_⟩
  ·unfold Sl.cut;by_cases A:s.cap=0
   ·rw [Χ A];exact w
   ·rw [Υ A,w,Wp];rfl
  ·have:=Xj n r;rw [z9,D];show min (k*n) _=(k - 0)*n;rw [VV];omega
  ·show g.toList.take ((k - 0)*n)=_;rw [VV,<- C,List.take_take,YO (Xj n r)]
instance:Mem (Nat×List Sy) where
 n:=2
 rep F x c:=∃r:Sl,c= #[U (x.1:Int),r.v]/\RL F r x.2
 len h:=by obtain ⟨r,rfl,_⟩:=h;rfl
 le hl h:=by obtain ⟨r,h1,h2⟩:=h;exact ⟨r,h1,h2.le hl⟩
 st h:=by obtain ⟨r,rfl,_⟩:=h;simp [ak,nI]
def rC (g:Gr) (fs:List (Nat×List Dtr)):List (Nat×List Sy):=(fs.map λx=>(x.1,x.2.map (XD g))).reverse
theorem nK (g:Gr) (x:Nat×List Dtr) (fs:List (Nat×List Dtr)):rC g (x::fs)=rC g fs++[(x.1,x.2.map (XD g))]:=by unfold rC;simp
theorem ff (g:Gr) (fs:List (Nat×List Dtr)):(rC g fs).length=fs.length:=by unfold rC;simp
theorem qgg:∃b z,SlT 219 223 2 b z:=⟨_,_,underlying219,qfm,qfs,rfl,by decide,by decide⟩
theorem qgh:aF prog 81=nk:=by kernel_rfl
section
variable {F G:PH} {g:Gr} {c:Dtr}
theorem FX {v:Γ} (M:GV F v g) (W:Gp g c):ν 118 #[nQ v,U c.root.pr,U c.root.tk] F λr N=>r=nQ (XD g c).arr/\F.le N:=by
 obtain ⟨cs,n,t,s,p,l,f,rfl,J⟩:=M;refine qdo ?_;unfold OH;refine (St.start F).newG λb3 G1 F1 E q3 _ h=> ?_;refine h.new λb6 F2 h=> ?_;have D:=J.le E;cases c with
 |lf X fr to=>refine ⟨λ_=> ?_,λA=>absurd (by show (-1:Int)<0;decide) A⟩;refine h.put0 (w':= #[nW nk,U X]) rfl rfl (by simp [ak]) λO h=>⟨_,rfl,ai (h.ptAt (i:=0) rfl),rfl,aa E h.le⟩
 |nd B fr to ks=>obtain ⟨_,_,x,K,_⟩:=W;obtain ⟨L,x1,Q⟩:=bB K;have ep:=J.p.len;refine ⟨λA=>absurd L (by show ¬(0:Int)<=B;exact Int.not_le.2 A),λ_=> ?_⟩;refine ⟨p,ld (h.le _ _ q3) rfl,?_⟩;refine t8 D.p (by decide) L (by show B<_;omega) λa cc H C w P=> ?_;obtain rfl:H=x:=yR (C.symm.trans Q);obtain ⟨r,n2,l2,rfl,_⟩:=P;refine ⟨_,aM (aN h.le w) (i:=1) rfl,?_⟩;refine h.put0 (w':= #[nW mD,U H.left]) rfl rfl (by simp [ak]) λO h=>⟨_,rfl,ai (h.ptAt (i:=0) rfl),?_,aa E h.le⟩;show nQ _=nQ (⟨mD,((VI g B).map Pr.left).getD 0⟩:Sy).arr;rw [K];rfl
theorem Iz {Q b3 i:Nat} {t:Sl} {cs n M s p l f:Sl} {L:List Nod} (q3:F b3=V (Y #[t.v] 43)) (q2:F Q=V (Y (g.arr cs n M s p l f) 39)) (O:GS F g cs n M s p l f) (W:RL F t L) (P:L[i]? =V c.root) (hf:Gp g c):
  ν 81 #[U (i:Int),Pp b3,Pp Q] F λr F'=>r=po #[U c.root.pr,U c.root.tk,nW nk]/\F.le F':=by
 have et:=W.len;have hi:=(N6.1 P).1;have a0:=O.t.len;have ep:=O.p.len;refine qgr ?_;unfold Vr;refine ⟨_,rfl,t,ld q3 rfl,?_⟩;refine t8 W (by decide) (by omega) (by omega) λa cc x' B C hc=> ?_;rw [N4,P] at B;obtain rfl:=yR B;obtain rfl:cc=c.root.arr:=hc;refine ⟨_,rfl,C,?_⟩;refine (St.start F).var (by simp [ak]) (λb7 G1 F1 l1 q7 h=> ?_);have w:=h.le _ _ q7;have D:=aa l1 h.le;refine ⟨_,ld w rfl,?_⟩;cases c with
 |lf K N to=>obtain ⟨f1,f2,H,J⟩:=hf;refine ⟨λ_=>⟨_,ld w rfl,_,ld w rfl,λ_=>⟨_,ld w rfl,_,rfl,M,ld (D _ _ q2) rfl,λ_=>⟨_,ld w rfl,λ_=>⟨_,ld w rfl,_,ld w rfl,?_,D⟩,λA=>absurd H A⟩,λA=>absurd (by show K<_;omega) A⟩,λA=>absurd f1 A⟩,λA=>absurd rfl A⟩;show po #[_,_,nW (decide (N<to))]=_;rw [ε J];rfl
 |nd pr N to ks=>
  obtain ⟨H,J,x,E,_⟩:=hf;obtain ⟨X,x1,x2⟩:=bB E;refine ⟨λA=> ?_,λ_=>⟨_,ld w rfl,_,ld w rfl,_,ld w rfl,λ_=>⟨_,ld w rfl,_,rfl,p,ld (D _ _ q2) rfl,λ_=>⟨_,ld w rfl,λ_=>⟨_,ld w rfl,λ_=>⟨_,ld w rfl,_,ld w rfl,?_,D⟩,λA=>absurd H A⟩,λA=>absurd rfl A⟩,λA=>absurd (by show pr<_;omega) A⟩,λA=>absurd X A⟩⟩
  ·subst A;exact absurd X (by decide)
  ·show po #[_,_,nW (decide (N<=to))]=_;rw [ε J]
end
end
open Go.RowKit Go.Shelf
section
attribute [local go_sem] Oper.semAt_some
def gK {α:Type} (f:Nat->α) (k:Nat):List α:=(List.range k).map f
theorem nL {α:Type} (f:Nat->α) (k:Nat):gK f (k+1)=gK f k++[f k]:=by unfold gK;simp [List.range_succ]
theorem lU {α:Type} (f:Nat->α) (k:Nat):(gK f k).length=k:=by unfold gK;simp
def ZV (e:Ev) (F:PH) (A B:World):Prop:=Sat e A F->Sat e B F
theorem jA {i:Nat} {ks:List Dtr}:bQ i ks ks.length=i+1+vz ks:=by unfold bQ;rw [wB]
theorem Dn {T m c:Dtr} {i k:Nat} (h:bC T i=V m) (g:m.kids[k]? =V c):(VM 0 T)[bQ i m.kids k]? =V (bQ i m.kids (k+1)):=by rw [Je (gi h g),gQ g,x9]
theorem wb {T m:Dtr} {i:Nat} (h:bC T i=V m):(VM 0 T)[i]? =V (bQ i m.kids m.kids.length):=by rw [Je h,jA,cn];congr 1;omega
theorem pM {i:Nat} {ks:List Dtr} (k:Nat):bQ i ks k<=i+1+vz ks:=by have:=congrArg vz (W5 k ks);rw [fS] at this;unfold bQ;omega
theorem pN {i k:Nat} {ks:List Dtr} (g:k<ks.length):bQ i ks k<i+1+vz ks:=by have h:=gQ (i:=i) (N5 g);have:=pM (i:=i) (ks:=ks) (k+1);have:=eV ks[k];omega
theorem rD {e:Ev} {w W:World} {F:PH} (h:Sat e w F) (r:Below w.heap.size w W):Sat e W F:=by have key:∀b o,w.heap[b]? =V o->W.heap[b]? =V o:=λb o g=>(r.block b (XY.1 g).1).trans g;exact ⟨r.os.trans h.os,r.tape.trans h.tape,r.output.trans h.output,λb o g=>key b o (h.heap b o g),λb o g=>⟨(h.frame b o g).1,key b o (h.frame b o g).2⟩⟩
abbrev UY (T:Dtr):Φ:=(VM 0 T).map Int.ofNat
section
variable {e:Ev} {F1:PH} {T m:Dtr} {i b2 b3:Nat} {s:Sl}
theorem lV (g:RL F1 s (UY T)) {j v:Nat} (h:(VM 0 T)[j]? =V v):∃b o,s.qa5=V ⟨b,o,I⟩/\(j:Int)<(s.len:Int)/\F1.cell ⟨b,o+j,I⟩=V (U (v:Int)):=by
 have B:(UY T)[j]? =V (v:Int):=by unfold UY;rw [yw,h];rfl
 have J:=g.len;have C:=(N6.1 B).1;obtain ⟨a,c,r,D,G⟩:=g.get (by decide) B;obtain rfl:c= #[U (v:Int)]:=G;have w:=aE D rfl;obtain ⟨b,o,F,hF⟩:∃b o,a=⟨b,o,I⟩/\True:=by obtain ⟨vs,H,E⟩:=g;obtain ⟨b,o,A,_⟩:=E.cells (by omega);rw [r] at A;exact ⟨b,o,yR A,trivial⟩
 subst F;refine ⟨b,o,r,by omega,?_⟩;rw [show (Mem.n Int)=1 from rfl,xF,aI] at w;exact w
set_option maxRecDepth 100000 in
set_option maxHeartbeats 2000000 in
theorem IA (F:Fence) (n:Nat) (N:F.fn 84) (K:F.round=I) (hn:1<=n) (l:Nat) (G:bC T i=V m) (hT:szN T<=2000000) (q2:F1 b2=V (Y #[s.v] 76)) (q3:F1 b3=V (Y #[U (i:Int)] 3)) (hs:RL F1 s (UY T)) {α:Type} (enc:α->Nat) (f:Nat->α) (hf:∀k,k<m.kids.length->enc (f k)=bQ i m.kids k) (w Jx:List α->World->Prop)
  (hY:∀(pre:List α) (x:α) W,w pre W->pre.length<m.kids.length->YieldAt F (n - 1) prog l #[U ((enc x:Nat):Int)] W λen r=>
   (en=.returned (nW nk)/\w (pre++[x]) r/\ZV e F1 W r)\/(en=.returned (nW mD)/\Jx (pre++[x]) r))
  (W:World) (hW:Sat e W F1) (h0:w [] W):
  CallsIn F n prog 84 #[.func (.yield l) #[] #[],pk (V ⟨b3,0,I⟩),pk (V ⟨b2,0,I⟩)] W λen r=>(∃v,en=.returned v)/\
   ((∃ys,ys=gK f m.kids.length/\w ys r)\/(∃pre,(∃k,k<=m.kids.length/\pre=gK f k)/\Jx pre r)):=by
 have a7:=d6 G;have a5:W.cell? ⟨b3,0,I⟩=V (U (i:Int)):=hW.cell (ld q3 rfl);refine callsIn_of_wp func84 rfl N ?_ K;simp only [ntmps84,XB,wg,W9,Nat.reduceAdd,Nat.reduceSub,Array.replicate_succ,Array.replicate_zero,List.push_toArray,Yf,zB,zK];have hw:i64.wrap ((i:Int)+1)=((i+1:Nat):Int):=aC (n:=3000000) (by omega) (by omega)
 gi_wp2
 gi_loopw [4] (λp wr=>∃k:Nat,k<=m.kids.length/\p=U ((bQ i m.kids k:Nat):Int)/\w (gK f k) wr/\Sat e wr F1)
  (λp _=>3000000 - (intOf p).toNat)
 case atStart=>exact ⟨0,yA _,by simp [bQ,dh],h0,hW⟩
 case round=>
  obtain ⟨k,hk,rfl,D,H⟩:=hrel;have c3:wr.cell? ⟨b3,0,I⟩=V (U (i:Int)):=H.cell (ld q3 rfl);have a6:=pM (i:=i) (ks:=m.kids) k;have P:=sub_le G;rw [cn] at P;obtain ⟨b,o,hb,B,X⟩:=lV hs (wb G);have a8:wr.cell? ⟨b,o+i,I⟩=V (U ((bQ i m.kids m.kids.length:Nat):Int)):=H.cell X;obtain ⟨M,len,cap⟩:=s;obtain rfl:M=_:=hb;have c2:wr.cell? ⟨b2,0,I⟩=V (tX (V ⟨b,o,I⟩) len cap):=H.cell (ld q2 rfl);have a3:i<len:=by have:(i:Int)<(len:Int):=B;omega
  have O:=jA (i:=i) (ks:=m.kids);by_cases g:k<m.kids.length
  ·have a4:=pN (i:=i) g;obtain ⟨fn,a2,J,a1,hy,hR⟩:=hY _ (f k) wr D (by rw [lU];exact g);rw [hf k g] at hy
   gi_wp2
   refine hR.mono ?_;rintro en W3 (⟨rfl,Q,L⟩|⟨rfl,E⟩)
   ·have h:=L H;have d2:W3.cell? ⟨b2,0,I⟩=V (tX (V ⟨b,o,I⟩) len cap):=h.cell (ld q2 rfl);obtain ⟨b',o',R,C,A⟩:=lV hs (Dn G (N5 g));cases R;have a0:bQ i m.kids k<len:=by have:((bQ i m.kids k:Nat):Int)<(len:Int):=C;omega
    have d3:W3.cell? ⟨b,o+bQ i m.kids k,I⟩=V (U ((bQ i m.kids (k+1):Nat):Int)):=h.cell A;have e1:=gQ (i:=i) (N5 g);have e2:=eV m.kids[k];have e3:=pM (i:=i) (ks:=m.kids) (k+1)
    gi_wp2
    go_roundw
    case rel=>exact ⟨k+1,by omega,by simp [e1],by rw [nL];exact Q,h⟩
    case measure=>simp [intOf];omega
   ·gi_wp2
    refine bodyPost_ret (results_none rfl _ _ _) rfl ?_;exact ⟨⟨_,rfl⟩,.inr ⟨_,⟨k+1,by omega,(nL _ _).symm⟩,E⟩⟩
  ·obtain rfl:k=m.kids.length:=by omega
   gi_wp2
   go_end0
   exact ⟨⟨_,rfl⟩,.inl D⟩
theorem rE (l:World) (B:Sat e l F1) (g:bC T i=V m) (h:szN T<=2000000) (q2:F1 b2=V (Y #[s.v] 76)) (q3:F1 b3=V (Y #[U (i:Int)] 3)) (A:RL F1 s (UY T)) {α:Type} (enc:α->Nat) (f:Nat->α) (H:∀k,k<m.kids.length->enc (f k)=bQ i m.kids k) {n:Nat} (w:1<=n):
  SeqStopsK Fence.wide n prog 84 #[pk (V ⟨b3,0,I⟩),pk (V ⟨b2,0,I⟩)] (λx:α=> #[U ((enc x:Nat):Int)]) (ZV e F1) (λE=>E=gK f m.kids.length) (λpre=>∃k,k<=m.kids.length/\pre=gK f k) m.kids.length l:=λr F C W J _ _ G D=>
 IA Fence.wide n trivial rfl w r g h q2 q3 A enc f H F C G W (rD B J) D
end
section
variable {F G:PH} {g:Gr} {L:List Nod} {T:Δ} {N:Nat}
def X9 (g:Gr) (L:List Nod) (T:Δ) (N:Nat) (es:Sl) (G0:PH) (top:Bool) (j:Nat) (st:Sl) (F':PH):Prop:=
 ∃(G':PH) (fs:List (Nat×List Dtr)) (vs:List Γ) (E:Φ),G0.le G'/\St G' F' [own st 223 2 (tZ vs),own es 3 1 (E.map U)]/\bS G' (rC g fs) vs/\(st.len=fs.length/\fs.length<=j)/\E.length=N/\
  (∀q v,q<j->(∀x∈fs,q≠x.1)->T[q]? =V v->E[q]? =V (v:Int))/\(if j=0 then fs=[] else WX g L T N j fs)/\(top=nk->∀x ks r,fs=(x,ks)::r->ks≠[])
theorem Do {fs:List (Nat×List Dtr)} {vs:List Γ} {x:Nat} {ks:List Dtr} (h:bS G (rC g ((x,ks)::fs)) vs):∃(us:List Γ) (r:Sl),vs=us++[#[U (x:Int),r.v]]/\RL G r (ks.map (XD g))/\bS G (rC g fs) us/\us.length=fs.length:=by rw [nK] at h;have B:=h.length;rw [tT,ff,Ub] at B;have w:=h.take fs.length;rw [Xi (by rw [ff];exact ru _),zh (by rw [ff];exact ru _)] at w;obtain ⟨c,C,⟨r,rfl,A⟩,_⟩:=h.get (i:=fs.length) (x:=(x,ks.map (XD g))) (by rw [Ua (by rw [ff];exact ru _),ff,X4];rfl);refine ⟨vs.take fs.length,r,?_,A,w,by rw [z9];omega⟩;have:=(W5 fs.length vs).symm;rw [XJ (by omega),Ye (by omega),(N6.1 C).2] at this;exact this
theorem IB {b1:Nat} {A:Sl} {N1:Sl->Ω} {R:VR} {j:Nat} {F2:PH} {st:Sl} (hN:N<=2000000) (hj:j<N) (a8:T.length=N) (G0:PH) (h:X9 g L T N A G0 mD (j+1) st F2) {n0:Int}
  (next:∀X F',X9 g L T N A G0 nk (j+1) X F'->N1 X ((j+1:Nat):Int) F'):
  ∃(I2:Nat->Sl->Ψ) (m2:Nat),I2 m2 st F2/\∀m2 w F,I2 m2 w F->BK N1 (λW F=>∃m',m'<m2/\I2 m' W F) b1 A (j:Int) n0 R w F:=by
 refine ⟨λm s F'=>m=s.len/\X9 g L T N A G0 mD (j+1) s F',st.len,⟨rfl,h⟩,?_⟩;rintro m s F3 ⟨rfl,G',B,vs,E,lG,C,hr,⟨hl,Q⟩,hE,hq,hf,_⟩;have ej:i64.wrap ((j:Int)+1)=((j+1:Nat):Int):=aC (n:=N) hj (by omega);rw [Υ (by omega)] at hf;unfold BK;have D:(∀x ks r,B=(x,ks)::r->ks≠[])->wI N1 b1 A n0 (j:Int) s R F3:=λht=>by unfold wI;rw [ej];exact next s F3 ⟨G',B,vs,E,lG,C,hr,⟨hl,Q⟩,hE,hq,by rw [Υ (by omega)];exact hf,λ_=>ht⟩
 refine ⟨λh0=> ?_,λh0=>D ?_⟩
 ·cases B with
  |nil=>rw [W9] at hl;omega
  |cons y B=>
   obtain ⟨x,ks⟩:=y;rw [wg] at hl Q;obtain ⟨us,r,rfl,a5,O,b2⟩:=Do hr;have b3:=BI hf;have ew:i64.wrap ((s.len:Int) - 1)=((B.length:Nat):Int):=by rw [aJ (by omega)];omega
   have M:RdS F3 s 2 (tZ (us++[#[U (x:Int),r.v]])):=(C.ownAt (i:=0) rfl).1.rd;obtain ⟨a,o,hb,_⟩:=M.cells (by omega)
   have J:=M.row hb (B.length*2) #[U (x:Int),r.v] (by
    rw [ba,List.drop_left' (by
     have:=O.cat_len;rw [ff] at this
     exact this),cI]
    rfl)
   rw [ew];refine ⟨_,hb,by omega,by omega,r,?_,?_⟩
   ·rw [N4];exact aM J (i:=1) rfl
   have a1:=a5.len;rw [ub] at a1;refine ⟨λhz=> ?_,λhz=>D ?_⟩
   ·have a6:ks=[]:=Wm (by omega);subst a6;obtain ⟨hT,b0⟩:=MR hf;have a0:x<N:=by rw [<- a8];exact (N6.1 hT).1
    refine ⟨_,hb,by omega,by omega,x,?_,?_⟩
    ·rw [N4];exact aE J rfl
    have P:RdS F3 A 1 (E.map U):=(C.ownAt (i:=1) rfl).1.rd;have a3:=P.len;rw [ub,hE] at a3;obtain ⟨a2,o2,a4,_⟩:=P.cells (by omega);refine ⟨_,a4,by omega,by omega,?_⟩;rw [ej,N4,xF];refine C.ownPut 1 rfl a4 (by rw [ub,hE];exact a0) λF4 h4=> ?_;refine ⟨by omega,by omega,?_,_,?_,rfl,G',B,us,E.set x ((j+1:Nat):Int),lG,?_,O,⟨?_,by omega⟩,by rw [Yp];exact hE,λq v a9 a7 K=> ?_,by rw [Υ (by omega)];exact b0,λh=>by cases h⟩
    ·rw [N4];have:=M.cap;omega
    ·rw [N4];show B.length - 0<s.len;omega
    ·have h5:=h4.imp (A':=own (Sl.cut s 2 0 (nX ((B.length:Nat):Int)) s.cap) 223 2 (tZ us)) 0 rfl λH _ hH=>by
      have:=Iy hH (k:=B.length) (by omega);rw [N4]
      rw [ba,List.take_left' (by
       have:=O.cat_len;rw [ff] at this
       exact this)] at this
      exact this
     rw [List.map_set];exact h5
    ·rw [N4];exact VV _
    ·by_cases e:q=x
     ·subst e;rw [X1 (by rw [hE];exact a0)];rw [hT] at K;cases K;rfl
     ·rw [Zh (Ne.symm e)];refine hq q v a9 (λy hy=> ?_) K;rcases tS.1 hy with rfl|hy
      ·exact e
      ·exact a7 y hy
   ·intro x' b4 r' he hk;cases he;subst hk;exact hz (by rw [a1];rfl)
 ·intro x ks r he;subst he;rw [wg] at hl;exact absurd (by omega) h0
end
section
variable {F G:PH} {g:Gr} {L:List Nod} {T:Δ} {N:Nat}
theorem Dp {w:Sl} {b1:Nat} {P:Sl->Ω} {R:VR} {j:Nat} {F2 C K:PH} {st r:Sl} {c:Dtr} {fs:List (Nat×List Dtr)} {vs:List Γ} {E:Φ} {n0:Int} (hN:N<=2000000) (hj:j<N) (M:T.length=N)
  (lG:K.le C) (h:St C F2 [own st 223 2 (tZ vs),own w 3 1 (E.map U)]) (hv:bS C (rC g fs) vs) (X:st.len=fs.length) (W:fs.length<=j) (hE:E.length=N) (hq:∀q v,q<j->(∀x∈fs,q≠x.1)->T[q]? =V v->E[q]? =V (v:Int))
  (hf:WX g L T N (j+1) ((j,c.kids)::fs)) (hr:RL C r (c.kids.map (XD g)))
  (next:∀B O,X9 g L T N w K nk (j+1) B O->P B ((j+1:Nat):Int) O):wJ P b1 w st (j:Int) n0 r R F2:=by
 obtain ⟨_,_,TO⟩:=qgg;unfold wJ;refine ⟨rfl,?_⟩;refine h.push0 TO (c:= #[U (j:Int),r.v]) rfl (by simp [ak,nI]) (by omega) λs' G2 F3 J h D=> ?_;refine IB hN hj M K ⟨G2,(j,c.kids)::fs,vs++[#[U (j:Int),r.v]],E,aa lG J,?_,?_,⟨by rw [D,X,wg],by rw [wg];omega⟩,hE,λq v a0 A H=> ?_,by rw [Υ (by omega)];exact hf,λh=>by cases h⟩ next
 ·rw [ba,cI];exact h
 ·rw [nK];exact (hv.le J).append (.cons ⟨r,rfl,hr.le J⟩ .nil)
 ·have Q:=A (j,c.kids) (by simp);dsimp only at Q;exact hq q v (by omega) (λy hy=>A y (by simp [hy])) H
theorem Dq {A:Sl} {b1:Nat} {N1:Sl->Ω} {R:VR} {j:Nat} {F2 H G0:PH} {st:Sl} {c:Dtr} {fs:List (Nat×List Dtr)} {vs:List Γ} {E:Φ} {n0:Int} {w:Γ} {p:Sl} (hN:N<=2000000) (hj:j<N) (J:T.length=N)
  (q1:H b1=V (Y w 175)) (hw:w[5]? =V p.v) (hp:RL H p g.qa0) (hc:Gp g c)
  (lG:G0.le H) (h:St H F2 [own st 223 2 (tZ vs),own A 3 1 (E.map U)]) (hv:bS H (rC g fs) vs) (X:st.len=fs.length) (B:fs.length<=j) (hE:E.length=N) (hq:∀q v,q<j->(∀x∈fs,q≠x.1)->T[q]? =V v->E[q]? =V (v:Int))
  (hf:WX g L T N (j+1) ((j,c.kids)::fs))
  (next:∀C W,X9 g L T N A G0 nk (j+1) C W->N1 C ((j+1:Nat):Int) W):wK N1 b1 A st (j:Int) c.root.pr n0 R F2:=by
 unfold wK;cases c with
 |lf tk Q to=>refine ⟨λM=>absurd M (by show ¬(0:Int)<=-1;decide),λ_=> ?_⟩;exact Dp (c:=.lf tk Q to) hN hj J lG h hv X B hE hq hf (RL.nil _) next
 |nd pr Q to ks=>obtain ⟨_,_,x,hx,hr⟩:=hc;obtain ⟨x0,x1,x2⟩:=bB hx;have ep:=hp.len;refine ⟨λ_=> ?_,λM=>absurd x0 M⟩;refine ⟨p,ld (h.le _ _ q1) hw,?_⟩;refine t8 hp (by decide) x0 (by show pr<_;omega) λa cc x' P K O=> ?_;obtain rfl:x'=x:=yR (P.symm.trans x2);obtain ⟨r,n2,l2,rfl,D,_⟩:=O;refine ⟨r,aM (aN h.le K) (i:=2) rfl,?_⟩;exact Dp (c:=.nd pr Q to ks) hN hj J lG h hv X B hE hq hf (by rw [hr] at D;exact D) next
theorem Mu {O:Sl} {b1:Nat} {N1:Sl->Ω} {R:VR} {j:Nat} {F2 P G0:PH} {st:Sl} {c:Dtr} {fs H:List (Nat×List Dtr)} {vs:List Γ} {E:Φ} {n0:Int} {cs n t s p l f:Sl} {u v:ξ} (hN:N<=2000000) (hj:j<N) (a4:T.length=N)
  (q1:P b1=V (Y #[cs.v,n.v,U g.fam.2,t.v,s.v,p.v,U g.start,l.v,f.v,u,v] 175)) (hs:GS P g cs n t s p l f) (hc:dT g c)
  (lG:G0.le P) (h:St P F2 [own st 223 2 (tZ vs),own O 3 1 (E.map U)]) (hv:bS P (rC g fs) vs) (hl:st.len=fs.length) (J:fs.length<=j) (hE:E.length=N) (hq:∀q v,q<j->(∀x∈fs,q≠x.1)->T[q]? =V v->E[q]? =V (v:Int))
  (b3:(fs=[]/\H=[])\/∃x ks rest,fs=(x,c::ks)::rest/\H=(x,ks)::rest) (hf:WX g L T N (j+1) ((j,c.kids)::H))
  (next:∀a0 F',X9 g L T N O G0 nk (j+1) a0 F'->N1 a0 ((j+1:Nat):Int) F'):r6 N1 b1 O st (j:Int) c.root.pr c.root.tk n0 R F2:=by
 unfold r6;have hg:GV P (g.arr cs n t s p l f) g:=⟨cs,n,t,s,p,l,f,rfl,hs⟩;refine ⟨g.arr cs n t s p l f,rfl,ga (h.le _ _ q1) rfl,?_⟩;refine h.runv (FX hg hc.here) λG2 F3 l2 h=>⟨_,rfl,?_⟩;refine h.var (by simp [ak]) (λb9 G3 F4 l3 q9 h=> ?_);have B:=aa l2 l3;have a5:=B _ _ q1;have a6:=hs.le B;have X:=hv.le B;rcases b3 with ⟨rfl,rfl⟩|⟨x,ks,rest,rfl,rfl⟩
 ·refine ⟨λK=> ?_,λ_=>Dq hN hj a4 a5 rfl a6.p hc.here (aa lG B) h X hl J hE hq hf next⟩;rw [hl] at K;exact absurd K (by decide)
 ·rw [wg] at hl J;have ew:i64.wrap ((st.len:Int) - 1)=((rest.length:Nat):Int):=by rw [aJ (by omega)];omega
  rw [ew];refine ⟨λ_=> ?_,λK=>absurd (by omega) K⟩;refine ⟨_,rfl,ai (h.le _ _ q9),?_⟩;obtain ⟨us,r,rfl,C,a3,b4⟩:=Do X;have a1:RdS F4 st 2 (tZ (us++[#[U (x:Int),r.v]])):=(h.ownAt (i:=0) rfl).1.rd;obtain ⟨a,o,hb,_⟩:=a1.cells (by omega);have w:(tZ us).length=rest.length*2:=by have:=a3.cat_len;rwa [ff] at this
  have D:=a1.row hb (rest.length*2) #[U (x:Int),r.v] (by
   rw [ba,List.drop_left' w,cI]
   rfl)
  rw [N4];refine ⟨_,hb,by omega,by omega,r,aM D (i:=1) rfl,?_⟩;have a9:=C.len;rw [ub,wg] at a9;refine t8 C (by decide) (Vd _) (by omega) λa2 c2 y M A b2=> ?_;rw [show (nX 0)=0 from rfl] at M A;rw [xA,X0] at M;cases M;obtain rfl:c2=(XD g c).arr:=b2;refine ⟨_,rfl,aN h.le A,_,λF=>MT _ _ F,λK=> ?_,λ_=> ?_⟩
  ·rw [ε rfl] at K;cases K
  refine ⟨_,hb,by omega,by omega,r,aM D (i:=1) rfl,by omega,C.cap,_,hb,by omega,by omega,?_⟩;have ea:nV (nV (oB a o I) (rest.length*2)) 1=(oB a o I).add (rest.length*2+1):=by rw [aI,aI,aI,Wo]
  dsimp only;rw [ea];have a7:(tZ (us++[#[U (x:Int),r.v]])).length=rest.length*2+2:=by rw [ba,cI,tT,w];rfl
  refine h.ownPut 0 rfl hb (by rw [a7];omega) λF5 h=> ?_;have Q:=RL.cutD C (n:=2) (k:=1) rfl (by decide) (by omega);rw [xA,Xy,Vu] at Q;refine Dq (fs:=(x,ks)::rest) (vs:=us++[#[U (x:Int),(Sl.cut r 2 1 r.len r.cap).v]]) hN hj a4 a5 rfl a6.p hc.here (aa lG B) ?_ ?_ (by rw [wg];exact hl) (by rw [wg];exact J) hE (λq v b0 W a8=>hq q v b0 (λy M=> ?_) a8) hf next
  ·rw [ba,cI,List.set_append_right _ _ (by omega),w,show rest.length*2+1 - rest.length*2=1 by omega] at h;rw [ba,cI];exact h
  ·rw [nK];exact a3.append (.cons ⟨_,rfl,Q⟩ .nil)
  ·rcases tS.1 M with rfl|M
   ·exact W (x,ks) (by simp)
   ·exact W y (by simp [M])
end
attribute [local go_sem] Oper.semAt_some
theorem dR {e:Ev} {w:World} {F:PH} (h:Sat e w F) (o:Obj):Sat e (w.alloc o) (F.set w.heap.size o):=h.push o
theorem pO {e:Ev} {w:World} {F:PH} {b i:Nat} {c:Γ} {t:TypeId} {v:ξ} (h:Sat e w F) (A:F b=V (Y c t (0,0))):Sat e (w.setCell ⟨b,i,I⟩ v) (F.set b (Y (c.setIfInBounds i v) t (0,0))):=by
 have g:=h.heap _ _ A;have:w.setCell ⟨b,i,I⟩ v={w with heap:=(w.setCell ⟨b,i,I⟩ v).heap}:=rfl;rw [this];refine h.modify A _ ?_ (λB r=> ?_)
 ·simp [World.setCell,YG,g]
 ·simp only [World.setCell,YG];rw [Υ (λh=>r h.symm)]
theorem fg {e:Ev} {w:World} {F G:PH} (h:Sat e w G) (r:F.le G):Sat e w F:=⟨h.os,h.tape,h.output,λb o g=>h.heap b o (r b o g),λb o g=>⟨aT r (h.frame b o g).1,(h.frame b o g).2⟩⟩
theorem eJ {e:Ev} {w w':World} {F:PH} {row:Option Nat} {B:Nat} (h:Sat e w F) (D:∀b o,F b=V o\/e.fr b=V o->b<B) (A:w.grownBy w' row) (E:∀r,row=V r->B<=r):Sat e w' F:=by
 have key:∀b o,F b=V o\/e.fr b=V o->w.heap[b]? =V o->w'.heap[b]? =V o:=λb o g C=>by refine (A.block b (XY.1 C).1 λG=> ?_).trans C;have:=E b G.symm;have:=D b o g;omega
 exact ⟨A.os.trans h.os,A.tape.trans h.tape,A.output.trans h.output,λb o g=>key b o (.inl g) (h.heap b o g),λb o g=>⟨(h.frame b o g).1,key b o (.inr g) (h.frame b o g).2⟩⟩
theorem gL {e:Ev} {w:World} {F:PH} (h:Sat e w F):∀b o,F b=V o\/e.fr b=V o->b<w.heap.size:=λb o g=>g.elim (λg=>h.lt g) λg=>(XY.1 (h.frame b o g).2).1
theorem fE {e:Ev} {w:World} {F:PH} {b i:Nat} {c:Γ} {t:TypeId} {fr:Nat×Nat} {v:ξ} (h:Sat e w F) (g:F b=V (Y c t fr)) (r:c[i]? =V v):w.cell? ⟨b,i,I⟩=V v:=h.cell ((av g).trans r)
theorem jB {e:Ev} {w:World} {F:PH} {b i:Nat} {c:Γ} {t:TypeId} (h:Sat e w F) (r:F b=V (Y c t (0,0))):w.frozen? ⟨b,i,I⟩=mD:=by have g:=h.heap _ _ r;simp [World.frozen?,g]
def dY:Int->Bool->List Nod->Int->Bool
 |at_,ex,[],to=>if ex then decide (at_=to) else decide (at_<=to)
 |at_,ex,n::l,to=> !((ex && decide (n.fr≠at_)) || decide (n.fr<at_)) && dY n.to (decide (0<=n.pr)) l to
def bU (F:PH) (n0:Nat) (t s:Sl) (i:Int) (r:Bool) (at_:Int) (ex:Bool):PH:=
 (((((F.set n0 (Y #[t.v] 43)).set (n0+1) (Y #[nW r] 4)).set (n0+2) (Y #[U at_] 3)).set (n0+3) (Y #[nW ex] 4)).set (n0+4) (Y #[s.v] 76)).set (n0+5) (Y #[U i] 3)
def Xr (F:PH) (n0:Nat) (s:Sl) (i:Int):PH:=(F.set (n0+4) (Y #[s.v] 76)).set (n0+5) (Y #[U i] 3)
theorem U8 (F:PH) (g:Nat) (s:Sl) (i:Int):Xr F g s i (g+4)=V (Y #[s.v] 76):=by unfold Xr;rw [aw _ _ (by omega),aq]
theorem U9 (F:PH) (g:Nat) (s:Sl) (i:Int):Xr F g s i (g+5)=V (Y #[U i] 3):=by unfold Xr;rw [aq]
theorem IC {F:PH} {g:Nat} {s:Sl} {i:Int} (h:∀b,g<=b->F b=I):F.le (Xr F g s i):=λb o r=>by
 have A:¬g<=b:=λw=>by rw [h b w] at r;cases r
 unfold Xr;rw [aw _ _ (by omega),aw _ _ (by omega)];exact r
theorem yH {F:PH} {w:Nat} {t s:Sl} {i:Int} (h:∀b,w<=b->F b=I) {r:Bool} {at_:Int} {ex:Bool}:(Xr F w s i).le (bU F w t s i r at_ ex):=λb o g=>by
 unfold Xr at g;unfold bU;by_cases A:b=w+5
 ·rw [A,aq] at g ⊢;exact g
 rw [aw _ _ A] at g ⊢;by_cases B:b=w+4
 ·rw [B,aq] at g ⊢;exact g
 rw [aw _ _ B] at g ⊢;have D:¬w<=b:=λC=>by rw [h b C] at g;cases g
 rw [aw _ _ (by omega),aw _ _ (by omega),aw _ _ (by omega),aw _ _ (by omega)];exact g
section
variable {F:PH} {n0:Nat} {t s:Sl} {i at_:Int} {r ex:Bool}
theorem Dr:bU F n0 t s i r at_ ex n0=V (Y #[t.v] 43):=by unfold bU;rw [aw _ _ (by omega),aw _ _ (by omega),aw _ _ (by omega),aw _ _ (by omega),aw _ _ (by omega),aq]
theorem eS:bU F n0 t s i r at_ ex (n0+1)=V (Y #[nW r] 4):=by unfold bU;rw [aw _ _ (by omega),aw _ _ (by omega),aw _ _ (by omega),aw _ _ (by omega),aq]
theorem pP:bU F n0 t s i r at_ ex (n0+2)=V (Y #[U at_] 3):=by unfold bU;rw [aw _ _ (by omega),aw _ _ (by omega),aw _ _ (by omega),aq]
theorem lW:bU F n0 t s i r at_ ex (n0+3)=V (Y #[nW ex] 4):=by unfold bU;rw [aw _ _ (by omega),aw _ _ (by omega),aq]
theorem lX (h:∀b,n0<=b->F b=I):F.le (bU F n0 t s i r at_ ex):=aa (IC h) (yH h)
theorem ID (h:∀b,n0<=b->F b=I) {b:Nat} {o:Obj} (g:bU F n0 t s i r at_ ex b=V o):b<n0+6:=by
 unfold bU at g;by_cases w:b<n0+6
 ·exact w
 ·rw [aw _ _ (by omega),aw _ _ (by omega),aw _ _ (by omega),aw _ _ (by omega),aw _ _ (by omega),aw _ _ (by omega),h b (by omega)] at g;cases g
theorem Bo (v:Int):(bU F n0 t s i r at_ ex).set (n0+2) (Y #[U v] 3)=bU F n0 t s i r v ex:=by
 funext b;unfold bU PH.set;by_cases g:b=n0+2
 ·subst g;simp
 ·simp [g]
theorem Bp (v:Bool):(bU F n0 t s i r at_ ex).set (n0+3) (Y #[nW v] 4)=bU F n0 t s i r at_ v:=by
 funext b;unfold bU PH.set;by_cases g:b=n0+3
 ·subst g;simp
 ·simp [g]
theorem rF (v:Bool):(bU F n0 t s i r at_ ex).set (n0+1) (Y #[nW v] 4)=bU F n0 t s i v at_ ex:=by
 funext b;unfold bU PH.set;by_cases g:b=n0+1
 ·subst g;simp
 ·simp [g]
end
theorem rG {at_ to:Int} {ex:Bool} {n:Nod} {l:List Nod} (g:ex=nk->n.fr=at_) (h:¬n.fr<at_):dY at_ ex (n::l) to=dY n.to (decide (0<=n.pr)) l to:=by
 rw [dY];cases ex with
 |true=>simp [g rfl]
 |false=>simp [h]
theorem yI {at_ to:Int} {ex:Bool} {n:Nod} {l:List Nod} (h:(ex=nk/\n.fr≠at_)\/n.fr<at_):dY at_ ex (n::l) to=mD:=by
 rw [dY];rcases h with ⟨g,r⟩|h
 ·simp [g,r]
 ·simp [h]
theorem rH {A B:World} (h:KeepsOthers A B):KeepsOthers A B.drew:=⟨h.size,h.same⟩
section
variable {e:Ev} {F:PH} {n0:Nat} {t s:Sl} {i at_:Int} {r ex:Bool} {W:World}
theorem jC (h:Sat e W (bU F n0 t s i r at_ ex)) (to:Int) (b:Bool) (o:Obj):Sat e ((((W.setCell ⟨n0+1+1,0,I⟩ (U to)).setCell ⟨n0+1+1+1,0,I⟩ (nW b)).alloc o).drew) (bU F n0 t s i r to b):=by have w:=pO (i:=0) (v:=U to) h pP;rw [show (#[U at_]:Γ).setIfInBounds 0 (U to)= #[U to] from rfl,Bo] at w;have g:=pO (i:=0) (v:=nW b) w lW;rw [show (#[nW ex]:Γ).setIfInBounds 0 (nW b)= #[nW b] from rfl,Bp] at g;exact (fg (dR g o) (ae o g.fresh)).drawn _
theorem yJ (h:Sat e W (bU F n0 t s i r at_ ex)) (o:Obj):Sat e ((W.setCell ⟨n0+1,0,I⟩ (nW mD)).alloc o) (bU F n0 t s i mD at_ ex):=by have g:=pO (i:=0) (v:=nW mD) h eS;rw [show (#[nW r]:Γ).setIfInBounds 0 (nW mD)= #[nW mD] from rfl,rF] at g;exact fg (dR g o) (ae o g.fresh)
theorem yK (h:Sat e W (bU F n0 t s i r at_ ex)) (b:Bool) {D B:Nat} (_:W.heap[D]? =V (.deferred (V []))) (C:B<=D) (E:∀{r at_ ex},∀b o,bU F n0 t s i r at_ ex b=V o\/e.fr b=V o->b<B):
  ((W.setCell ⟨n0+1,0,I⟩ (nW b)).drew.putObj D (.deferred I)).cell? ⟨n0+1,0,I⟩=V (nW b)/\Sat e ((W.setCell ⟨n0+1,0,I⟩ (nW b)).drew.putObj D (.deferred I)) (bU F n0 t s i b at_ ex):=by
 have g:=pO (i:=0) (v:=nW b) h eS;rw [show (#[nW r]:Γ).setIfInBounds 0 (nW b)= #[nW b] from rfl,rF] at g;have w:=(eJ (g.drawn (W.drawn+1)) (B:=B) E (grownBy_putObj' _ D (.deferred I)) λr A=>by cases A;exact C);exact ⟨fE w eS rfl,w⟩
end
def yL (T:Dtr) (x:{x:Nat // x<szN T}):Nod:=(vA T)[x.1]'x.2
section
variable {e:Ev} {F:PH} {T m:Dtr} {i:Nat} {s t:Sl}
theorem Mv (g:Fence) (n:Nat) (h:g.fn 50) (r:g.round=I) (a:Θ) (len cap:Nat) (j:Int) (w:World):
  CallsIn g n prog 50 #[tX a len cap,U j] w λe w'=>e=.returned (.func (.func 84) #[] #[pk (V ⟨w.heap.size+1,0,I⟩),pk (V ⟨w.heap.size,0,I⟩)])/\w'=(w.alloc (Y #[tX a len cap] 76)).alloc (Y #[U j] 3):=by
 refine callsIn_of_wp func50 rfl h ?_ r;simp only [ntmps50,XB,wg,W9,Nat.reduceAdd,Nat.reduceSub,Array.replicate_succ,Array.replicate_zero,List.push_toArray,Yf,zB,zK]
 gi_wp2
 go_ret
 exact ⟨rfl,rfl⟩
set_option maxRecDepth 100000 in
set_option maxHeartbeats 4000000 in
theorem qhn (w:World) (hw:Sat e w F) {bt G lt J bs os M cs:Nat} (hm:bC T i=V m) (hT:szN T<=2000000) (hs:RL F ⟨V ⟨bs,os,I⟩,M,cs⟩ (UY T)) (ht:RL F ⟨V ⟨bt,G,I⟩,lt,J⟩ (vA T)):
  CallsIn Fence.wide 3 prog 77 #[tX (V ⟨bt,G,I⟩) lt J,tX (V ⟨bs,os,I⟩) M cs,U (i:Int)] w λen w'=>en=.returned (nW (dY m.root.fr nk (m.kids.map Dtr.root) m.root.to))/\Sat e w' F:=by
 refine callsIn_of_wp_marks func77 rfl trivial ?_ rfl;simp only [ntmps77,XB,wg,W9,Nat.reduceAdd,Nat.reduceSub,Array.replicate_succ,Array.replicate_zero,List.push_toArray,Yf,zB,zK];have a4:=d6 hm;have b2:i<lt:=by have:=ht.len;have:lt=szN T:=this;omega
 have hn:=gR hm;obtain ⟨a0,c0,g1,g2,g3⟩:=ht.get (by decide) hn;cases g1;obtain rfl:c0=m.root.arr:=g3;have b0:w.cell? ⟨bt,G+i*4+2,I⟩=V (U m.root.fr):=hw.cell (by have:=aM g2 (i:=2) rfl;rwa [aI,aI] at this);have b4:bt<w.heap.size:=by obtain ⟨o,ho,_⟩:=cells_of_cell b0;exact (XY.1 ho).1
 gi_wp2
 refine ⟨trivial,(Mv Fence.wide 2 trivial rfl _ _ _ _ _).mono ?_⟩;rintro en w' ⟨rfl,rfl⟩
 gi_wp2
 have s6:=dR (dR (dR (dR (dR (dR hw (Y #[tX (V ⟨bt,G,I⟩) lt J] 43)) (Y #[nW mD] 4)) (Y #[U m.root.fr] 3)) (Y #[nW nk] 4)) (Y #[tX (V ⟨bs,os,I⟩) M cs] 76)) (Y #[U (i:Int)] 3);simp only [World.size_alloc] at s6;have s6:Sat e _ (bU F w.heap.size ⟨V ⟨bt,G,I⟩,lt,J⟩ ⟨V ⟨bs,os,I⟩,M,cs⟩ i mD m.root.fr nk):=s6;have C:∀b,w.heap.size<=b->F b=I:=λb Q=>by
  cases e1:F b with
  |none=>rfl
  |some o=>have:=hw.lt e1;omega
 generalize a8:((((((w.alloc (Y #[tX (V ⟨bt,G,I⟩) lt J] 43)).alloc (Y #[nW mD] 4)).alloc (Y #[U m.root.fr] 3)).alloc (Y #[nW nk] 4)).alloc (Y #[tX (V ⟨bs,os,I⟩) M cs] 76)).alloc (Y #[U (i:Int)] 3))=W0 at s6 ⊢;have b6:W0.heap.size=w.heap.size+6:=by rw [<- a8];simp only [World.size_alloc]
 have P:∀{r at_ ex},∀b o,bU F w.heap.size ⟨V ⟨bt,G,I⟩,lt,J⟩ ⟨V ⟨bs,os,I⟩,M,cs⟩ i r at_ ex b=V o\/e.fr b=V o->b<W0.heap.size:=λb o Q=>Q.elim (λQ=>by have:=ID C Q;omega) λQ=>gL s6 b o (.inr Q);have hB:=gL s6;have R:∀{r at_ ex},(Xr F w.heap.size ⟨V ⟨bs,os,I⟩,M,cs⟩ i).le (bU F w.heap.size ⟨V ⟨bt,G,I⟩,lt,J⟩ ⟨V ⟨bs,os,I⟩,M,cs⟩ i r at_ ex):=yH C;have a7:F.le (Xr F w.heap.size ⟨V ⟨bs,os,I⟩,M,cs⟩ i):=IC C;generalize b5:w.heap.size=E at*;have O:∀k,k<=m.kids.length->(gK (λk=>if h:bQ i m.kids k<szN T then (⟨bQ i m.kids k,h⟩:{x:Nat // x<szN T}) else ⟨i,a4⟩) k).map (yL T)=(m.kids.take k).map Dtr.root:=λk=>by
  induction k with
  |zero=>intro _;rfl
  |succ k ih=>intro hk;have a2:k<m.kids.length:=hk;have h1:=pN (i:=i) a2;have h2:=sub_le hm;rw [cn] at h2;have h3:=gR (gi hm (N5 a2));rw [nL,yW,ih (by omega),Wx,N5 a2,yW,dif_pos (by omega)];congr 1;unfold yL;rw [List.map_singleton];simp only [Option.toList_some,xA,List.map_nil];congr 1;exact (N6.1 h3).2
 refine wpIn_rangeFunc_ownF (α:={x:Nat // x<szN T}) rfl (by decide) (gf:=84) (lb:= #[pk (V ⟨E+1+1+1+1+1,0,I⟩),pk (V ⟨E+1+1+1+1,0,I⟩)]) rfl trivial (enters_of func84 (by kernel_rfl) rfl)
  (rE W0 (fg s6 R) hm hT (U8 F E _ i) (U9 F E _ i) (hs.le a7) (λx=>x.1) (λk=>if h:bQ i m.kids k<szN T then ⟨bQ i m.kids k,h⟩ else ⟨i,a4⟩) (λk hk=> ?hf) (by decide))
  (λh k s=>k (h s)) (λW r o o' hr ho h1 h2 g=>eJ g (λb o Q=>hB b o (Q.elim (λQ=> .inl (R b o Q)) .inr)) (grownBy_putObj' W r o') λr' X=>by cases X;exact hr) (Below.refl _ _) (λ_=>rfl)
  (λL W=>∃at_ ex,Sat e W (bU F E ⟨V ⟨bt,G,I⟩,lt,J⟩ ⟨V ⟨bs,os,I⟩,M,cs⟩ i mD at_ ex)/\∀l,dY m.root.fr nk (L.map (yL T)++l) m.root.to=dY at_ ex l m.root.to)
  (λc L W=>c=.ret/\(∃at_ ex,Sat e W (bU F E ⟨V ⟨bt,G,I⟩,lt,J⟩ ⟨V ⟨bs,os,I⟩,M,cs⟩ i mD at_ ex))/\∀l,dY m.root.fr nk (L.map (yL T)++l) m.root.to=mD)
  ?hI ?hIx ⟨_,_,s6,λl=>rfl⟩
  (λx=>{tmps:= #[tX (V ⟨bt,G,I⟩) lt J,tX (V ⟨bs,os,I⟩) M cs,U (i:Int),pk (V ⟨E,0,I⟩),undef,undef,pk (V ⟨E+1,0,I⟩),pk (V ⟨E+1+1,0,I⟩),pk (V ⟨E+1+1+1,0,I⟩),U (x.1:Int),undef,tX (V ⟨bt,G,I⟩) lt J,U (i:Int),pk (V ⟨bt,G+i*4,I⟩),pk (V ⟨bt,G+i*4+2,I⟩),U m.root.fr,tX (V ⟨bs,os,I⟩) M cs,U (i:Int),.func (.func 84) #[] #[pk (V ⟨E+1+1+1+1+1,0,I⟩),pk (V ⟨E+1+1+1+1,0,I⟩)],U (x.1:Int),undef,undef,undef,undef,undef,undef,undef,undef,undef,undef,undef,undef,undef,undef,undef,undef,undef,undef,undef,undef,undef,undef,undef,undef,undef,undef,undef,undef,undef,undef,undef,undef,undef,undef,undef,undef,undef],defers:=[]}) ?assign ?body ?done ?stop
 case assign=>
  intro l x W K hK
  gi_wp2
  exact hK
 case hf=>
  have h1:=pN (i:=i) hk;have h2:=sub_le hm;rw [cn] at h2;rw [dif_pos (by omega)]
 case hI=>
  rintro L A B row ⟨at_,ex,g,hc⟩ hg hr;exact ⟨at_,ex,eJ g P hg λr X=>(hr r X).1,hc⟩
 case hIx=>
  rintro c L A B row ⟨h1,⟨at_,ex,g⟩,hc⟩ hg hr;exact ⟨h1,⟨at_,ex,eJ g P hg λr X=>(hr r X).1⟩,hc⟩
 case body=>
  rintro l L x W ⟨at_,ex,g,hc⟩ b1;have b3:=x.2;have a3:x.1<lt:=by have:=ht.len;have:lt=szN T:=this;omega
  have a9:(vA T)[x.1]? =V (yL T x):=N5 x.2;have H:∀l,dY m.root.fr nk ((L++[x]).map (yL T)++l) m.root.to=dY at_ ex (yL T x::l) m.root.to:=λl=>by rw [yW,xZ];exact hc _
  generalize yL T x=nd at*;obtain ⟨a1,c1,g1,g2,g3⟩:=ht.get (by decide) a9;cases g1;obtain rfl:c1=nd.arr:=g3;have N:=lX (t:=⟨V ⟨bt,G,I⟩,lt,J⟩) (s:=⟨V ⟨bs,os,I⟩,M,cs⟩) (i:=(i:Int)) (r:=mD) (at_:=at_) (ex:=ex) C;have d0:W.cell? ⟨bt,G+x.1*4,I⟩=V (U nd.pr):=g.cell (aK N (by have:=aM g2 (i:=0) rfl;rwa [aI,aI] at this));have d1:W.cell? ⟨bt,G+x.1*4+1,I⟩=V (U nd.tk):=g.cell (aK N (by have:=aM g2 (i:=1) rfl;rwa [aI,aI] at this));have d2:W.cell? ⟨bt,G+x.1*4+2,I⟩=V (U nd.fr):=g.cell (aK N (by have:=aM g2 (i:=2) rfl;rwa [aI,aI] at this));have d3:W.cell? ⟨bt,G+x.1*4+3,I⟩=V (U nd.to):=g.cell (aK N (by have:=aM g2 (i:=3) rfl;rwa [aI,aI] at this));have J:W.cell? ⟨E,0,I⟩=V (tX (V ⟨bt,G,I⟩) lt J):=fE g Dr rfl;have ca:W.cell? ⟨E+1+1,0,I⟩=V (U at_):=fE g pP rfl;have ce:W.cell? ⟨E+1+1+1,0,I⟩=V (nW ex):=fE g lW rfl;have cr:W.cell? ⟨E+1,0,I⟩=V (nW mD):=fE g eS rfl;have fa:W.frozen? ⟨E+1+1,0,I⟩=mD:=jB g pP;have fe:W.frozen? ⟨E+1+1+1,0,I⟩=mD:=jB g lW;have fr:W.frozen? ⟨E+1,0,I⟩=mD:=jB g eS;have hx:Nat.lt x.1 lt:=a3;have z3:E+1+1+1<W.heap.size:=g.lt lW;have z2:E+1+1<W.heap.size:=by omega
  have z1:E+1<W.heap.size:=by omega
  have z0:E<W.heap.size:=by omega
  obtain ⟨x,a6⟩:=x;dsimp only at*;cases ex with
  |true=>
   gi_wp2
   ·gi_region
    all_goals exact ⟨rH (((KeepsOthers.setCell _ _ _).trans (KeepsOthers.setCell _ _ _)).trans (KeepsOthers.alloc _ _)),λ_=>fg (jC g _ _ _) R,_,_,jC g _ _ _,λl=>by rw [H];exact rG (λ_=>by assumption) (by omega)⟩
   ·exact ⟨(KeepsOthers.setCell _ _ _).trans (KeepsOthers.alloc _ _),rfl,⟨_,_,yJ g _⟩,λl=>by rw [H];exact yI (.inl ⟨rfl,by assumption⟩)⟩
  |false=>
   gi_wp2
   ·exact ⟨(KeepsOthers.setCell _ _ _).trans (KeepsOthers.alloc _ _),rfl,⟨_,_,yJ g _⟩,λl=>by rw [H];exact yI (.inr (by assumption))⟩
   ·gi_region
    all_goals exact ⟨rH (((KeepsOthers.setCell _ _ _).trans (KeepsOthers.setCell _ _ _)).trans (KeepsOthers.alloc _ _)),λ_=>fg (jC g _ _ _) R,_,_,jC g _ _ _,λl=>by rw [H];exact rG (λX=>by cases X) (by omega)⟩
 case done=>
  rintro D xs W hD a6 ⟨at_,ex,g,hc⟩ hK;have H:=hc [];rw [yt,a6,O _ (ru _),wB] at H;have N:=lX (t:=⟨V ⟨bt,G,I⟩,lt,J⟩) (s:=⟨V ⟨bs,os,I⟩,M,cs⟩) (i:=(i:Int)) (r:=mD) (at_:=at_) (ex:=ex) C;have d3:W.cell? ⟨bt,G+i*4+3,I⟩=V (U m.root.to):=g.cell (aK N (by have:=aM g2 (i:=3) rfl;rwa [aI,aI] at this));have J:W.cell? ⟨E,0,I⟩=V (tX (V ⟨bt,G,I⟩) lt J):=fE g Dr rfl;have ca:W.cell? ⟨E+1+1,0,I⟩=V (U at_):=fE g pP rfl;have ce:W.cell? ⟨E+1+1+1,0,I⟩=V (nW ex):=fE g lW rfl;have cr:W.cell? ⟨E+1,0,I⟩=V (nW mD):=fE g eS rfl;have fr:W.frozen? ⟨E+1,0,I⟩=mD:=jB g eS;cases ex with
  |true=>
   gi_wp2
   gi_region
   all_goals gi_wp2
   all_goals refine ⟨by simp,.inl ⟨_,_,rfl,run_takeDeferred ((KeepsOthers.setCell W _ _).same D _ hK rfl),?_⟩⟩
   all_goals obtain ⟨e1,e2⟩:=yK g (at_==m.root.to) hK hD P
   all_goals refine ⟨nW (at_==m.root.to),?_,by rw [H];rfl,fg e2 (lX C)⟩
   all_goals simp [results,asAddr,f77]
   all_goals exact jV e2 underlying4 rfl (ld eS rfl)
  |false=>
   gi_wp2
   gi_region
   all_goals gi_wp2
   all_goals refine ⟨by simp,.inl ⟨_,_,rfl,run_takeDeferred ((KeepsOthers.setCell W _ _).same D _ hK rfl),?_⟩⟩
   all_goals obtain ⟨e1,e2⟩:=yK g (decide (at_<=m.root.to)) hK hD P
   all_goals refine ⟨nW (decide (at_<=m.root.to)),?_,by rw [H];rfl,fg e2 (lX C)⟩
   all_goals simp [results,asAddr,f77]
   all_goals exact jV e2 underlying4 rfl (ld eS rfl)
 case stop=>
  rintro D c L W hD ⟨k,hk,a5⟩ ⟨rfl,⟨at_,ex,g⟩,hc⟩ hK;have H:=hc ((m.kids.drop k).map Dtr.root);rw [a5,O k hk,<- yW,W5] at H
  gi_wp2
  refine ⟨by simp,.inl ⟨_,_,rfl,run_takeDeferred hK,?_⟩⟩;have e2:=eJ g P (grownBy_putObj' W D (.deferred I)) λr X=>by cases X;exact hD
  refine ⟨.bool mD,?_,by rw [H],fg e2 (lX C)⟩;simp [results,asAddr,f77];exact jV e2 underlying4 rfl (ld eS rfl)
theorem qg6 (g:bC T i=V m) (K:szN T<=2000000) (C:RL F s (UY T)) (B:RL F t (vA T)):
  ν 77 #[t.v,s.v,U (i:Int)] F λr E=>r=nW (dY m.root.fr nk (m.kids.map Dtr.root) m.root.to)/\E=F:=λe w J=>by
 obtain ⟨b,o,h,_⟩:=lV C (wb g);have G:0<t.len:=by
  have:=B.len;have:=d6 g;have:t.len=szN T:=by assumption
  omega
 obtain ⟨W,L,A,_⟩:∃b o,t.qa5=V ⟨b,o,I⟩/\True:=by obtain ⟨vs,_,D⟩:=B;obtain ⟨b,o,H,_⟩:=D.cells G;exact ⟨b,o,H,trivial⟩
 obtain ⟨N,O,P⟩:=s;obtain ⟨R,Q,M⟩:=t;cases h;cases A;exact ((callsIn_wide (n:=3)).1 (qhn w J g K C B)).mono λX w' ⟨h,A⟩=>⟨_,F,h,A,rfl,rfl⟩
end
inductive Ltr where
 |lf (s:ο)
 |nd (pr:Int) (ks:List Ltr)
def Zw (ks:List Ltr) (k:Nat):ο:=match ks[k - 1]? with
 |some (.lf s)=>s
 |_=> .empty
section
variable (sp:Int->Spc)
def Va (pr:Int) (ks:List Ltr):List tQ:=if 0<(sp pr).decl then [(Zw ks (sp pr).decl,(sp pr).kind)] else []
mutual
def Yu:Ltr->List tQ
 | .lf _=>[]
 | .nd pr ks=>(if (sp pr).opens=nk then [] else IE ks)++Va sp pr ks
def IE:List Ltr->List tQ
 |[]=>[]
 |n::l=>Yu n++IE l
end
def ZQ (seen:List tQ) (pr:Int) (ks:List Ltr):Bool:=if (sp pr).uses=0 then nk else Xu (sp pr).allow (eF (Zw ks (sp pr).uses) seen)
mutual
def WW (seen:List tQ):Ltr->List (List tQ×Bool)
 | .lf _=>[(seen,nk)]
 | .nd pr ks=>(seen,ZQ sp seen pr ks)::X7 seen ks
def X7 (seen:List tQ):List Ltr->List (List tQ×Bool)
 |[]=>[]
 |n::l=>WW seen n++X7 (seen++Yu sp n) l
end
end
section
variable (tx:Int->Int->ο)
mutual
def UZ:Dtr->Ltr
 | .lf _ fr to=> .lf (tx fr to)
 | .nd pr _ _ ks=> .nd pr (io ks)
def io:List Dtr->List Ltr
 |[]=>[]
 |n::l=>UZ n::io l
end
theorem yM:∀l:List Dtr,io tx l=l.map (UZ tx)
 |[]=>by unfold io;rfl
 |n::l=>by rw [io,yM l,xA]
end
section
variable {sp:Int->Spc} {tx:Int->Int->ο}
def Bq:Dtr->Prop
 | .lf _ _ _=>True
 | .nd _ _ _ _=>False
def ZF (sp:Int->Spc) (pr:Int) (ks:List Dtr):Prop:=(0<(sp pr).decl->∃c,ks[(sp pr).decl - 1]? =V c/\Bq c)/\(0<(sp pr).uses->∃c,ks[(sp pr).uses - 1]? =V c/\Bq c)
def LfT (sp:Int->Spc) (n:Dtr):Prop:=∀m∈xx n,∀pr fr to ks,m=.nd pr fr to ks->ZF sp pr ks
theorem R1 {n:Dtr} {ks:List Dtr} (h:n∈ks):∀{m:Dtr},m∈xx n->m∈yd ks:=by
 induction ks with
 |nil=>cases h
 |cons k l ih=>
  intro m g;rw [yd,vj];rcases tS.1 h with rfl|h
  ·exact .inl g
  ·exact .inr (ih h g)
theorem LfT.kid {pr fr to:Int} {ks:List Dtr} (h:LfT sp (.nd pr fr to ks)) {k:Dtr} (r:k∈ks):LfT sp k:=λm g=>h m (by rw [xx];exact Vz _ (R1 r g))
theorem LfT.here {pr fr to:Int} {ks:List Dtr} (h:LfT sp (.nd pr fr to ks)):ZF sp pr ks:=h _ (by rw [xx];exact XA) pr fr to ks rfl
theorem Ds {ks:List Dtr} {q:Nat} (h:∃c,ks[q - 1]? =V c/\Bq c):Zw (io tx ks) q=Wt tx ks q:=by
 obtain ⟨c,g,r⟩:=h;unfold Zw Wt;rw [yM,yw,g];cases c with
 |lf A w to=>rw [VD,UZ];rfl
 |nd=>cases r
theorem Dt:∀(l:List Dtr),(∀k∈l,Yu sp (UZ tx k)=xG sp tx k)->IE sp (io tx l)=yo sp tx l
 |[],_=>by unfold io IE yo;rfl
 |n::l,h=>by rw [io,IE,yo,h n (by simp),Dt l λk g=>h k (by simp [g])]
theorem Bt:∀n:Dtr,LfT sp n->Yu sp (UZ tx n)=xG sp tx n:=Dtr.ind (λ_ _ _ _=>by unfold UZ Yu xG;rfl) λw A to r ih h=>by
 rw [UZ,Yu,xG,Dt r λk g=>ih k g (h.kid g)];congr 1;unfold Va nU;by_cases hd:0<(sp w).decl
 ·rw [Χ hd,Χ hd,Ds (h.here.1 hd)]
 ·rw [Υ hd,Υ hd]
theorem R3 {seen:List tQ} {pr fr to:Int} {ks:List Dtr} (h:ZF sp pr ks):ZQ sp seen pr (io tx ks)=XE sp tx seen (.nd pr fr to ks):=by
 show _=if (sp pr).uses=0 then nk else Xu (sp pr).allow (eF (Wt tx ks (sp pr).uses) seen)
 unfold ZQ;by_cases g:(sp pr).uses=0
 ·rw [Χ g,Χ g]
 ·rw [Υ g,Υ g,Ds (h.2 (by omega))]
theorem Du:∀(l:List Dtr),(∀k∈l,LfT sp k)->(∀k∈l,∀seen,(WW sp seen (UZ tx k)).map Prod.fst=xu sp tx seen k)->∀seen,(X7 sp seen (io tx l)).map Prod.fst=yX sp tx seen l
 |[],_,_,seen=>by unfold io X7 yX;rfl
 |n::l,hl,h,seen=>by rw [io,X7,yX,yW,h n (by simp),Bt n (hl n (by simp)),Du l (λk g=>hl k (by simp [g])) λk g=>h k (by simp [g])]
theorem R7:∀n:Dtr,LfT sp n->∀seen,(WW sp seen (UZ tx n)).map Prod.fst=xu sp tx seen n:=Dtr.ind (λ_ _ _ _ seen=>by unfold UZ WW xu;rfl) λw A to r ih h seen=>by rw [UZ,WW,jh,xA];show seen::_=seen::yX sp tx seen r;rw [Du r (λk g=>h.kid g) λk g=>ih k g (h.kid g)]
end
inductive Ttr where
 |lf (tk:Int)
 |nd (pr:Int) (ks:List Ttr)
theorem Ttr.ind {P:Ttr->Prop} (r:∀s,P (.lf s)) (g:∀pr ks,(∀k∈ks,P k)->P (.nd pr ks)):∀n,P n:=λn=>
 Ttr.rec (motive_1:=P) (motive_2:=λks=>∀k∈ks,P k) r (λpr ks ih=>g pr ks ih) (λ_ h=>(by cases h)) (λn l g r k w=>by
  rcases tS.1 w with rfl|w
  ·exact g
  ·exact r k w) n
mutual
def yC:Ttr->Nat
 | .lf _=>1
 | .nd _ ks=>zJ ks
def zJ:List Ttr->Nat
 |[]=>0
 |n::l=>yC n+zJ l
end
section
variable (W:Nat->Int×Int) (gp:Nat->Int)
mutual
def yb (a:Nat):Ttr->Dtr
 | .lf tk=> .lf tk (W a).1 (W a).2
 | .nd pr ks=> .nd pr (gp a) (gp (a+zJ ks)) (Am a ks)
def Am (a:Nat):List Ttr->List Dtr
 |[]=>[]
 |n::l=>yb a n::Am (a+yC n) l
end
def Yv (m:Nat):Prop:=∀j,j<m->(W j).1=gp j/\(W j).1<(W j).2/\(W j).2<=gp (j+1)
def Y0:Ttr->Prop
 | .lf _=>True
 | .nd pr _=>0<=pr
theorem Mw {m a:Nat} {n:Ttr} (C:Yv W gp m) (A:a+yC n<=m) (w:Y0 n):(yb W gp a n).root.fr=gp a/\(if 0<=(yb W gp a n).root.pr then (yb W gp a n).root.to=gp (a+yC n) else (yb W gp a n).root.to<=gp (a+yC n)):=by
 cases n with
 |lf D=>
  unfold yC at A ⊢;obtain ⟨r,_,B⟩:=C a (by omega);unfold yb;refine ⟨r,?_⟩;show if (0:Int)<=-1 then (W a).2=gp (a+1) else (W a).2<=gp (a+1)
  rw [Υ (by decide)];exact B
 |nd h g=>
  unfold yb yC;refine ⟨rfl,?_⟩;show if 0<=h then gp (a+zJ g)=gp (a+zJ g) else gp (a+zJ g)<=gp (a+zJ g)
  rw [Χ (show 0<=h from w)]
theorem Dv {m:Nat} (r:Yv W gp m):∀(l:List Ttr) (a:Nat) (at_:Int) (ex:Bool),a+zJ l<=m->(∀n∈l,Y0 n)->(ex=nk->at_=gp a)->at_<=gp a->ml at_ ex ((Am W gp a l).map Dtr.root) (gp (a+zJ l))
 |[],a,at_,ex,_,_,h1,h2=>by
  unfold Am zJ;rw [List.map_nil];unfold ml;split
  ·rename_i h;exact h1 h
  ·exact h2
 |n::l,a,at_,ex,w,hp,h1,h2=>by
  have w:a+(yC n+zJ l)<=m:=w;obtain ⟨B,g⟩:=Mw W gp r (a:=a) (n:=n) (by omega) (hp n (by simp));rw [Am,xA,show zJ (n::l)=yC n+zJ l from rfl,<- Wo];unfold ml;refine ⟨?_,Dv r l (a+yC n) _ _ (by omega) (λk C=>hp k (by simp [C])) (λh=> ?_) ?_⟩
  ·rw [B];rintro (⟨A,D⟩|A)
   ·exact D (h1 A).symm
   ·omega
  ·rw [Χ (ζ h)] at g;exact g
  ·split at g
   ·rw [g];exact Vd _
   ·exact g
theorem FY {m a:Nat} {pr:Int} {ks:List Ttr} (h:Yv W gp m) (g:a+zJ ks<=m) (r:∀n∈ks,Y0 n):ml (gp a) nk ((Am W gp a ks).map Dtr.root) (gp (a+zJ ks)):=
 Dv W gp h ks a (gp a) nk g r (λ_=>rfl) (Vd _)
end
mutual
def w6 (a:Nat):Ttr->List (Ttr×Nat)
 | .lf tk=>[(.lf tk,a)]
 | .nd pr ks=>(.nd pr ks,a)::yP a ks
def yP (a:Nat):List Ttr->List (Ttr×Nat)
 |[]=>[]
 |n::l=>w6 a n++yP (a+yC n) l
end
def Z1 (n:Ttr):Nat:=match n with
 | .lf _=>1
 | .nd _ _=>0
def VO (l:List (Ttr×Nat)):Nat:=(l.map λx=>Z1 x.1).sum
theorem Mx:VO []=0:=rfl
theorem rI (x:Ttr×Nat) (l:List (Ttr×Nat)):VO (x::l)=Z1 x.1+VO l:=by unfold VO;rw [xA,List.sum_cons]
theorem ip (l m:List (Ttr×Nat)):VO (l++m)=VO l+VO m:=by unfold VO;rw [yW,List.sum_append]
theorem Dw:∀(l:List Ttr),(∀k∈l,∀a,VO (w6 a k)=yC k)->∀a,VO (yP a l)=zJ l
 |[],_,a=>by unfold yP zJ;rfl
 |n::l,h,a=>by rw [yP,ip,h n (by simp),Dw l (λk g=>h k (by simp [g]))];rfl
theorem wc:∀(n:Ttr) (a:Nat),VO (w6 a n)=yC n:=Ttr.ind (λh a=>by unfold w6 yC;rfl) λr g ih a=>by rw [w6,rI,Dw g ih];show 0+zJ g=zJ g;omega
theorem Dx:∀(l:List Ttr),(∀k∈l,∀(a i:Nat) (x:Ttr×Nat),(w6 a k)[i]? =V x->x.2=a+VO ((w6 a k).take i))->∀(a i:Nat) (x:Ttr×Nat),(yP a l)[i]? =V x->x.2=a+VO ((yP a l).take i)
 |[],_,a,i,x,h=>by rw [yP] at h;simp at h
 |n::l,hk,a,i,x,h=>by
  rw [yP] at h ⊢;by_cases hi:i<(w6 a n).length
  ·rw [zM hi] at h;rw [Xi (by omega)];exact hk n (by simp) a i x h
  ·rw [Ua (by omega)] at h;rw [List.take_append,zh (by omega),ip,wc];have:=Dx l (λk h=>hk k (by simp [h])) (a+yC n) (i - (w6 a n).length) x h;omega
theorem R8:∀(n:Ttr) (a i:Nat) (x:Ttr×Nat),(w6 a n)[i]? =V x->x.2=a+VO ((w6 a n).take i):=Ttr.ind (λr a i x h=>by
  rw [w6] at h;cases i with
  |zero=>cases h;rfl
  |succ i=>simp at h) λw g ih a i x h=>by
 cases i with
 |zero=>rw [w6] at h;cases h;rfl
 |succ i=>rw [w6,Vy] at h;rw [w6,XU,rI,Dx g ih a i x h];show a+VO ((yP a g).take i)=a+(0+VO ((yP a g).take i));omega
section
variable (W:Nat->Int×Int) (gp:Nat->Int)
theorem IF:∀(l:List Ttr),(∀k∈l,∀a,vA (yb W gp a k)=(w6 a k).map λx=>(yb W gp x.2 x.1).root)->∀a,VH (Am W gp a l)=(yP a l).map λx=>(yb W gp x.2 x.1).root
 |[],_,a=>by unfold Am VH yP;rfl
 |n::l,h,a=>by rw [Am,VH,yP,yW,h n (by simp),IF l (λk g=>h k (by simp [g]))]
theorem IG:∀(n:Ttr) (a:Nat),vA (yb W gp a n)=(w6 a n).map λx=>(yb W gp x.2 x.1).root:=Ttr.ind (λr a=>by unfold yb vA w6;rfl) λh g ih a=>by
 rw [w6,xA,kZ];have e:yb W gp a (.nd h g)=.nd h (gp a) (gp (a+zJ g)) (Am W gp a g):=by rw [yb]
 rw [e];show _::VH (Am W gp a g)=_;rw [IF W gp g ih]
end
structure Tmn where
 pr:Int
 tk:Int
 tx:ο
 rm:List ο
abbrev Tmn.arr (x:Tmn) (r:Sl):Γ:= #[U x.pr,U x.tk,.string x.tx,r.v]
instance:Mem Tmn where
 n:=4
 rep F x c:=∃r,c=x.arr r/\RL F r x.rm
 len h:=by obtain ⟨r,rfl,_⟩:=h;rfl
 le hl h:=by obtain ⟨r,h1,h2⟩:=h;exact ⟨r,h1,h2.le hl⟩
 st h:=by obtain ⟨r,rfl,_⟩:=h;simp [ak,nI]
def kS:Ttr->Int×Int
 | .lf tk=>(-1,tk)
 | .nd pr _=>(pr,-1)
def Ttr.kids:Ttr->List Ttr
 | .lf _=>[]
 | .nd _ ks=>ks
theorem rJ (a:Nat) (m:Ttr):w6 a m=(m,a)::yP a m.kids:=by
 cases m with
 |lf=>unfold w6 Ttr.kids yP;rfl
 |nd=>unfold w6 Ttr.kids;rfl
def yT (m:Ttr):Nat:=(w6 0 m).length
def yZ (l:List Ttr):Nat:=(yP 0 l).length
theorem lY:∀(l:List Ttr),(∀k∈l,∀a b,(w6 a k).map (λx=>x.1)=(w6 b k).map (λx=>x.1))->∀a b,(yP a l).map (λx=>x.1)=(yP b l).map (λx=>x.1)
 |[],_,a,b=>by unfold yP;rfl
 |n::l,h,a,b=>by rw [yP,yP,yW,yW,h n (by simp) a b,lY l (λk g=>h k (by simp [g])) _ (b+yC n)]
theorem pQ:∀(m:Ttr) (a b:Nat),(w6 a m).map (λx=>x.1)=(w6 b m).map (λx=>x.1):=Ttr.ind (λh a b=>by unfold w6;rfl) λr g ih a b=>by rw [w6,w6,xA,xA,lY g ih a b]
theorem Dy (a:Nat) (m:Ttr):(w6 a m).length=yT m:=by have:=congrArg List.length (pQ m a 0);rwa [ub,ub] at this
theorem Dz (a:Nat) (l:List Ttr):(yP a l).length=yZ l:=by have:=congrArg List.length (lY l (λk _=>pQ k) a 0);rwa [ub,ub] at this
theorem kT (m:Ttr):yT m=1+yZ m.kids:=by unfold yT;rw [rJ,wg,Dz];omega
theorem fF:yZ []=0:=by unfold yZ;rw [yP];rfl
theorem ja (m:Ttr) (l:List Ttr):yZ (m::l)=yT m+yZ l:=by unfold yZ;rw [yP,tT,Dy,Dz];rfl
theorem kU:∀(l r:List Ttr),yZ (l++r)=yZ l+yZ r
 |[],r=>by rw [zB,fF,x9]
 |m::l,r=>by rw [zK,ja,ja,kU l r,Wo]
def UQ (m:Ttr):List (Int×Int):=(w6 0 m).map λx=>kS x.1
def V4 (l:List Ttr):List (Int×Int):=(yP 0 l).map λx=>kS x.1
theorem we (a:Nat) (m:Ttr):(w6 a m).map (λx=>kS x.1)=UQ m:=by have:=congrArg (List.map kS) (pQ m a 0);rw [X3,X3] at this;exact this
theorem IH (a:Nat) (l:List Ttr):(yP a l).map (λx=>kS x.1)=V4 l:=by have:=congrArg (List.map kS) (lY l (λk _=>pQ k) a 0);rw [X3,X3] at this;exact this
theorem rK (m:Ttr):UQ m=kS m::V4 m.kids:=by unfold UQ;rw [rJ,xA,IH]
theorem jD:V4 []=[]:=by unfold V4;rw [yP];rfl
theorem gM (m:Ttr) (l:List Ttr):V4 (m::l)=UQ m++V4 l:=by unfold V4;rw [yP,yW,IH];rfl
theorem rL:∀(l r:List Ttr),V4 (l++r)=V4 l++V4 r
 |[],r=>by rw [zB,jD,zB]
 |m::l,r=>by rw [zK,gM,gM,rL l r,xZ]
theorem eT (m:Ttr):(UQ m).length=yT m:=by unfold UQ yT;rw [ub]
theorem My (l:List Ttr):(V4 l).length=yZ l:=by unfold V4 yZ;rw [ub]
mutual
def wi (g:Gr) (c:Cf):Sy->Ttr->Prop
 |s,.lf tk=>s=⟨nk,tk⟩/\0<=tk/\tk<g.qa2.length/\(eI g tk).ev c=nk
 |s,.nd pr ks=>∃p,VI g pr=V p/\s=⟨mD,p.left⟩/\(vi p.cond).ev c=nk/\TrL g c p.right ks
def TrL (g:Gr) (c:Cf):List Sy->List Ttr->Prop
 |[],[]=>True
 |s::r,k::ks=>wi g c s k/\TrL g c r ks
 |[],_::_=>False
 |_::_,[]=>False
end
theorem TrL.snoc {g:Gr} {c:Cf} {s:Sy} {k:Ttr}:∀{r:List Sy} {ks:List Ttr},TrL g c r ks->wi g c s k->TrL g c (r++[s]) (ks++[k])
 |[],[],_,h=>by show TrL g c [s] [k];unfold TrL;exact ⟨h,by unfold TrL;trivial⟩
 |x::r,y::ks,h,h2=>by rw [zK,zK];unfold TrL at h ⊢;exact ⟨h.1,TrL.snoc h.2 h2⟩
 |[],_::_,h,_=>by unfold TrL at h;exact h.elim
 |_::_,[],h,_=>by unfold TrL at h;exact h.elim
theorem TrL.nil {g:Gr} {c:Cf}:TrL g c [] []:=by unfold TrL;trivial
def qgi (g:Gr) (c:Cf):Dtr->Prop
 | .lf tk _ _=>(eI g tk).ev c=nk
 | .nd pr _ _ _=>∃p,VI g pr=V p/\(vi p.cond).ev c=nk
section
variable {g:Gr} {c:Cf} {W:Nat->Int×Int} {gp:Nat->Int}
theorem R9 {s:Sy} {m:Ttr} (h:wi g c s m) (a:Nat):XD g (yb W gp a m)=s:=by
 cases m with
 |lf B=>unfold wi at h;unfold yb;rw [h.1];rfl
 |nd C A=>unfold wi at h;obtain ⟨p,r,w,_⟩:=h;unfold yb;show (⟨mD,_⟩:Sy)=s;rw [r,w];rfl
theorem DA:∀{r:List Sy} {l:List Ttr},TrL g c r l->∀a,(Am W gp a l).map (XD g)=r
 |[],[],_,a=>by unfold Am;rfl
 |s::r,k::ks,h,a=>by unfold TrL at h;rw [Am,xA,R9 h.1,DA h.2]
 |[],_::_,h,_=>by unfold TrL at h;exact h.elim
 |_::_,[],h,_=>by unfold TrL at h;exact h.elim
theorem rM {n:Nat} (r:Yv W gp n):∀{a b:Nat},a<=b->b<=n->gp a<=gp b:=λ{a b} h=>by
 induction h with
 |refl=>exact λ_=>Vd _
 |step h ih=>intro B;rename_i m;have w:=r m (by omega);have A:=ih (by omega);show gp a<=gp (m+1);omega
def qgj (m:Dtr):Prop:=match m with
 | .lf _ _ _=>True
 | .nd _ fr to ks=>ml fr nk (ks.map Dtr.root) to
theorem II {s:Sy} {m:Ttr} (h:wi g c s m):Y0 m:=by
 cases m with
 |lf=>trivial
 |nd w A=>unfold wi at h;obtain ⟨p,r,_⟩:=h;exact (bB r).1
theorem DB:∀{r:List Sy} {l:List Ttr},TrL g c r l->∀m∈l,Y0 m
 |[],[],_,m,w=>by cases w
 |s::r,k::ks,h,m,w=>by
  unfold TrL at h;rcases tS.1 w with rfl|w
  ·exact II h.1
  ·exact DB h.2 m w
 |[],_::_,h,_,_=>by unfold TrL at h;exact h.elim
 |_::_,[],h,_,_=>by unfold TrL at h;exact h.elim
def ZG (g:Gr) (c:Cf) (m:Dtr):Prop:=Gp g m/\qgi g c m/\qgj m
theorem IJ {n:Nat}:∀(l:List Ttr),(∀k∈l,∀(s:Sy) (a:Nat),wi g c s k->a+yC k<=n->∀m∈xx (yb W gp a k),ZG g c m)->∀(r:List Sy) (a:Nat),TrL g c r l->a+zJ l<=n->∀m∈yd (Am W gp a l),ZG g c m
 |[],_,r,a,_,_,m,w=>by unfold Am yd at w;cases w
 |k::l,ih,[],a,h,_,m,w=>by unfold TrL at h;exact h.elim
 |k::l,ih,s::r,a,h,ha,m,w=>by
  unfold TrL at h;unfold zJ at ha;rw [Am,yd,vj] at w;rcases w with w|w
  ·exact ih k (by simp) s a h.1 (by omega) m w
  ·exact IJ l (λk A=>ih k (by simp [A])) r _ h.2 (by omega) m w
theorem qdi {n:Nat} (J:0<=gp 0) (B:Yv W gp n):∀(t:Ttr) (s:Sy) (a:Nat),wi g c s t->a+yC t<=n->∀m∈xx (yb W gp a t),ZG g c m:=Ttr.ind (λH s a h w m r=>by
  unfold wi at h;unfold yC at w;unfold yb xx at r;rw [vu] at r;subst r;obtain ⟨C,E,_⟩:=B a (by omega);have:=rM B (yA a) (by omega)
  exact ⟨⟨h.2.1,h.2.2.1,by omega,E⟩,h.2.2.2,trivial⟩) λpr A ih s a h w m r=>by
 have G:=II h;unfold wi at h;obtain ⟨p,C,E,F,D⟩:=h;unfold yC at w;rw [d5] at r;have e:yb W gp a (.nd pr A)=.nd pr (gp a) (gp (a+zJ A)) (Am W gp a A):=by rw [yb]
 rw [e] at r;rcases tS.1 r with rfl|r
 ·have:=rM B (yA a) (by omega);have:=rM B (Nat.le_add_right a (zJ A)) w;exact ⟨⟨by omega,by omega,p,C,(DA D a).symm⟩,⟨p,C,F⟩,FY W gp (pr:=pr) B w (DB D)⟩
 ·exact IJ A ih _ _ D w m r
theorem FZ:∀(t:Ttr) (a i:Nat) (x:Ttr×Nat),(w6 a t)[i]? =V x->∃b d,w6 a t=b++w6 x.2 x.1++d/\b.length=i:=by
 have r:∀(l:List Ttr),(∀k∈l,∀(a i:Nat) (x:Ttr×Nat),(w6 a k)[i]? =V x->∃b d,w6 a k=b++w6 x.2 x.1++d/\b.length=i)->∀(a i:Nat) (x:Ttr×Nat),(yP a l)[i]? =V x->∃b d,yP a l=b++w6 x.2 x.1++d/\b.length=i:=by
  intro l;induction l with
  |nil=>intro _ a i x h;rw [yP] at h;simp at h
  |cons n l ih=>
   intro C a i x h;rw [yP] at h ⊢;by_cases hi:i<(w6 a n).length
   ·rw [zM hi] at h;obtain ⟨b,d,e,w⟩:=C n (by simp) a i x h;exact ⟨b,d++yP (a+yC n) l,by rw [e];simp only [xZ],w⟩
   ·rw [Ua (by omega)] at h;obtain ⟨b,d,e,w⟩:=ih (λk h=>C k (by simp [h])) _ _ x h;exact ⟨w6 a n++b,d,by rw [e];simp only [xZ],by rw [tT,w];omega⟩
 refine Ttr.ind (λD a i x h=> ?_) λB A ih a i x h=> ?_
 ·rw [w6] at h;cases i with
  |zero=>cases h;exact ⟨[],[],by simp,rfl⟩
  |succ i=>simp at h
 ·rw [rJ] at h;cases i with
  |zero=>cases h;exact ⟨[],[],by simp,rfl⟩
  |succ i=>rw [Vy] at h;obtain ⟨b,d,e,w⟩:=r A ih a i x h;refine ⟨(.nd B A,a)::b,d,?_,by rw [wg,w]⟩;rw [rJ,show (Ttr.nd B A).kids=A from rfl,e];simp
end
end
end Go.Proofs.YteilolbbgieadaaGreatDoor
namespace Go.Proofs.YteilolbbgieadaaGreatDoor
open Go.IntKind (i64 u8 u64)
open Sl renaming v->nI,nil->pm,mk->t7
open Go Go.Proofs.Tryz Tr
abbrev Ns:=List (Int×Sl×Φ)
def V5:Ns->Int->Option ξ
 |[],_=>I
 |e::l,a=>if a=e.1 then V e.2.1.v else V5 l a
def Vk:Ns->Int->Φ
 |[],_=>[]
 |e::l,a=>if a=e.1 then e.2.2 else Vk l a
theorem rN {e:Int×Sl×Φ} {l:Ns} {a:Int} (h:a=e.1):V5 (e::l) a=V e.2.1.v:=Χ h
theorem nN {e:Int×Sl×Φ} {l:Ns} {a:Int} (h:a≠e.1):V5 (e::l) a=V5 l a:=Υ h
theorem nO {e:Int×Sl×Φ} {l:Ns} {a:Int} (h:a=e.1):Vk (e::l) a=e.2.2:=Χ h
theorem kV {e:Int×Sl×Φ} {l:Ns} {a:Int} (h:a≠e.1):Vk (e::l) a=Vk l a:=Υ h
def WQ (l:Ns):List (Ψ):=l.map λe=>own e.2.1 3 1 (e.2.2.map U)
section
variable {G F:PH}
theorem St.init {As Bs:List (Ψ)} (h:St G F (As++Bs)):St G F As:=h.pick id (λ_ _ _ _ e=>e) λi hi=>by rw [id,zM hi]
theorem St.mid {A:Ψ} {Ps w:List (Ψ)} (h:St G F (Ps++A::w)):St G F (A::(Ps++w)):=by
 refine h.pick (λi=>if i=0 then Ps.length else if i<=Ps.length then i - 1 else i) (λi j _ _ e=> ?_) (λi hi=> ?_)
 ·split at e<;>split at e<;>(try split at e)<;>(try split at e)<;>omega
 ·by_cases g:i=0
  ·rw [Χ g,g,Ua (ru _),X4];rfl
  ·obtain ⟨j,rfl⟩:∃j,i=j+1:=⟨i - 1,by omega⟩;rw [Υ g];by_cases r:j+1<=Ps.length
   ·rw [Χ r,Nat.add_sub_cancel,Vy,zM (by omega),zM (by omega)]
   ·rw [Υ r,Vy,Ua (by omega),Ua (by omega)];rw [show j+1 - Ps.length=(j - Ps.length)+1 by omega,Vy]
theorem DC (a:Int):∀(l:Ns) (Ps:List (Ψ)),(l.map (·.1)).Nodup->St G F (Ps++WQ l)->∃s l',St G F (own s 3 1 ((Vk l a).map U)::(Ps++WQ l'))/\(V5 l a).getD (nI pm)=s.v/\
  (∀k,k≠a->V5 l' k=V5 l k/\Vk l' k=Vk l k)/\(l'.map (·.1)).Sublist (l.map (·.1))/\a ∉ l'.map (·.1)
 |[],Ps,_,h=>⟨pm,[],h.nilOwn _ _,rfl,λ_ _=>⟨rfl,rfl⟩,List.Sublist.refl _,by simp⟩
 |e::l,Ps,hn,h=>by
  rw [xA,WT] at hn;by_cases r:a=e.1
  ·have A:St G F (Ps++own e.2.1 3 1 (e.2.2.map U)::WQ l):=h;refine ⟨e.2.1,l,?_,?_,λk B=> ?_,?_,by rw [r];exact hn.1⟩
   ·have:=A.mid;rw [nO r];exact this
   ·rw [rN r];rfl
   ·have w:k≠e.1:=by rw [<- r];exact B
    exact ⟨(nN w).symm,(kV w).symm⟩
   ·rw [xA];exact List.sublist_cons_self _ _
  ·have A:St G F ((Ps++[own e.2.1 3 1 (e.2.2.map U)])++WQ l):=by rw [xZ];exact h
   obtain ⟨s,l',C,E,L,K,J⟩:=DC a l _ hn.2 A;refine ⟨s,e::l',?_,?_,λk B=> ?_,?_,?_⟩
   ·rw [xZ] at C;rw [kV r];exact C
   ·rw [nN r];exact E
   ·obtain ⟨D,H⟩:=L k B;by_cases g:k=e.1
    ·rw [rN g,rN g,nO g,nO g];exact ⟨rfl,rfl⟩
    ·rw [nN g,nN g,kV g,kV g];exact ⟨D,H⟩
   ·rw [xA,xA];exact K.cons_cons _
   ·rw [xA,tS,not_or];exact ⟨r,J⟩
theorem IK:∀(l:Ns) {G:PH},St G F (WQ l)->∃w,G.le w/\(∀e∈l,RL w e.2.1 e.2.2)/\St w F []
 |[],G,h=>⟨G,au _,λ_ h=>(by cases h),h⟩
 |e::l,G,h=>by
  have E:St G F (own e.2.1 3 1 (e.2.2.map U)::WQ l):=h;obtain ⟨J,H,hd,B⟩:=E.pinO;obtain ⟨D,A,g,C⟩:=IK l B;refine ⟨D,aa H A,λx r=> ?_,C⟩;rcases tS.1 r with rfl|r
  ·exact RL.ints.2 (hd.le A)
  ·exact g x r
theorem IL {a:Int}:∀{l:Ns},(V5 l a=I/\Vk l a=[])\/∃e∈l,V5 l a=V e.2.1.v/\Vk l a=e.2.2
 |[]=> .inl ⟨rfl,rfl⟩
 |e::l=>by
  by_cases g:a=e.1
  ·rw [rN g,nO g];exact .inr ⟨e,by simp,rfl,rfl⟩
  ·rw [nN g,kV g];rcases IL (a:=a) (l:=l) with h|⟨x,r,h⟩
   ·exact .inl h
   ·exact .inr ⟨x,Vz _ r,h⟩
end
section
variable {G F:PH} {g:Gr} {ms b4:Nat} {a0:Θ} {T:Int×Int->Tr} {R:VR} {K:List (Int×Int)}
theorem qdj {B:Array MapEntry} {c:Nat} {L:List ((Int×Int)×ξ)} {mp:Int×Int->Option ξ} (q4:G b4=V (Y #[.map (V ms)] 211)) (qs:G ms=V (.map B c)) (hL:ry gD mp B c L) (hS:i8 G T mp) (hK:∀n,mp n≠I->n∈K) (c9:K.length<=1000000)
  (h:St G F []) (fin:∀C J b14 Q nx,G.le C->CyE C b14 Q b4 ms nx T->(∀a b,T (a,b)≠qa6 mD->b∈nx a)->(∀a b,b∈nx a->(a,b)∈K)->(∀a,(nx a).length<=K.length)->St C J []->vS a0 b4 b14 R J):
  vT a0 b4 R F:=by
 obtain ⟨_,_,TI⟩:=RZ;unfold vT;refine h.newMap be λQ F1 h=> ?_;refine h.var1 λb14 G1 F2 l1 b1 h=> ?_;have c5:B.size<=K.length:=by rw [hL.len,<- ub (f:=(·.1))];refine gg hL.nodup λx M=> ?_;obtain ⟨p,hp,rfl⟩:=xv.1 M;refine hK _ ?_;rw [hL.lk,(jz hL.nodup).2 hp];simp
 refine ⟨_,ld (h.le _ _ (l1 _ _ q4)) rfl,?_⟩;refine h.rangeG underlying211 gD (h.le _ _ (l1 _ _ qs)) λr F3 h=> ?_
 refine ⟨λq J=>∃(C:PH) (A:List (Int×Int)) (l:Ns),q=B.size - A.length/\G1.le C/\A.Nodup/\(∀n∈A,∃v,mp n=V v)/\(l.map (·.1)).Nodup/\(∀a b,b∈Vk l a↔(a,b)∈A)/\(∀a,(Vk l a).length<=A.length)/\
  ∃Bs,St C J ([itG gD ms r B c A,W2 Q be (V5 l)]++WQ l++Bs),B.size,⟨G1,[],[],rfl,au _,List.nodup_nil,λ_ h=>(by cases h),List.nodup_nil,λa b=>by simp [Vk],λa=>by simp [Vk],[],h⟩,?_⟩
 rintro q F4 ⟨G2,A,l,rfl,l2,a1,P,a7,N,a2,Bs,h⟩;replace h:St G2 F4 (itG gD ms r B c A::W2 Q be (V5 l)::WQ l):=St.init (As:=[itG gD ms r B c A,W2 Q be (V5 l)]++WQ l) h;unfold Iq;have c4:=aa l1 l2;refine h.nextG hL yF a1 P (h.le _ _ (c4 _ _ qs)) (λa4=> ?_) λn v F5 b9 c3 c6 h hr b0=> ?_
 ·refine ⟨_,rfl,mD,rfl,λhc=>(by cases hc),λ_=> ?_⟩;have h1:=h.tail;obtain ⟨G3,l3,⟨H,⟨o,e1,e2⟩,hH⟩,h2⟩:=h1.pin;obtain ⟨G4,X,c2,h3⟩:=IK l h2;have a9:=aa l2 (aa l3 X);have W:=aa l1 a9;refine fin G4 F4 b14 Q (Vk l) W ⟨a9 _ _ b1,W _ _ q4,⟨o,_,X _ _ (hH _ _ e1),e2,λa=> ?_⟩,⟨_,mp,W _ _ qs,⟨B,c,L,rfl,hL.eq,hL.lk⟩,hS.le W⟩⟩ (λa b hT=> ?_) (λa b hb=> ?_) (λa=> ?_) h3
  ·rcases IL (a:=a) (l:=l) with h|⟨e,he,g1,g2⟩
   ·exact .inl h
   ·exact .inr ⟨e.2.1,g1,by rw [g2];exact c2 e he⟩
  ·refine (N a b).2 ?_;rcases hS (a,b) with ⟨_,e⟩|⟨w,e,_⟩
   ·exact absurd e hT
   ·exact a4 _ _ e
  ·obtain ⟨v,hv⟩:=P _ ((N a b).1 hb);exact hK _ (by rw [hv];simp)
  ·have a6:A.length<=K.length:=gg a1 λx M=>by obtain ⟨v,hv⟩:=P x M;exact hK _ (by rw [hv];simp)
   exact WA (a2 a) a6
 ·refine ⟨_,rfl,nk,rfl,λ_=> ?_,λhc=>(by cases hc)⟩;refine ⟨_,b0,B1 n,rfl,?_⟩;refine h.var (by simp [ak]) (λb7 G3 F6 l3 a8 h=> ?_) rfl rfl;have a3:=aa l2 l3;have b2:=a3 _ _ b1;have c0:∀{C J:PH} {As:List (Ψ)},G3.le C->St C J As->J.cell (nV (oB b7 0 I) (nX (0:Int)*1))=V (U n.1):=λl h=>by rw [aI];exact ld (h.le _ _ (l _ _ a8)) rfl
  have O:∀{C J:PH} {As:List (Ψ)},G3.le C->St C J As->J.cell (oB b14 0 I)=V (.map (V Q)):=λl h=>ld (h.le _ _ (l _ _ b2)) rfl;obtain ⟨s,l',h,b5,D,b8,b6⟩:=DC n.1 l [itG gD ms r B c (A++[n]),W2 Q be (V5 l)] a7 h;have h:St G3 F6 (own s 3 1 ((Vk l n.1).map U)::itG gD ms r B c (A++[n])::W2 Q be (V5 l)::WQ l'):=h;have E:=h.lookAt (i:=2) rfl R0 n.1 mD;rw [Υ YM,b5] at E;refine ⟨_,O (au _) h,by decide,by decide,_,c0 (au _) h,_,O (au _) h,by decide,by decide,_,c0 (au _) h,s,E,by decide,by decide,n.2,?_,?_⟩
  ·rw [aI];exact ld (h.le _ _ a8) rfl
  ·have b3:s.len=(Vk l n.1).length:=by have:=(bO.rd (h.ownAt (i:=0) rfl).1).len;rw [ub,xF] at this;exact this.symm
   have c7:=a2 n.1;refine h.push0 TI (c:= #[U n.2]) rfl (by simp [ak]) (by omega) λs' G4 F7 X h c8=> ?_;refine ⟨c0 X h,O X h,c0 X h,O X h,?_⟩;refine h.updAt 2 rfl R0 n.1 (nI s') λF8 h=> ?_;have a5:((n.1,s',Vk l n.1++[n.2])::l').map (·.1)=n.1::l'.map (·.1):=rfl;refine ⟨B.size - (A++[n]).length,by rw [tT,Ub];omega,G4,A++[n],(n.1,s',Vk l n.1++[n.2])::l',rfl,aa a3 X,?_,λx M=> ?_,?_,λa b=> ?_,λa=> ?_,[],?_⟩
   ·rw [VB];exact ⟨a1,by simp,λa ha b hb e=>c3 (by rw [vu.1 hb] at e;rw [<- e];exact ha)⟩
   ·rcases vj.1 M with M|M
    ·exact P x M
    ·rw [vu.1 M];exact ⟨v,b9⟩
   ·rw [a5,WT];exact ⟨b6,b8.nodup a7⟩
   ·by_cases e:a=n.1
    ·rw [nO e,vj,vu,vj,vu,e,N];exact or_congr_right ⟨λh=>by rw [h],λh=>congrArg Prod.snd h⟩
    ·rw [kV e,(D a e).2,N,vj,vu];exact ⟨.inl,λh=>h.resolve_right λh=>e (congrArg Prod.fst h)⟩
   ·have:=a2 a;by_cases e:a=n.1
    ·rw [nO e,tT,tT,Ub,Ub];omega
    ·rw [kV e,(D a e).2,tT];omega
   ·have em:(λk'=>if k'=n.1 then V (nI s') else V5 l k')=V5 ((n.1,s',Vk l n.1++[n.2])::l'):=by
     funext k';by_cases e:k'=n.1
     ·rw [Χ e,rN e]
     ·rw [Υ e,nN e,(D k' e).1]
    rw [em] at h;have h2:=h.back2;rw [yt];have e3:WQ ((n.1,s',Vk l n.1++[n.2])::l')=own s' 3 1 ((Vk l n.1).map U++[U n.2])::WQ l':=by unfold WQ;rw [xA,yW];rfl
    rw [e3];exact h2
end
theorem yN {g:Type} (k:Nat) (S:g->Tr):∀keys:List g,mu k keys S<=keys.length*2 ^ k
 |[]=>yA _
 |x::l=>by
  have:=yN k S l;have e:mu k (x::l) S=(2 ^ k - wt k (S x))+mu k l S:=by unfold mu;rw [xA,List.sum_cons]
  rw [e,wg,Wn,Wy,XM];exact Nat.add_le_add this (Nat.sub_le _ _)
theorem RdS.at6 {F:PH} {s:Sl} {vs:Ξ} (h:RdS F s 1 vs) {i:Nat} {v:ξ} (hi:vs[i]? =V v):∃a,s.qa5=V a/\0<=(i:Int)/\(i:Int)<(s.len:Int)/\F.cell (nV a (nX (i:Int)*1))=V v:=by obtain ⟨g,rfl⟩:=N6.1 hi;have A:=h.len;obtain ⟨b,o,r,w⟩:=h.cells (by omega);refine ⟨_,r,by omega,by omega,?_⟩;rw [N4,xF,aI];exact w i g
theorem Mz {G B F:PH} {As:List (Ψ)} {m i:Nat} {S:Int->Tr} (h:St G F As) (hi:As[i]? =V (mS be B m S)) (D:B.le G) (n:Int):∃w,qX prog (Instr.lookup 170 (.map (V m)) (U n) mD) F (nQ w)/\DV G w (pj (S n)):=by
 obtain ⟨o,mp,C,E,H⟩:=h.mS_at hi;have g:=bL (F:=F) It C E n mD;rcases H n with ⟨r,A⟩|⟨w,r,A⟩
 ·rw [r] at g;exact ⟨zD,g,by rw [A];exact DV.mk (s:=pm) (d:=pj (qa6 mD)) (RL.nil G)⟩
 ·rw [r] at g;exact ⟨w,g,A.le D⟩
section
variable {G F:PH} {g:Gr} {k ms mn ban b4 b14:Nat} {T:Int×Int->Tr} {nx:Int->Φ} {R:VR}
theorem qdk {K:List (Int×Int)} (X:OkK g k) (hn:g.qa1.length<=1000000) (b6:AnV G ban g) (E:CyE G b14 mn b4 ms nx T) (hT:yD k g.qa0 (bI g) T) (h1:∀a b,T (a,b)≠qa6 mD->b∈nx a) (h2:∀a b,b∈nx a->(a,b)∈K) (h3:∀a,(nx a).length<=K.length) (c2:K.length<=1000000)
  (h:St G F []) (fin:∀J F' O C,G.le J->uo k g.qa1.length g.qa0 (bI g) C->St J F' [mG be (tV g.qa1.length) J O C]->R (.map (V O)) F'):
  vS (V (oB ban 0 I)) b4 b14 R F:=by
 obtain ⟨_,_,TI⟩:=RZ;obtain ⟨c,n,t,s,p,lv,f,q,qa,hs,hq⟩:=b6.ex;have es:=hs.s.len;have a2:DV G #[n.v,U g.fam.2] (pj (vi g.fam)):=by rw [<- X.fam.2];exact DV.mk hs.n
 have L:∀a,∀m∈nx a,m∈K.map (·.2):=λa m hm=>xv.2 ⟨_,h2 a m hm,rfl⟩;have d1:(K.map (·.2)).length*2 ^ k<=64000000:=by rw [ub];have:2 ^ k<=64:=WA (Ww (by decide) X.le) (by decide);exact WA (Yq c2 this) (by decide)
 unfold vS;refine h.new λO F1 h=> ?_;have h:=h.mG_new be (tV g.qa1.length);refine ⟨_,rfl,_,by rw [aI];exact ld (h.le _ _ qa) rfl,?_⟩
 refine bD (Bi · (oB ban 0 I) b4 b14 O s R) g.qa1.length (λi F'=>∃(J:PH) (C:Int->Tr),G.le J/\Sxs k C/\(∀(a:Nat) c,a<i->((C a).ev c=nk↔Tg (WY g.qa0 (bI g) c) a a))/\(∀a:Nat,i<=a->C a=qa6 mD)/\
  ∃Bs,St J F' (mG be (tV g.qa1.length) J O C::Bs)) ⟨G,_,au _,λ_=>Sx.qa6 k mD,λa c ha=>by omega,λ_ _=>rfl,[],h⟩ ?_
 rintro i F2 N1 hi ⟨G2,C,l2,hC,Q,P,Bs,h⟩ next;have h:=h.hd;have E2:=E.le l2;unfold Bi;refine ⟨λA=> ?_,λc7=> ?_⟩
 ·have A:i<g.qa1.length:=by omega
  obtain ⟨sn,b3,a9⟩:=E2.look h.le (i:Int);have c9:=a9.len;refine ⟨_,ld (h.le _ _ E2.q14) rfl,sn,b3,λh0=> ?_,λh0=> ?_⟩
  ·have e0:nx (i:Int)=[]:=Wm (by omega);unfold vR;rw [aC A];refine next _ A ⟨G2,C,l2,hC,λa c ha=> ?_,λa ha=>P a (by omega),[],h⟩;by_cases e:a=i
   ·subst e;rw [P a (ru _)];refine ⟨λh=>(by cases h),λtg=> ?_⟩;obtain ⟨d,hd⟩:=tg.head;have:=(hT.iff ((a:Int),d) c).2 hd;have a3:=h1 a d λe=>by rw [e] at this;cases this
    rw [e0] at a3;cases a3
   ·exact Q a c (by omega)
  ·refine h.new λmr F3 h=> ?_;have h:=h.toMap be;refine h.var1 λd0 G3 F4 l3 a1 h=> ?_;refine h.new λr F5 h=> ?_;have h:=h.imp (A':=VF 3 (t7 (V (oB r 0 I)) 0 0) []) 0 rfl λH _ hH=>FV hH;refine h.new λa8 F6 h=> ?_;refine h.set0 (w':= #[nI (t7 (V (oB r 0 I)) 0 0)]) (vr rfl) rfl λF7 h=> ?_;have N:=aa l2 l3;refine ⟨#[n.v,U g.fam.2],rfl,by rw [aI];exact ga (h.le _ _ (N _ _ qa)) rfl,?_⟩;have h:St G3 F7 (mS be G3 mr (λ_=>qa6 mD)::pt a8 (Y #[nI (t7 (V (oB r 0 I)) 0 0)] 76)::VF 3 (t7 (V (oB r 0 I)) 0 0) (([]:Φ).map U)::[mG be (tV g.qa1.length) G2 O C]):=
    (h.front2).imp 0 rfl λ_ _ hH=>mS.le hH l3
   refine (oF (keys:=K.map (·.2)) X.le (E.le N) a1 hT.sx X.fam.1 (a2.le N) (λ_=>Sx.qa6 k mD) (λm=>h1 _ m) (λm=>L _ m) (by have:=h3 i;omega) (by simp) h).mono ?_;rintro _ F8 ⟨G4,R4,ps,b7,rfl,l4,hv,h⟩;have b9:=aa N l4;refine ⟨rfl,?_⟩;have c5:=yN k (λ_:Int=>qa6 mD) (K.map (·.2))
   refine ⟨λq F'=>∃(J:PH) (R':Int->Tr) (D:Φ) (a6:Sl),q=mu k (K.map (·.2)) R'+D.length/\G4.le J/\q<=64000000/\Bfs k g.qa0 (bI g) T (vi g.fam) i R' D/\
    St J F' (mS be J mr R'::pt a8 (Y #[nI a6] 76)::VF 3 a6 (D.map U)::[mG be (tV g.qa1.length) G2 O C]),_,⟨G4,R4,ps,b7,rfl,au _,by have:=hv.mu;omega,Bfs.start hT hv,h⟩,?_⟩
   rintro q F9 ⟨G5,R5,D,B,rfl,l5,c4,hb,h⟩;have b5:=aa b9 l5;have M:=l5 _ _ (l4 _ _ a1);have W:=h.queAt (i:=2) rfl;have a4:=W.len;rw [ub,xF] at a4;have b0:=W.cap;unfold Ip;refine ⟨_,ld (h.ptAt (i:=1) rfl) rfl,λc6=> ?_,λhz=> ?_⟩
   ·cases D with
    |nil=>rw [W9] at a4;omega
    |cons m D=>
     obtain ⟨a,g1,g2,g3,g4⟩:=W.at6 (i:=0) (v:=U m) rfl;refine ⟨_,ld (h.ptAt (i:=1) rfl) rfl,a,g1,g2,g3,m,g4,_,ld (h.ptAt (i:=1) rfl) rfl,by omega,b0,?_⟩;refine h.set1 (w':= #[nI (Sl.cut B 1 1 B.len B.cap)]) (vr rfl) rfl λb8 h=> ?_;have h:=h.imp (A':=VF 3 (Sl.cut B 1 1 B.len B.cap) (D.map U)) 2 rfl λH _ hH=>Mt hH;rw [wg] at c4;refine ⟨λc8=> ?_,λhe=> ?_⟩
     ·obtain ⟨w,c3,hw⟩:=Mz h (i:=0) rfl (au _) m;refine ⟨_,ld (h.le _ _ M) rfl,w,c3,?_⟩;refine (oF (keys:=K.map (·.2)) X.le (E.le b5) M hT.sx (hb.sx m) hw hb.sx (λm'=>h1 _ m') (λm'=>L _ m') (by have:=h3 m;omega) (by omega) h).mono ?_;rintro _ b2 ⟨G6,R6,a5,b1,rfl,l6,a0,h⟩;have:=a0.mu;exact ⟨rfl,_,by rw [wg];show mu k (K.map (·.2)) R6+(D++a5).length<_;rw [tT];omega,G6,R6,D++a5,b1,rfl,aa l5 l6,by rw [tT];omega,hb.visit hT a0,h⟩
     ·have he:m=(i:Int):=by simpa using he
      subst he;exact ⟨_,by rw [wg];show mu k (K.map (·.2)) R5+D.length<_;omega,G5,R5,D,_,rfl,l5,by omega,hb.skip,h⟩
   ·have e0:D=[]:=Wm (by omega);subst e0;unfold Io;refine ⟨_,ld (h.le _ _ M) rfl,?_⟩;refine (lT h (au _) (i:Int)).mono ?_;rintro _ b8 ⟨G6,w,rfl,hw,l6,h⟩;refine ⟨w,rfl,?_⟩;have a7:G2.le G6:=aa l3 (aa l4 (aa l5 l6));refine h.mG_put It yG 3 rfl a7 (vO (Iv A)) hw λb2 h=> ?_;unfold vR;rw [aC A];refine next _ A ⟨G6,_,aa l2 a7,hC.upd (hb.sx _),λa c ha=> ?_,λa ha=> ?_,_,h.front3⟩
    ·unfold kj;by_cases e:a=i
     ·rw [Χ (by rw [e]),e];exact hb.fin hT (λa b c=>X.stp_fam) c
     ·rw [Υ (by omega)];exact Q a c (by omega)
    ·unfold kj;rw [Υ (by omega)];exact P a (by omega)
 ·have e:i=g.qa1.length:=by omega
  subst e;unfold In;exact fin G2 F2 O C l2 ⟨hC,λa c ha=>Q a c ha⟩ h
end
section
variable {G F:PH} {g:Gr} {k:Nat}
theorem dm (h:OkG g):g.qa0.length<=2000/\g.qa1.length<=2000/\g.qa2.length<=256/\∀x∈g.qa0,x.right.length<=16:=by have r:=h.large;unfold dM at r;rw [Bool.or_eq_false_iff,List.any_eq_false] at r;have:=ι r.1;refine ⟨by omega,by omega,by omega,λx w=> ?_⟩;have A:=r.2 x w;rw [δ] at A;omega
theorem qhV {D:Nat} (A:OkK g k) (w:AnV G D g) (h:St G F []):
  ν 80 #[pk (V ⟨D,0,I⟩)] F λr F'=>∃O J C,r=.map (V J)/\G.le O/\uo k g.qa1.length g.qa0 (bI g) C/\St O F' [mG be (tV g.qa1.length) O J C]:=by
 obtain ⟨o1,o2,o3,R⟩:=dm A.ok;have W:∀x∈g.qa0,x.right.length<=1000000:=λx hx=>by have:=R x hx;omega
 have E:(iS g.qa0).length<=1000000:=by have:=FU R;omega
 refine qgd ?_;unfold UU;refine (qhe A W (by omega) w h).mono ?_;rintro _ F1 ⟨G1,a1,N,rfl,l1,hN,h⟩;refine ⟨_,rfl,?_⟩;refine h.new λms F2 h=> ?_;have h:=h.mG_new gD (iS g.qa0);refine h.var1 λb4 G2 F3 K q4 h=> ?_;obtain ⟨c,n,t,s,p,lv,f,q,Q,hs,hq⟩:=(w.le (aa l1 K)).ex;refine ⟨_,rfl,_,by rw [aI];exact ld (h.le _ _ Q) rfl,?_⟩;refine U7 A hN.sx K W (by omega) hs.p ⟨c,n,t,s,p,lv,f,Q⟩ hq q4 (h.imp 0 rfl λ_ _ P=>mG.le P K) λG3 F4 X h=> ?_;obtain ⟨G4,M,⟨H,⟨o,mp,e1,⟨es,cc,L,rfl,hL⟩,e3,e4⟩,P⟩,h⟩:=h.pin;refine qdj (M _ _ (X _ _ q4)) (P _ _ e1) hL (e3.le M) e4 E h λG5 F5 a0 mn nx l5 E5 g1 g2 g3 h=> ?_;have B:=aa l1 (aa K (aa X (aa M l5)));refine qdk A (by omega) (w.le B) E5 (Ms hN A.prs) g1 g2 g3 E h λG6 F6 J C l6 hC h=> ?_;exact ⟨G6,J,C,rfl,aa B l6,hC,h⟩
end
theorem Sa:aF prog 79=nk:=by kernel_rfl
def kW (g:Gr):Prop:=∃(n:Nat) (c:Cf),n<g.qa1.length/\Tg (WY g.qa0 (bI g) c) n n
section
variable {G F:PH} {g:Gr} {k:Nat}
theorem qhG {B:Nat} {As:List (Ψ)} (O:OkK g k) (E:AnV G B g) (h:St G F As):
  ν 80 #[pk (V ⟨B,0,I⟩)] F λr N=>∃A w C,r=.map (V w)/\G.le A/\uo k g.qa1.length g.qa0 (bI g) C/\St A N (mG be (tV g.qa1.length) A w C::As):=by
 have R:St G F ([]++As):=h;refine (R.callL (P:=λr A=>∃w C,r=.map (V w)/\uo k g.qa1.length g.qa0 (bI g) C) (Bs':=λr A=>[λH=>∃w C,(r=.map (V w)/\uo k g.qa1.length g.qa0 (bI g) C)/\mG be (tV g.qa1.length) A w C H]) λX D=> ?_).mono ?_
 ·refine (qhV O E D).mono ?_;rintro r F2 ⟨A,w,C,D,J,K,W⟩;exact ⟨A,⟨w,C,D,K⟩,J,W.imp 0 rfl λH _ M=>⟨w,C,⟨D,K⟩,M⟩⟩
 ·rintro r F2 ⟨A,_,J,h⟩;obtain ⟨w,h⟩:=h.exI 0 rfl;obtain ⟨C,h⟩:=h.exI 0 rfl;obtain ⟨⟨L,Q⟩,h⟩:=h.prI 0 rfl;exact ⟨A,w,C,L,J,Q,h⟩
theorem MA {C:Int->Tr} (A:uo k g.qa1.length g.qa0 (bI g) C):(∃n:Nat,n<g.qa1.length/\C n≠qa6 mD)↔kW g:=by
 constructor
 ·rintro ⟨n,r,B⟩;have w:¬∀c,(C n).ev c=(qa6 mD).ev c:=λh=>B (eq_of_ev (A.sx n).1 trivial h);obtain ⟨c,D⟩:=Classical.not_forall.1 w;refine ⟨n,c,r,(A.iff n c r).1 ?_⟩;cases e:(C n).ev c with
  |true=>rfl
  |false=>rw [e] at D;exact absurd rfl D
 ·rintro ⟨n,c,r,h⟩;have:=(A.iff n c r).2 h;exact ⟨n,r,λe=>by rw [e] at this;cases this⟩
def Ve (A:Bool->Prop) (b:Nat) (_:PH):List (Ψ):=[λH=>∃q,A q/\H b=V (Y #[nW q] 4)]
theorem qhW {Q b3:Nat} (hk:OkK g k) (a3:AnV G Q g)
  (h:St G F [pt b3 (Y #[nW mD] 4)]):ν 79 #[pk (V ⟨Q,0,I⟩),pk (V ⟨b3,0,I⟩)] F λr F'=>∃O,r=po #[]/\G.le O/\St O F' (Ve (λq=>q=nk↔kW g) b3 O):=by
 refine qgc ?_;unfold UT;refine (qhG hk a3 h).mono ?_;rintro _ F1 ⟨G1,mo,C,rfl,l1,hC,h⟩;refine ⟨_,rfl,?_⟩;obtain ⟨G2,l2,⟨H,⟨o,mp,e1,⟨es,c,L,rfl,hL⟩,e3,e4⟩,hH⟩,h⟩:=h.pin;have qo:=hH _ _ e1;have hS:=e3.le l2;refine h.rangeG underlying170 be (h.le _ _ qo) λb7 F2 h=> ?_
 refine ⟨λq F'=>∃(O:PH) (D:Φ) (W:Bool),q=es.size - D.length/\G2.le O/\D.Nodup/\(∀n∈D,∃v,mp n=V v)/\(W=nk↔∃n∈D,C n≠qa6 mD)/\
  St O F' [itG be mo b7 es c D,pt b3 (Y #[nW W] 4)],_,⟨G2,[],mD,rfl,au _,List.nodup_nil,λ_ h=>(by cases h),by simp,h⟩,?_⟩
 rintro q F3 ⟨G3,D,W,rfl,l3,P,K,N,h⟩;unfold Im;refine h.nextG hL yG P K (h.le _ _ (l3 _ _ qo)) (λa0=> ?_) λn v F4 E a1 a4 h hr R=> ?_
 ·refine ⟨_,rfl,mD,rfl,λhc=>(by cases hc),λ_=> ?_⟩;refine ⟨G3,rfl,aa l1 (aa l2 l3),h.tail.imp 0 rfl λH _ hH=>⟨W,?_,hH⟩⟩;dsimp only;rw [N,<- MA hC];constructor
  ·rintro ⟨n,hn,A⟩;obtain ⟨v,hv⟩:=K n hn;have hm:=e4 n (by rw [hv];simp);obtain ⟨i,hi,rfl⟩:=xv.1 hm;exact ⟨i,WU.1 hi,A⟩
  ·rintro ⟨n,hn,A⟩;rcases hS (n:Int) with ⟨_,e⟩|⟨w,e,_⟩
   ·exact absurd e A
   ·exact ⟨n,a0 _ _ e,A⟩
 ·refine ⟨_,rfl,nk,rfl,λ_=> ?_,λhc=>(by cases hc)⟩;have M:∃w,v=nQ w/\DV G2 w (pj (C n)):=by
   rcases hS n with ⟨e,_⟩|⟨w,e,M⟩
   ·rw [e] at E;cases E
   ·rw [e] at E;cases E;exact ⟨w,rfl,M⟩
  obtain ⟨w,rfl,M⟩:=M;refine ⟨_,R,w,rfl,?_⟩;refine h.var M.st (λb4 G4 F5 l4 q4 h=> ?_) rfl M.size;have X:=aa l3 l4;have nd:(D++[n]).Nodup:=by rw [VB];exact ⟨P,by simp,λa ha b hb e=>a1 (by rw [vu.1 hb] at e;rw [<- e];exact ha)⟩
  have J:∀x∈D++[n],∃v,mp x=V v:=λx B=>by
   rcases vj.1 B with B|B
   ·exact K x B
   ·rw [vu.1 B];exact ⟨_,E⟩
  have ms:es.size - (D++[n]).length<es.size - D.length:=by rw [tT,Ub];omega
  refine ⟨_,rfl,W,ld (h.ptAt (i:=1) rfl) rfl,λht=> ?_,λhf=> ?_⟩
  ·refine h.set1 (w':= #[nW nk]) (vr rfl) rfl λF6 h=> ?_;refine ⟨_,ms,G4,D++[n],nk,rfl,X,nd,J,⟨λ_=> ?_,λ_=>rfl⟩,h⟩;obtain ⟨x,B,A⟩:=N.1 ht;exact ⟨x,vj.2 (.inl B),A⟩
  ·obtain ⟨sd,ew,_⟩:=id M;refine ⟨_,ld (h.le _ _ q4) (by rw [ew];rfl),?_⟩;refine h.set1 (w':= #[nW (decide ((pj (C n)).2≠0))]) (vr rfl) rfl λF6 h=> ?_;refine ⟨_,ms,G4,D++[n],_,rfl,X,nd,J,?_,h⟩;rw [δ];have a2:¬∃n∈D,C n≠qa6 mD:=λh=>by rw [N.2 h] at hf;cases hf
   constructor
   ·intro A;exact ⟨n,by simp,λe=>A ((i9 (hC.sx n).1).2 e)⟩
   ·rintro ⟨x,B,A⟩ h0;rcases vj.1 B with B|B
    ·exact a2 ⟨x,B,A⟩
    ·rw [vu.1 B] at A;exact A ((i9 (hC.sx n).1).1 h0)
theorem Bu {v:Γ} (W:Tab F) (E:GV F v g) (Q:Sz g) (C:OkK g k):
  ν 47 #[nQ v] F λr H=>(kW g/\r=U 60\/¬kW g/\r=U 0)/\F.le H:=by
 obtain ⟨o1,o2,o3,N⟩:=dm C.ok;refine qga ?_;unfold UR;refine (St.start F).newG λb1 G1 F1 B q1 _ h=>h.new λA F2 h=> ?_;refine h.set0 (w':= #[nW mD]) (vr rfl) rfl λK h=>⟨v,E.size,ai (h.le _ _ q1),?_⟩;refine (qhT (kr:=79) (fst:= #[]) (cap:= #[pk (V ⟨A,0,I⟩)]) (Bs:=Ve (λq=>q=nk↔kW g) A) (W.le B) (E.le B) Q C (λx O=>by have:=N x O;omega) (by omega) h Sa λG' w H l D h=> ?_).mono ?_
 ·have e:(#[]++ #[pk (V ⟨w,0,I⟩)]++ #[pk (V ⟨A,0,I⟩)]:Γ)= #[pk (V ⟨w,0,I⟩),pk (V ⟨A,0,I⟩)]:=by simp
  rw [e];exact qhW C D h
 rintro _ K ⟨rfl,X,J,h⟩;obtain ⟨q,h⟩:=h.exI 0 rfl;obtain ⟨L,h⟩:=h.prI 0 rfl;have h:St X K [pt A (Y #[nW q] 4)]:=h;refine ⟨_,rfl,λ_=>⟨q,h.ld0 rfl,λR=> ?_,λM=> ?_⟩,λe=>absurd rfl e⟩
 ·exact ⟨.inl ⟨L.1 R,rfl⟩,aa B (aa J h.le)⟩
 ·exact ⟨.inr ⟨λP=>(by rw [L.2 P] at M;cases M),rfl⟩,aa B (aa J h.le)⟩
end
