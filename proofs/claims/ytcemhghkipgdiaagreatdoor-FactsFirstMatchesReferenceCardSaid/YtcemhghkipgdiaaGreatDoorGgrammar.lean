/-
  What functions of the program do, in a clean form, each with the proof that its code does so. Printed by a program.
-/
import Derived.Test.YtcemhghkipgdiaaGreatDoorEh
set_option maxRecDepth 10000
open Option renaming some->Y3,none->Y5
open Go.Obj renaming cells->Y4
open Bool renaming false->Y6,true->Y8
open Go.Value renaming agg->Y9,bool->Za,pointer->Ze,int->Zf,string->Zg,tuple->Zh,slice->Zm
open Go.Addr renaming add->Zb,mk->Zc
open Int renaming toNat->Zd,tmod->Zk
noncomputable section
namespace Go.Proofs.YtcemhghkipgdiaaGreatDoor
open Go.IntKind (i64 u8 u64)
open Sl renaming v->Y7,nil->Zi
open Go Go.Proofs.Tryz Tr
section
def t6 (t:Tr):List Tr:=Y0 Y6::Y0 Y8::bi t
theorem nB {t x:Tr} (h:inn (bi t) x):x∈t6 t:=by
 unfold t6;cases x with
 |Y0 b=>cases b<;>simp
 |Y1 v l r=>simp [cP h rfl]
def apL (o:Op3) (a b d:Tr):List Tr:=(t6 a).flatMap λx=>(t6 b).flatMap λy=>(t6 d).map λz=>ap o x y z
theorem zN (o:Op3) (a b d:Tr):(apL o a b d).length=((bi a).length+2)*(((bi b).length+2)*((bi d).length+2)):=by unfold apL;simp only [List.length_flatMap,Xd,List.map_const',List.sum_replicate_nat];simp [t6]
theorem Od {o:Op3} {a b d:Tr} (ha:a.ok) (hb:b.ok) (hd:d.ok):∀(n:Nat) (x y z:Tr) (S:List Tr),x.sz+y.sz+z.sz<=n->inn (bi a) x->inn (bi b) y->inn (bi d) z->Cl S->
  ∀u∈vis (ap o x y z) S,u∈S\/u∈apL o a b d:=by
 intro n;induction n with
 |zero=>intro x y z S hn;have:=kU x;omega
 |succ n ih=>
  intro x y z S hn hx hy hz hS u hu;have kx:=(bF ha).inn_ok hx;have ky:=(bF hb).inn_ok hy;have kz:=(bF hd).inn_ok hz;have hmem:ap o x y z∈apL o a b d:=YC.2 ⟨x,nB hx,YC.2 ⟨y,nB hy,Xi.2 ⟨z,nB hz,rfl⟩⟩⟩;by_cases hv:aX x y z<64
  ·have hst:=wQ (o:=o) kx ky kz hv;have v1:aX x y z<=x.top:=by unfold aX;omega
   have v2:aX x y z<=y.top:=by unfold aX;omega
   have v3:aX x y z<=z.top:=by unfold aX;omega
   have hcase:aX x y z=x.top\/aX x y z=y.top\/aX x y z=z.top:=by unfold aX;omega
   generalize aX x y z=v at*;have nl:∀{t:Tr},v=t.top->t.isL=Y6:=λ{t} e=>by
    cases t with
    |Y0 b=>simp only [top] at e;omega
    |Y1 _ _ _=>rfl
   obtain ⟨al1,al2,al3,al4,al5⟩:=cy kx v1;obtain ⟨bl1,bl2,bl3,bl4,bl5⟩:=cy ky v2;obtain ⟨dl1,dl2,dl3,dl4,dl5⟩:=cy kz v3;obtain ⟨ah1,ah2,ah3,ah4,ah5⟩:=cz kx v1;obtain ⟨bh1,bh2,bh3,bh4,bh5⟩:=cz ky v2;obtain ⟨dh1,dh2,dh3,dh4,dh5⟩:=cz kz v3;have hsl:(lo v x).sz+(lo v y).sz+(lo v z).sz<=n:=by
    rcases hcase with e|e|e
    ·have:=al4 e.symm (nl e);omega
    ·have:=bl4 e.symm (nl e);omega
    ·have:=dl4 e.symm (nl e);omega
   have hsh:(hi v x).sz+(hi v y).sz+(hi v z).sz<=n:=by
    rcases hcase with e|e|e
    ·have:=ah4 e.symm (nl e);omega
    ·have:=bh4 e.symm (nl e);omega
    ·have:=dh4 e.symm (nl e);omega
   obtain ⟨l1,l2,l3⟩:=fC (o:=o) al1 bl1 dl1;obtain ⟨g1,g2,g3⟩:=fC (o:=o) ah1 bh1 dh1;have l2':v<(ap o (lo v x) (lo v y) (lo v z)).top:=by have:=al2 hv;have:=bl2 hv;have:=dl2 hv;unfold aX at l2;omega
   have g2':v<(ap o (hi v x) (hi v y) (hi v z)).top:=by have:=ah2 hv;have:=bh2 hv;have:=dh2 hv;unfold aX at g2;omega
   have hadd:=rX hS (v:=v) ⟨hv,l2',g2',l1,g1⟩;rw [<- hst] at hadd;rw [<- hadd] at hu;have c1:=(bA _ S l1 hS).1;have key:u∈vis (ap o (hi v x) (hi v y) (hi v z)) (vis (ap o (lo v x) (lo v y) (lo v z)) S)->u∈S\/u∈apL o a b d:=λhu=>by
    rcases ih _ _ _ _ hsh ((bF ha).inn_hi hx v) ((bF hb).inn_hi hy v) ((bF hd).inn_hi hz v) c1 u hu with h|h
    ·exact ih _ _ _ _ hsl ((bF ha).inn_lo hx v) ((bF hb).inn_lo hy v) ((bF hd).inn_lo hz v) hS u h
    ·exact .inr h
   unfold fu at hu;split at hu
   ·exact key hu
   ·rcases W9.1 hu with hu|hu
    ·exact key hu
    ·rw [W5.1 hu];exact .inr hmem
  ·have isl:∀{t:Tr},t.ok->64<=t.top->∃b,t=Y0 b:=λ{t} ht h64=>gE ht h64;unfold aX at hv;obtain ⟨p,rfl⟩:=isl kx (by omega);obtain ⟨q,rfl⟩:=isl ky (by omega);obtain ⟨r,rfl⟩:=isl kz (by omega);rw [mK] at hu;exact .inl hu
theorem D1 {o:Op3} {a b d:Tr} (ha:a.ok) (hb:b.ok) (hd:d.ok):(bi (ap o a b d)).length<=((bi a).length+2)*(((bi b).length+2)*((bi d).length+2)):=by
 rw [<- zN o a b d];refine dJ _ _ (bF (HO ha hb hd)).nodup λx hx=> ?_;rcases Od ha hb hd _ a b d [] (W8 _) (bW ha) (bW hb) (bW hd) .nil x hx with h|h
 ·cases h
 ·exact h
def lX {α:Type} (a b c:α):Nat->α
 |0=>a
 |1=>b
 |_=>c
theorem gq {F:PH} {b e1:Nat} {c4:Γ} {K:Γ->Ψ} {G:PH} {d:Dia} {cs:Γ} (hd:DV G cs d) (h4:F b=Y3 (Y4 c4 e1 (0,0))) (hc4:c4.size=2) (hk:K cs (F.set b (Y4 cs e1))):
  cs.size=2/\(∀v∈cs.toList,ak v)/\∃c e,F (Zc b 0 Y5).block=Y3 (Y4 c e (0,0))/\(Zc b 0 Y5).spot=Y5/\(Zc b 0 Y5).off+2<=c.size/\
   atF (F.set (Zc b 0 Y5).block (Y4 (wr c (Zc b 0 Y5).off cs.toList) e)) λF=>∃vres:Γ,vres.size=2/\F.row (Zc b 0 Y5) vres/\K vres F:=
 stW h4 hd.size hc4 hd.st ⟨cs,hd.size,ac (al _ _ _),hk⟩
theorem OpV.cells {F:PH} {v:ξ} {o:Op3} (h:OpV F v o):v.cells= #[v]:=by obtain ⟨k,f,c,rfl,_⟩:=h;rfl
def dR (F:PH) (a:Nat):PH:=λx=>if x=a then Y5 else F x
theorem B3 (F:PH) (a:Nat):(dR F a).le F:=λx o h=>by
 unfold dR at h;split at h
 ·cases h
 ·exact h
theorem ff {F:PH} {a x:Nat} (h:x≠a):dR F a x=F x:=by simp [dR,h]
theorem zO (F:PH) (a:Nat):dR F a a=Y5:=by simp [dR]
theorem eL {F G:PH} {a:Nat} (h:F.le G) (ha:F a=Y5):F.le (dR G a):=λx o hx=>by
 have h1:x≠a:=λe=>by rw [e,ha] at hx;cases hx
 rw [ff h1];exact h _ _ hx
theorem ai.avoid {P:Program} {f:FuncId} {args:Γ} {F:PH} {x:Nat} {o:Obj} {R:ξ->Ψ} (h:ai P f args (dR F x) R) (hx:F x=Y3 o):
  ai P f args F λv F'=>∃G,R v G/\G.le F'/\F' x=Y3 o/\G x=Y5:=
 (h.upon (B3 F x)).mono λv F' ⟨G,hr,hl,hb⟩=>by obtain ⟨h1,h2⟩:=hb x o (zO F x) hx;exact ⟨G,hr,hl,h1,h2⟩
theorem ie {F G F':PH} {x:Nat} {o:Obj} (h:(dR F x).le G) (hl:G.le F') (hx:F' x=Y3 o) (hF:F x=Y3 o):F.le F':=λb ob hb=>by
 by_cases hbx:b=x
 ·subst hbx;rw [hF] at hb;rw [hx];exact hb
 ·exact hl _ _ (h _ _ (by rw [ff hbx];exact hb))
section
variable {F:PH} {s0 s1 s2:Sl} {t0 t1 t2:Tr} {opv:ξ} {o:Op3}
theorem wb (h0:RdS F s0 3 (aW (dia t0).1)) (h1:RdS F s1 3 (aW (dia t1).1)) (h2:RdS F s2 3 (aW (dia t2).1)) (k0:t0.ok) (k1:t1.ok) (k2:t2.ok)
  (f0:Fit ((bi t0).length+2)) (f1:Fit ((bi t1).length+2)) (f2:Fit ((bi t2).length+2)) (hf:Fit ((bi (ap o t0 t1 t2)).length+4)) (hop:OpV F opv o):
  ν 127 #[Y9 #[s0.v,vi (dia t0).2,s1.v,vi (dia t1).2,s2.v,vi (dia t2).2],opv] F λr F'=>∃w,r=Y9 w/\DV F' w (dia (ap o t0 t1 t2))/\F.le F':=by
 refine Tn ?_;unfold MU;intro b2 hb2;refine atI ?_;have l2:=ae (Y4 #[s0.v,vi (dia t0).2,s1.v,vi (dia t1).2,s2.v,vi (dia t2).2] 169) hb2;have q2:=al F b2 (Y4 #[s0.v,vi (dia t0).2,s1.v,vi (dia t1).2,s2.v,vi (dia t2).2] 169);generalize F.set b2 (Y4 #[s0.v,vi (dia t0).2,s1.v,vi (dia t1).2,s2.v,vi (dia t2).2] 169)=F2 at*;refine ⟨hop.cells,λb3 hb3=> ?_⟩;refine atI ?_;have lx:=ae (Y4 #[opv] 170) hb3;have q3:=al F2 b3 (Y4 #[opv] 170);have q2:=lx _ _ q2;have l3:=l2.trans lx;clear lx;generalize F2.set b3 (Y4 #[opv] 170)=F3 at*;intro b4 hb4;refine atI ?_;have f4:F b4=Y5:=aS l3 hb4;have lx:=ae (Y4 zD 31) hb4;have q4:=al F3 b4 (Y4 zD 31);have q2:=lx _ _ q2;have q3:=lx _ _ q3;have l4:=l3.trans lx;clear lx;generalize F3.set b4 (Y4 zD 31)=F4 at*;refine (oT F4).mono ?_;rintro _ G ⟨bb,mm,rfl,hne,bd⟩;refine ⟨_,rfl,?_⟩;intro b5 hb5;refine atI ?_;refine st1 (al _ _ _) (by simp) ?_;rw [aT,show (#[Ze Y5].setIfInBounds (Zc b5 0 Y5).off (Ze (Y3 ⟨bb,0,Y5⟩)):Γ)= #[Ze (Y3 ⟨bb,0,Y5⟩)] from rfl];have g5:F4 b5=Y5:=aS bd.le hb5;have bd5:=bd.grow (F:=G.set b5 (Y4 #[Ze (Y3 ⟨bb,0,Y5⟩)] 196)) (ae _ hb5) hb5 (al _ _ _);have e5:=al F4 b5 (Y4 #[Ze (Y3 ⟨bb,0,Y5⟩)] 196);have l5:=ae (Y4 #[Ze (Y3 ⟨bb,0,Y5⟩)] 196) g5;generalize F4.set b5 (Y4 #[Ze (Y3 ⟨bb,0,Y5⟩)] 196)=E5 at*;generalize G.set b5 (Y4 #[Ze (Y3 ⟨bb,0,Y5⟩)] 196)=G5 at*;intro b9 hb9;refine atI ?_;have bd9:=bd5.upto (ae (.map #[] 0) hb9);have g9:E5 b9=Y5:=aS bd5.le hb9;have hmo:=eJ.empty JL;have e9:=al G5 b9 (.map #[] 0);have hnm:mm≠b9:=by obtain ⟨om,hom,_⟩:=bd5.map;exact aG hb9 hom
 generalize G5.set b9 (.map #[] 0)=G9 at*;intro b6 hb6;refine atI ?_;refine st1 (al _ _ _) (by simp) ?_;rw [aT,show (#[Value.map Y5].setIfInBounds (Zc b6 0 Y5).off (Value.map (Y3 b9)):Γ)= #[Value.map (Y3 b9)] from rfl];intro b7 hb7;refine atI ?_;refine st1 (al _ _ _) (by simp) ?_;rw [aT]
 let p:AP:=⟨b3,b6,b2,b7,b5,bb,mm,b9,opv,o,lX (dia t0) (dia t1) (dia t2),lX (bi t0) (bi t1) (bi t2)⟩
 have hs0:AS E5 G9 p []:=⟨bd9,g9,hnm,_,_,e9,hmo,λk v hkv=>by cases hkv⟩;have hs1:=hs0.grow (F:=G9.set b6 (Y4 #[Value.map (Y3 b9)] 213)) (ae _ hb6) hb6 (al _ _ _);have hs2:=hs1.grow (F:=(G9.set b6 (Y4 #[Value.map (Y3 b9)] 213)).set b7 (Y4 #[.func (.func 173) #[] p.caps] 214)) (ae _ hb7) hb7 (al _ _ _);have g6:E5 b6=Y5:=aS bd9.le hb6;have g7:(E5.set b6 (Y4 #[Value.map (Y3 b9)] 213)) b7=Y5:=aS hs1.bd.le hb7;have l6:=ae (Y4 #[Value.map (Y3 b9)] 213) g6;have l7:=ae (Y4 #[.func (.func 173) #[] p.caps] 214) g7;have e6:=l7 _ _ (al E5 b6 (Y4 #[Value.map (Y3 b9)] 213));have e7:=al (E5.set b6 (Y4 #[Value.map (Y3 b9)] 213)) b7 (Y4 #[.func (.func 173) #[] p.caps] 214);have lE:F4.le ((E5.set b6 (Y4 #[Value.map (Y3 b9)] 213)).set b7 (Y4 #[.func (.func 173) #[] p.caps] 214)):=l5.trans (l6.trans l7);have e5:=(l6.trans l7) _ _ e5;rw [show (#[Value.nilFunc].setIfInBounds 0 (Value.func (.func 173) #[] #[Ze (Y3 ⟨b3,0,Y5⟩),Ze (Y3 ⟨b6,0,Y5⟩),Ze (Y3 ⟨b2,0,Y5⟩),Ze (Y3 ⟨b7,0,Y5⟩),Ze (Y3 ⟨b5,0,Y5⟩)]):Γ)= #[.func (.func 173) #[] p.caps] from rfl];generalize (E5.set b6 (Y4 #[Value.map (Y3 b9)] 213)).set b7 (Y4 #[.func (.func 173) #[] p.caps] 214)=E7 at*;generalize (G9.set b6 (Y4 #[Value.map (Y3 b9)] 213)).set b7 (Y4 #[.func (.func 173) #[] p.caps] 214)=G7 at*;have lF:=l4.trans lE;have he:AE E7 p:=by
  refine ⟨?_,?_,λi hi=> ?_,?_,?_,hop.le lF⟩
  ·show E7.cell ⟨b3,0,Y5⟩=Y3 opv;rw [aq (lE _ _ q3)];rfl
  ·show E7.cell ⟨b6,0,Y5⟩=Y3 _;rw [aq e6];rfl
  ·have row:∀(j:Nat) (s:Sl) (r:Int),(#[s0.v,vi (dia t0).2,s1.v,vi (dia t1).2,s2.v,vi (dia t2).2]:Γ)[j]? =Y3 s.v->(#[s0.v,vi (dia t0).2,s1.v,vi (dia t1).2,s2.v,vi (dia t2).2]:Γ)[j+1]? =Y3 (vi r)->
     E7.row ⟨b2,j,Y5⟩ #[s.v,vi r]:=λj s r h1 h2 i hi=>by
    simp only [aE];rw [aq (lE _ _ q2)]
    match i,hi with
    |0,_=>simpa using h1
    |1,_=>simpa using h2
   match i,hi with
   |0,_=>exact ⟨_,row 0 s0 _ rfl rfl,s0,rfl,h0.le lF⟩
   |1,_=>exact ⟨_,row 2 s1 _ rfl rfl,s1,rfl,h1.le lF⟩
   |2,_=>exact ⟨_,row 4 s2 _ rfl rfl,s2,rfl,h2.le lF⟩
  ·show E7.cell ⟨b7,0,Y5⟩=Y3 _;rw [aq e7];rfl
  ·show E7.cell ⟨b5,0,Y5⟩=Y3 _;rw [aq e5];rfl
 have hfa:AF p:=by
  refine ⟨λi hi=> ?_,λi hi=> ?_,λi hi=> ?_⟩
  ·match i,hi with
   |0,_=>exact bF k0
   |1,_=>exact bF k1
   |2,_=>exact bF k2
  ·match i,hi with
   |0,_=>exact YS _
   |1,_=>exact YS _
   |2,_=>exact YS _
  ·match i,hi with
   |0,_=>show Fit ((brs (bi t0)).length+2);rw [aN];exact f0
   |1,_=>show Fit ((brs (bi t1)).length+2);rw [aN];exact f1
   |2,_=>show Fit ((brs (bi t2)).length+2);rw [aN];exact f2
 have q2':=hs2.bd.le _ _ (lE _ _ q2)
 refine ⟨_,aI hs2.bd.le he.c5,_,aI hs2.bd.le he.c7,by omega,by omega,(dia t0).2,by simp only [aE];rw [aq q2'];rfl,by omega,by omega,(dia t1).2,by simp only [aE];rw [aq q2'];rfl,
  by omega,by omega,(dia t2).2,by simp only [aE];rw [aq q2'];rfl,_,_,_,rfl,GI,?_⟩
 have hres:p.res (lX t0 t1 t2)=ap o t0 t1 t2:=rfl;have hat:=JS hfa _ (lX t0 t1 t2) (W8 _) ⟨bW k0,bW k1,bW k2⟩ E7 G7 [] he hs2 (by rw [hres];exact hf);rw [hres] at hat;refine hat.mono ?_;rintro _ F5 ⟨rfl,hs3⟩;have q2'':=hs3.bd.le _ _ (lE _ _ q2);refine ⟨_,rfl,by simp only [aE];rw [aq q2''];rfl,by simp only [aE];rw [aq q2''];rfl,by simp only [aE];rw [aq q2''];rfl,aI hs3.bd.le he.c5,?_⟩;have hkT:=HO (o:=o) k0 k1 k2;obtain ⟨_,hcl,_,_,⟨sb,hbb,hob,_⟩,_⟩:=hs3.bd;have hle3:=hs3.bd.le;clear hs3;have ev:vis (ap o t0 t1 t2) []=bi (ap o t0 t1 t2):=rfl;rw [ev] at*;have h45:=hle3 _ _ (lE _ _ q4);replace hbb:F5 bb=Y3 (Y4 #[sb.v,Value.map (Y3 mm)] 199):=hbb;have nbb:bb≠b4:=λe=>by rw [e,h45] at hbb;simp at hbb
 have hob':bV (dR F5 b4) 124 3 sb (aW (brs (bi (ap o t0 t1 t2)))):=hob.keep λa ha=>by obtain ⟨cur,hcur⟩:=hob.elem ha;refine ff (λe=> ?_);rw [e,h45] at hcur;cases hcur
 refine (ai.avoid (mw (b:=bb) (F:=dR F5 b4) (ns:=sb) (by rw [aq ((ff nbb).trans hbb)];rfl) hob'.rd hcl (bW hkT) hf) h45).mono ?_;rintro _ F6 ⟨G6,⟨w,rfl,hw,l6'⟩,lg,h46,hg4⟩;have l56:=ie l6' lg h46 h45;have q2f:=l56 _ _ q2'';refine ⟨_,rfl,by simp only [aE];rw [aq q2f];rfl,by simp only [aE];rw [aq q2f];rfl,by simp only [aE];rw [aq q2f];rfl,?_⟩;exact gq (K:=λvres F'=>∃w,Y9 vres=Y9 w/\DV F' w (dia (ap o t0 t1 t2))/\F.le F') hw h46 rfl ⟨w,rfl,hw.le (aw lg hg4),aw (lF.trans (hle3.trans l56)) f4⟩
end
abbrev ot:Dia:=([],0)
abbrev DR:=Dia×Int
def lY:List Dia->Int
 |[]=>0
 |d::r=>if chk d≠0 then chk d else lY r
open Classical in
def tre (d:Dia):Tr:=if h:i7 d then h.choose else Y0 Y6
theorem iE {t:Tr} (h:t.ok):tre (dia t)=t:=by have hv:i7 (dia t):=⟨t,h,rfl⟩;unfold tre;rw [dif_pos hv];exact (mL h hv.choose_spec.1 hv.choose_spec.2).symm
theorem Oe {d:Dia} (h:chk d=0):(tre d).ok/\d=dia (tre d)/\d.1.length<=4096:=by
 unfold chk at h;split at h
 ·cases h
 ·rename_i hl;split at h
  ·rename_i hv;unfold tre;rw [dif_pos hv];exact ⟨hv.choose_spec.1,hv.choose_spec.2,by omega⟩
  ·cases h
theorem B4 {t:Tr} (h:t.ok) (hl:(bi t).length<=4096):chk (dia t)=0:=by unfold chk;rw [Υ (by simp only [dia,aN];omega),Χ ⟨t,h,rfl⟩]
theorem xQ {d:Dia} (h:chk d=0):(bi (tre d)).length<=4096:=by obtain ⟨_,h2,h3⟩:=Oe h;rw [h2] at h3;simpa [dia,aN] using h3
def lim (d:Dia):DR:=if 4096<d.1.length then (ot,2) else (d,0)
abbrev Op2:=Bool->Bool->Bool
def bin (o:Op2) (a b:Dia):DR:=if lY [a,b]≠0 then (ot,lY [a,b]) else lim (dia (ap (λx y _=>o x y) (tre a) (tre b) (Y0 Y6)))
def DRV (F:PH) (v:ξ) (x:DR):Prop:=∃w,v=Zh #[Y9 w,vi x.2]/\DV F w x.1
theorem DRV.le {F G:PH} {v:ξ} {x:DR} (h:DRV F v x) (hl:F.le G):DRV G v x:=by obtain ⟨w,h1,h2⟩:=h;exact ⟨w,h1,h2.le hl⟩
theorem DV.none (F:PH):DV F zD ot:=⟨Zi,rfl,RdS.nil F 3⟩
theorem xR {F:PH} {x:Nat} {dd:List Dia} {n:Nat} (hn:n=dd.length) (hs:n<=100) (h:∀i (hi:i<dd.length),∃w,F.row ⟨x,i*2,Y5⟩ w/\DV F w dd[i]):
  ν 95 #[(Sl.mk (Y3 ⟨x,0,Y5⟩) n n).v] F λr F'=>r=vi (lY dd)/\F.le F':=by
 subst hn;refine Wv ?_;unfold Th;refine ⟨λm i F'=>∃k:Nat,i=k/\k<=dd.length/\m=dd.length - k/\F.le F'/\lY dd=lY (dd.drop k),dd.length,⟨0,rfl,by omega,rfl,PH.le_rfl,rfl⟩,?_⟩;rintro m i F1 ⟨k,rfl,hk,rfl,hle,hch⟩;unfold Hb;refine ⟨λhlt=> ?_,λhge=> ?_⟩
 ·have hkd:k<dd.length:=by simpa using hlt
  obtain ⟨w,hr,hd⟩:=h k hkd;refine ⟨_,rfl,by omega,hlt,w,hd.size,by simpa using aU hle hr,?_⟩;intro b4 hb4;refine atI ?_;refine stW (al _ _ _) hd.size rfl hd.st ?_;rw [aT];have l4:=ae (Y4 w 31) hb4;refine ⟨w,hd.size,ac (al _ _ _),?_⟩;refine (rY (hd.le (hle.trans l4))).mono ?_;rintro _ F2 ⟨rfl,l5⟩;rw [List.drop_eq_getElem_cons hkd] at hch;refine ⟨_,rfl,λhne=> ?_,λhe=> ?_⟩
  ·refine ⟨?_,(hle.trans l4).trans l5⟩;rw [hch];unfold lY;rw [Χ hne]
  ·refine ⟨dd.length - (k+1),by omega,k+1,fz (by omega),by omega,rfl,(hle.trans l4).trans l5,?_⟩;rw [hch]
   conv=>lhs;unfold lY
   rw [Υ he]
 ·unfold Ha;have hk':k=dd.length:=by
   have:¬k<dd.length:=by simpa using hge
   omega
  refine ⟨?_,hle⟩;rw [hch,hk',XQ];rfl
theorem wc {F:PH} {v:Γ} {d:Dia} (hd:DV F v d):ν 126 #[Y9 v] F λr F'=>DRV F' r (lim d)/\F.le F':=by
 have hd':=hd;obtain ⟨s,rfl,hr⟩:=hd;have hlen:=hr.blen;refine Tm ?_;unfold MT;intro b1 hb1;refine atI ?_;have l1:=ae (Y4 #[s.v,vi d.2] 31) hb1;have h1:=al F b1 (Y4 #[s.v,vi d.2] 31);generalize F.set b1 (Y4 #[s.v,vi d.2] 31)=F1 at*;intro b2 hb2;refine atI ?_;have l2:=l1.trans (ae (Y4 zD 31) hb2);have n12:b1≠b2:=aG hb2 h1;have f2:F b2=Y5:=aS l1 hb2;refine ⟨s,by rw [aq ((az _ _ n12).trans h1)];rfl,λh=> ?_,λh=> ?_⟩
 ·refine gq (K:=λvres F'=>DRV F' (Zh #[Y9 vres,vi 2]) (lim d)/\F.le F') (DV.none F) (al _ _ _) rfl ⟨?_,aw l2 f2⟩;unfold lim;rw [Χ (by omega)];exact ⟨_,rfl,DV.none _⟩
 ·refine ⟨#[s.v,vi d.2],rfl,ac ((az _ _ n12).trans h1),?_⟩;refine gq (K:=λvres F'=>DRV F' (Zh #[Y9 vres,vi 0]) (lim d)/\F.le F') hd' (al _ _ _) rfl ⟨?_,aw l2 f2⟩;unfold lim;rw [Υ (by omega)];exact ⟨_,rfl,hd'.le (aw l2 f2)⟩
def Jy (F0:PH) (v:ξ) (o:Op2):Prop:=∃(k:Nat) (fst cap:Γ),v=.func (.func k) fst cap/\aC prog k=Y8/\
 ∀(x y:Bool) (F:PH),F0.le F->ai prog k (fst++[Za x,Za y].toArray++cap) F λr F'=>r=Za (o x y)/\F.le F'
theorem Ry:aC prog 128=Y8:=by kernel_rfl
theorem Jz {F0:PH} {b:Nat} {v:ξ} {o:Op2} (hb:F0.cell ⟨b,0,Y5⟩=Y3 v) (h:Jy F0 v o):OpV F0 (.func (.func 128) #[] #[Ze (Y3 ⟨b,0,Y5⟩)]) (λx y _=>o x y):=by refine ⟨128,#[],#[Ze (Y3 ⟨b,0,Y5⟩)],rfl,Ry,λx y z F hle=> ?_⟩;obtain ⟨k,fst,cap,rfl,hcb,hsp⟩:=h;refine To ?_;unfold MV;refine ⟨_,rfl,_,aI hle hb,k,fst,cap,rfl,hcb,?_⟩;refine (hsp x y F hle).mono ?_;rintro _ F' ⟨rfl,hl⟩;exact ⟨_,rfl,rfl,hl⟩
theorem FI {a b c:Nat} (ha:a<=4096) (hb:b<=4096) (hc:c<=4096):(a+2)*((b+2)*(c+2))<=68820189192:=by
 calc (a+2)*((b+2)*(c+2))<=4098*(4098*4098):=Nat.mul_le_mul (by omega) (Nat.mul_le_mul (by omega) (by omega))
  _<=68820189192:=by decide
theorem Rz {a b:Dia} (h:¬lY [a,b]≠0):chk a=0/\chk b=0:=by
 unfold lY at h;split at h
 ·exact absurd (by assumption) h
 ·rename_i ha;unfold lY at h;split at h
  ·exact absurd (by assumption) h
  ·rename_i hb;omega
section
variable {F:PH} {v w:Γ} {a b:Dia} {opv:ξ} {o:Op2}
theorem ou (ha:DV F v a) (hb:DV F w b) (hop:Jy F opv o):ν 77 #[Y9 v,Y9 w,opv] F λr F'=>DRV F' r (bin o a b)/\F.le F':=by
 have ha':=ha;have hb':=hb;obtain ⟨s,rfl,hr⟩:=ha;obtain ⟨t,rfl,ht⟩:=hb;refine Ws ?_;unfold Td;intro b3 hb3;refine atI ?_;have l3:=ae (Y4 #[s.v,vi a.2] 31) hb3;have q3:=al F b3 (Y4 #[s.v,vi a.2] 31);generalize F.set b3 (Y4 #[s.v,vi a.2] 31)=F3 at*;intro b4 hb4;refine atI ?_;have lx:=ae (Y4 #[t.v,vi b.2] 31) hb4;have q4:=al F3 b4 (Y4 #[t.v,vi b.2] 31);have q3:=lx _ _ q3;have l4:=l3.trans lx;clear lx;generalize F3.set b4 (Y4 #[t.v,vi b.2] 31)=F4 at*;refine ⟨by obtain ⟨k,f,c,rfl,_⟩:=hop;rfl,λb5 hb5=> ?_⟩;refine atI ?_;have lx:=ae (Y4 #[opv] 121) hb5;have q5:=al F4 b5 (Y4 #[opv] 121);have q3:=lx _ _ q3;have q4:=lx _ _ q4;have l5:=l4.trans lx;clear lx;generalize F4.set b5 (Y4 #[opv] 121)=F5 at*;intro b6 hb6;refine atI ?_;have f6:F b6=Y5:=aS l5 hb6;have n3:b3≠b6:=aG hb6 q3;have n4:b4≠b6:=aG hb6 q4;have n5:b5≠b6:=aG hb6 q5;have lx:=ae (Y4 zD 31) hb6;have q6:=al F5 b6 (Y4 zD 31);have q3:=lx _ _ q3;have q4:=lx _ _ q4;have q5:=lx _ _ q5;have l6:=l5.trans lx;clear lx;generalize F5.set b6 (Y4 zD 31)=F6 at*;refine ⟨#[s.v,vi a.2],rfl,ac q3,#[t.v,vi b.2],rfl,ac q4,rfl,rfl,λb11 hb11=> ?_⟩;refine atI ?_;have e11:wr (wr (#[Zm Y5 0 0,vi 0,Zm Y5 0 0,vi 0]:Γ) 0 (#[s.v,vi a.2]:Γ).toList) 2 (#[t.v,vi b.2]:Γ).toList= #[s.v,vi a.2,t.v,vi b.2]:=rfl;rw [e11];have lx:=ae (Y4 #[s.v,vi a.2,t.v,vi b.2] 31) hb11;have q11:=al F6 b11 (Y4 #[s.v,vi a.2,t.v,vi b.2] 31);have q3:=lx _ _ q3;have q4:=lx _ _ q4;have q5:=lx _ _ q5;have q6:=lx _ _ q6;have l11:=l6.trans lx;clear lx;generalize F6.set b11 (Y4 #[s.v,vi a.2,t.v,vi b.2] 31)=F7 at*;refine (xR (F:=F7) (x:=b11) (dd:=[a,b]) (n:=2) rfl (by omega) (λi hi=> ?_)).mono ?_
 ·have row:∀(j:Nat) (s':Sl) (r:Int),(#[s.v,vi a.2,t.v,vi b.2]:Γ)[j]? =Y3 s'.v->(#[s.v,vi a.2,t.v,vi b.2]:Γ)[j+1]? =Y3 (vi r)->F7.row ⟨b11,j,Y5⟩ #[s'.v,vi r]:=λj s' r h1 h2 i hi=>by
   simp only [aE];rw [aq q11]
   match i,hi with
   |0,_=>simpa using h1
   |1,_=>simpa using h2
  match i,hi with
  |0,_=>exact ⟨_,row 0 s _ rfl rfl,ha'.le l11⟩
  |1,_=>exact ⟨_,row 2 t _ rfl rfl,hb'.le l11⟩
 rintro _ F8 ⟨rfl,l8⟩;have q3:=l8 _ _ q3;have q4:=l8 _ _ q4;have q5:=l8 _ _ q5;have q6:=l8 _ _ q6;have l8:=l11.trans l8;refine ⟨_,rfl,λh=> ?_,λh=> ?_⟩
 ·refine gq (K:=λvres F'=>DRV F' (Zh #[Y9 vres,vi (lY [a,b])]) (bin o a b)/\F.le F') (DV.none F) q6 rfl ⟨?_,aw l8 f6⟩;unfold bin;rw [Χ h];exact ⟨_,rfl,DV.none _⟩
 ·obtain ⟨hca,hcb⟩:=Rz h;obtain ⟨ka,ea,la⟩:=Oe hca;obtain ⟨kb,eb,lb⟩:=Oe hcb;have sa:=xQ hca;have sb:=xQ hcb;have hlen:=D1 (o:=λx y _=>o x y) ka kb (d:=Y0 Y6) trivial;have hpf:=FI sa sb (c:=(bi (Y0 Y6)).length) (by simp [bi,vis]);refine ⟨#[s.v,vi a.2],rfl,ac q3,#[t.v,vi b.2],rfl,ac q4,rfl,rfl,rfl,?_⟩;have hbin:bin o a b=lim (dia (ap (λx y _=>o x y) (tre a) (tre b) (Y0 Y6))):=by unfold bin;rw [Υ h]
  rw [hbin];have ld:F.le (dR F8 b6):=eL l8 f6;have hc:=wb (F:=dR F8 b6) (s0:=s) (s1:=t) (s2:=Zi) (t0:=tre a) (t1:=tre b) (t2:=Y0 Y6) (opv:=.func (.func 128) #[] #[Ze (Y3 ⟨b5,0,Y5⟩)]) (o:=λx y _=>o x y)
   (by rw [<- ea];exact hr.le ld) (by rw [<- eb];exact ht.le ld) (RdS.nil _ _) ka kb trivial (by omega) (by omega) (by simp [bi,vis]) (by omega)
   (Jz (b:=b5) (v:=opv) (by rw [aq ((ff n5).trans q5)];rfl) (by
    obtain ⟨k,f,c,h1,h2,h3⟩:=hop
    exact ⟨k,f,c,h1,h2,λx y G hG=>h3 x y G (ld.trans hG)⟩))
  rw [<- ea,<- eb] at hc;refine (ai.avoid hc q6).mono ?_;rintro _ F9 ⟨G,⟨w,rfl,hw,lg⟩,lG,q6',g6⟩;have l9:=ie lg lG q6' q6;refine ⟨_,rfl,?_⟩;have hw':DV (dR F9 b6) w (dia (ap (λx y _=>o x y) (tre a) (tre b) (Y0 Y6))):=hw.le (λx ob hx=>by rw [ff (λe=>by rw [e,g6] at hx;cases hx)];exact lG _ _ hx);refine (ai.avoid (wc hw') q6').mono ?_;rintro _ F10 ⟨G',⟨⟨w',rfl,hw''⟩,lg'⟩,lG',q6'',g6'⟩;have l10:=ie lg' lG' q6'' q6';refine ⟨_,_,rfl,?_⟩;exact gq (K:=λvres F'=>DRV F' (Zh #[Y9 vres,vi _]) (lim (dia (ap (λx y _=>o x y) (tre a) (tre b) (Y0 Y6))))/\F.le F') hw'' q6'' rfl ⟨⟨_,rfl,hw''.le (aw lG' g6')⟩,aw (l8.trans (l9.trans l10)) f6⟩
end
theorem DV.beside {F G:PH} {x:Nat} {w:Γ} {d:Dia} (h:DV G w d) (hl:G.le F) (hx:G x=Y5):DV (dR F x) w d:=
 h.le λy ob hy=>by rw [ff (λe=>by rw [e,hx] at hy;cases hy)];exact hl _ _ hy
theorem zQ {f:FuncId} {args:Γ} {F:PH} {x:Nat} {o:Obj} {y:DR} (h:ai prog f args (dR F x) λr F'=>DRV F' r y/\(dR F x).le F') (hx:F x=Y3 o):
  ai prog f args F λr F'=>∃w,r=Zh #[Y9 w,vi y.2]/\(∃G,DV G w y.1/\G.le F'/\G x=Y5)/\F.le F'/\F' x=Y3 o:=
 (ai.avoid h hx).mono λ_ _ ⟨G,⟨⟨w,hr,hw⟩,lg⟩,lG,q,g⟩=>⟨w,hr,⟨G,hw,lG,g⟩,ie lg lG q hx,q⟩
theorem iZ {f:FuncId} {args:Γ} {F:PH} {x:Nat} {o:Obj} {d:Dia} (h:ai prog f args (dR F x) λr F'=>∃w,r=Y9 w/\DV F' w d/\(dR F x).le F') (hx:F x=Y3 o):
  ai prog f args F λr F'=>∃w,r=Y9 w/\(∃G,DV G w d/\G.le F'/\G x=Y5)/\F.le F'/\F' x=Y3 o:=
 (ai.avoid h hx).mono λ_ _ ⟨G,⟨w,hr,hw,lg⟩,lG,q,g⟩=>⟨w,hr,⟨G,hw,lG,g⟩,ie lg lG q hx,q⟩
theorem Mi {F G F0:PH} {b e1:Nat} {c4:Γ} {y:DR} {w:Γ} (hw:DV G w y.1) (hl:G.le F) (hg:G b=Y5) (h4:F b=Y3 (Y4 c4 e1 (0,0))) (hc4:c4.size=2) (h0:F0.le F) (hb:F0 b=Y5):
  w.size=2/\(∀v∈w.toList,ak v)/\∃c e,F (Zc b 0 Y5).block=Y3 (Y4 c e (0,0))/\(Zc b 0 Y5).spot=Y5/\(Zc b 0 Y5).off+2<=c.size/\
   atF (F.set (Zc b 0 Y5).block (Y4 (wr c (Zc b 0 Y5).off w.toList) e)) λF=>∃vres:Γ,vres.size=2/\F.row (Zc b 0 Y5) vres/\DRV F (Zh #[Y9 vres,vi y.2]) y/\F0.le F:=
 gq (K:=λvres F'=>DRV F' (Zh #[Y9 vres,vi y.2]) y/\F0.le F') hw h4 hc4 ⟨⟨_,rfl,hw.le (aw hl hg)⟩,aw h0 hb⟩
theorem Of {F F0:PH} {b e1:Nat} {c4:Γ} {er:Int} (h4:F b=Y3 (Y4 c4 e1 (0,0))) (hc4:c4.size=2) (h0:F0.le F) (hb:F0 b=Y5):
  (zD:Γ).size=2/\(∀v∈(zD:Γ).toList,ak v)/\∃c e,F (Zc b 0 Y5).block=Y3 (Y4 c e (0,0))/\(Zc b 0 Y5).spot=Y5/\(Zc b 0 Y5).off+2<=c.size/\
   atF (F.set (Zc b 0 Y5).block (Y4 (wr c (Zc b 0 Y5).off (zD:Γ).toList) e)) λF=>∃vres:Γ,vres.size=2/\F.row (Zc b 0 Y5) vres/\DRV F (Zh #[Y9 vres,vi er]) (ot,er)/\F0.le F:=
 gq (K:=λvres F'=>DRV F' (Zh #[Y9 vres,vi er]) (ot,er)/\F0.le F') (DV.none F) h4 hc4 ⟨⟨_,rfl,DV.none _⟩,aw h0 hb⟩
abbrev aY:Op2:=λx y=>x && y
abbrev oOr:Op2:=λx y=>x || y
abbrev kN:Op2:=λx y=> !(x==y)
theorem VV:aC prog 87=Y8:=by kernel_rfl
theorem VX:aC prog 78=Y8:=by kernel_rfl
theorem VY (F0:PH):Jy F0 (.func (.func 87) #[] #[]) aY:=⟨87,#[],#[],rfl,VV,λx y F _=>by
 refine Wu ?_;unfold Tf
 exact ⟨λh=>⟨by simp [h],PH.le_rfl⟩,λh=>⟨by simp [h],PH.le_rfl⟩⟩⟩
theorem VZ (F0:PH):Jy F0 (.func (.func 78) #[] #[]) oOr:=⟨78,#[],#[],rfl,VX,λx y F _=>by
 refine Wt ?_;unfold Te
 exact ⟨λh=>⟨by simp [h],PH.le_rfl⟩,λh=>⟨by simp [h],PH.le_rfl⟩⟩⟩
section
variable {F:PH} {v w u:Γ} {a b c:Dia}
theorem FJ (ha:DV F v a) (hb:DV F w b):ν 35 #[Y9 v,Y9 w] F λr F'=>DRV F' r (bin aY a b)/\F.le F':=by refine Wr ?_;unfold Tc;intro b2 hb2;refine atI ?_;have l2:=ae (Y4 v 31) hb2;have q2:=al F b2 (Y4 v 31);generalize F.set b2 (Y4 v 31)=F2 at*;intro b3 hb3;refine atI ?_;have lx:=ae (Y4 w 31) hb3;have q3:=al F2 b3 (Y4 w 31);have q2:=lx _ _ q2;have l3:=l2.trans lx;clear lx;generalize F2.set b3 (Y4 w 31)=F3 at*;intro b4 hb4;refine atI ?_;have f4:F b4=Y5:=aS l3 hb4;have lx:=ae (Y4 zD 31) hb4;have q4:=al F3 b4 (Y4 zD 31);have q2:=lx _ _ q2;have q3:=lx _ _ q3;have l4:=l3.trans lx;clear lx;generalize F3.set b4 (Y4 zD 31)=F4 at*;refine ⟨v,ha.size,ac q2,w,hb.size,ac q3,?_⟩;have ld:=eL l4 f4;refine (zQ (ou (ha.le ld) (hb.le ld) (VY _)) q4).mono ?_;rintro _ F5 ⟨z,rfl,⟨G,hz,lG,gG⟩,l5,q5⟩;exact ⟨_,_,rfl,Mi hz lG gG q5 rfl (l4.trans l5) f4⟩
theorem JA (ha:DV F v a) (hb:DV F w b):ν 28 #[Y9 v,Y9 w] F λr F'=>DRV F' r (bin oOr a b)/\F.le F':=by refine Wp ?_;unfold Ta;intro b2 hb2;refine atI ?_;have l2:=ae (Y4 v 31) hb2;have q2:=al F b2 (Y4 v 31);generalize F.set b2 (Y4 v 31)=F2 at*;intro b3 hb3;refine atI ?_;have lx:=ae (Y4 w 31) hb3;have q3:=al F2 b3 (Y4 w 31);have q2:=lx _ _ q2;have l3:=l2.trans lx;clear lx;generalize F2.set b3 (Y4 w 31)=F3 at*;intro b4 hb4;refine atI ?_;have f4:F b4=Y5:=aS l3 hb4;have lx:=ae (Y4 zD 31) hb4;have q4:=al F3 b4 (Y4 zD 31);have q2:=lx _ _ q2;have q3:=lx _ _ q3;have l4:=l3.trans lx;clear lx;generalize F3.set b4 (Y4 zD 31)=F4 at*;refine ⟨v,ha.size,ac q2,w,hb.size,ac q3,?_⟩;have ld:=eL l4 f4;refine (zQ (ou (ha.le ld) (hb.le ld) (VZ _)) q4).mono ?_;rintro _ F5 ⟨z,rfl,⟨G,hz,lG,gG⟩,l5,q5⟩;exact ⟨_,_,rfl,Mi hz lG gG q5 rfl (l4.trans l5) f4⟩
abbrev tv (v:Nat):Tr:=Y1 v (Y0 Y6) (Y0 Y8)
theorem Og (v:Nat):dia (tv v)=([⟨(v:Int),0,1⟩],2):=by
 have e:bi (tv v)=[tv v]:=by simp [bi,vis,tv]
 unfold dia;rw [e];simp [brs,br,num,tv]
theorem rL {v:Nat} (h:v<64):(tv v).ok:=⟨h,h,h,by simp,trivial,trivial⟩
theorem fg (x:Bool):ν 27 #[Za x] F λr F'=>∃w,r=Y9 w/\DV F' w (dia (Y0 x))/\F.le F':=by
 refine Wo ?_;unfold S9;intro b2 hb2;refine atI ?_;have l2:=ae (Y4 zD 31) hb2;have q2:=al F b2 (Y4 zD 31);refine ⟨λh=> ?_,λh=> ?_⟩
 ·subst h;have hd:∀G:PH,DV G #[Zm Y5 0 0,vi 1] (dia (Y0 Y8)):=λG=>⟨Zi,rfl,RdS.nil G 3⟩;exact gq (K:=λvres F'=>∃w,Y9 vres=Y9 w/\DV F' w (dia (Y0 Y8))/\F.le F') (hd F) q2 rfl ⟨_,rfl,hd _,aw l2 hb2⟩
 ·subst h;have hd:∀G:PH,DV G zD (dia (Y0 Y6)):=λG=>⟨Zi,rfl,RdS.nil G 3⟩;exact gq (K:=λvres F'=>∃w,Y9 vres=Y9 w/\DV F' w (dia (Y0 Y6))/\F.le F') (hd F) q2 rfl ⟨_,rfl,hd _,aw l2 hb2⟩
def tu (v:Int):DR:=if v<0\/63<v then (ot,1) else (dia (tv v.toNat),0)
end
section
end
section
variable {F:PH} {v:Γ} {a:Dia}
theorem B5 {x:Int} (h1:0<=x) (h2:x<18446744073709551616):u64.wrap x=x:=by unfold IntKind.wrap;simp only [IntKind.bits,IntKind.signed];simp only [Bool.false_and,XE,if_false];omega
end
def lm (n:Nat):Δ:=if h:n=0 then [] else n % 4294967296::lm (n / 4294967296)
termination_by n
decreasing_by exact Nat.div_lt_self (by omega) (by decide)
abbrev V0 (l:Δ):Ξ:=l.map λ(x:Nat)=>Zf .u32 (x:Int)
def NV (F:PH) (s:Sl) (n:Nat):Prop:=RdS F s 1 (V0 (lm n))
theorem NV.le {F G:PH} {s:Sl} {n:Nat} (h:NV F s n) (hl:F.le G):NV G s n:=RdS.le h hl
section
end
section
end
def eH (n:Nat):Tr->Prop
 |Y0 _=>True
 |Y1 v l h=>v<n/\eH n l/\eH n h
theorem nC {F G:PH} {x:Nat} (h:F.le G):(dR F x).le (dR G x):=λy o hy=>by
 have hne:y≠x:=λe=>by rw [e,zO] at hy;cases hy
 rw [ff hne] at hy ⊢;exact h _ _ hy
section
end
theorem rM {T:List Tr} (hT:Cl T) {n:Nat} (h:∀x∈T,x.top<n):∀(t:Tr),inn T t->eH n t
 |Y0 _,_=>trivial
 |Y1 v l r,ht=>by obtain ⟨il,ir⟩:=hT.inn_kids ht;exact ⟨h _ (cP ht rfl),rM hT h l il,rM hT h r ir⟩
section
end
section
end
variable {R:VR} {F:PH}
set_option maxHeartbeats 4000000
def RA (a:Bool) (R:VR) (F:PH):Prop:=Nb F (Y4 zD 31) λb F=>Bb (a) (au F (Am b 0) 2 (#[Zm Y5 0 0,(vi 1)]:Γ) λF=>Rr 2 (Am b 0) R F) (au F (Am b 0) 2 zD λF=>Rr 2 (Am b 0) R F)
theorem V1 {a:Bool} (h:RA a R F):ν 34 #[Za a] F R:=Rx.Λ .N h
def RC (a b:Γ) (R:VR) (F:PH):Prop:=Nb F (Y4 a 31) λg F=>Nb F (Y4 b 31) λh F=>Nb F (Y4 zD 31) λf F=>Lr F 2 (Am g 0) λc=>Lr F 2 (Am h 0) λd=>Ca 110 #[Y9 c,Y9 d,(vi 0)] F λe F=>au F (Am f 0) 2 e λF=>Rr 2 (Am f 0) R F
theorem V2 {a:Γ} {b:Γ} (h:RC a b R F):ν 45 #[Y9 a,Y9 b] F R:=Rx.Λ .N h
def Oh (R:VR) (F:PH):Prop:=R (Za Y8) F
def FK (k:Ω) (j l:Nat) (R:VR) (a:Int) (F:PH):Prop:=Ls F (Am j 0) λc=>Bc (a<(c.len:Int)) (Ls F (Am j 0) λd=>Ix d a λe=>Lr F 3 (Zb e (Zd a*3)) λf=>Ls F (Am l 0) λg=>Ix g a λh=>Lr F 3 (Zb h (Zd a*3)) λi=>∃b,(∀F,rdo prog (Op.equal 124 (Y9 f) (Y9 i)) F b)/\Bb ((!b)) (R (Za Y6) F) (k (i64.wrap (a+1)) F)) (Oh R F)
def RI (c d:Γ) (R:VR) (F:PH):Prop:=Nb F (Y4 c 31) λe F=>Nb F (Y4 d 31) λf F=>Li F (Am e 1) λg=>Li F (Am f 1) λh=>Bc (g≠h) (R (Za Y6) F) (Ls F (Am e 0) λa=>Ls F (Am f 0) λb=>Bc ((a.len:Int)≠(b.len:Int)) (R (Za Y6) F) (Lp 0 F λN i F=>FK N e f R i F))
theorem V3 {a:Γ} {b:Γ} (h:RI a b R F):ν 50 #[Y9 a,Y9 b] F R:=Rx.Λ (.Y2 (.Y2 (.J Y6 [] (.Y2 (.L [(5,.int .i64)] .N)) .N))) h
def RJ (b:Sl) (c:Int) (R:VR) (F:PH):Prop:=Nb F (Y4 zD 31) λd F=>Ca 135 #[Y7 b,(vi (max 0 (min c 6))),(vi 0),(vi 0)] F λa F=>au F (Am d 0) 2 a λF=>Rr 2 (Am d 0) R F
theorem V4 {a:Sl} {b:Int} (h:RJ a b R F):ν 82 #[Y7 a,(vi b)] F R:=Rx.Λ .N h
def RM (b:Γ) (R:VR) (F:PH):Prop:=Nb F (Y4 b 31) λe F=>Nb F (Y4 zD 31) λf F=>Lr F 2 (Am e 0) λa=>Ca 34 #[Za Y8] F λc F=>F.row (Am e 0) a/\Ca 110 #[Y9 a,Y9 c,(vi 2)] F λd F=>au F (Am f 0) 2 d λF=>Rr 2 (Am f 0) R F
theorem V5 {a:Γ} (h:RM a R F):ν 86 #[Y9 a] F R:=Rx.Λ .N h
def lZ (c:Int) (d:Nat) (e:Bool) (R:VR) (F:PH):Prop:=Bb (e) (au F (Am d 0) 2 zD λF=>Lr F 2 (Am d 0) λb=>R (Zh #[Y9 b,(vi 1)]) F) ((#[(vi c),(vi 0),(vi 1)]:Γ).size=3/\Nb F (Y4 (#[(vi c),(vi 0),(vi 1)]:Γ) 124) λf F=>au F (Am d 0) 2 (#[Y7 (Sb f 1),(vi 2)]:Γ) λF=>Lr F 2 (Am d 0) λa=>R (Zh #[Y9 a,(vi 0)]) F)
def Mj (a:Int) (R:VR) (F:PH):Prop:=Nb F (Y4 zD 31) λb F=>Bc (a<0) (lZ a b Y8 R F) (lZ a b (decide (63<a)) R F)
theorem RN {a:Int} (h:Mj a R F):ν 109 #[(vi a)] F R:=Rx.Λ (.Y2 (.T (.J Y6 [(9,.bool)] .N .N) .N)) h
def Mk (j k:Γ) (b:Int) (R:VR) (F:PH):Prop:=Nb F (Y4 j 31) λl F=>Nb F (Y4 k 31) λm F=>Nb F (Y4 zD 31) λn F=>Lr F 2 (Am l 0) λc=>Lr F 2 (Am m 0) λa=>c.size=2/\a.size=2/\Nb F (Y4 (Array.setIfInBounds (wr (wr (#[Zm Y5 0 0,vi 0,.slice Y5 0 0,vi 0,vi 0,.slice Y5 0 0,.slice Y5 0 0]:Γ) 0 c.toList) 2 a.toList) 4 (vi b)) 203) λd F=>Li F (Am l 1) λe=>Li F (Am m 1) λf=>Ci 160 #[(Pp d),(vi e),(vi f)] F λg F=>Ls F (Am d 5) λh=>Ca 161 #[Y7 h,(vi g)] F λi F=>au F (Am n 0) 2 i λF=>Rr 2 (Am n 0) R F
theorem RO {b:Γ} {c:Γ} {a:Int} (h:Mk b c a R F):ν 110 #[Y9 b,Y9 c,(vi a)] F R:=Rx.Λ .N h
def Ml (a b:Γ) (R:VR) (F:PH):Prop:=Nb F (Y4 a 31) λg F=>Nb F (Y4 b 31) λh F=>Nb F (Y4 zD 31) λf F=>Lr F 2 (Am g 0) λc=>Lr F 2 (Am h 0) λd=>Ca 110 #[Y9 c,Y9 d,(vi 1)] F λe F=>au F (Am f 0) 2 e λF=>Rr 2 (Am f 0) R F
theorem RQ {a:Γ} {b:Γ} (h:Ml a b R F):ν 123 #[Y9 a,Y9 b] F R:=Rx.Λ .N h
def FL (d:Sl) (j c a:Int) (R:VR) (F:PH):Prop:=Nb F (Y4 zD 31) λl F=>Bc (c=j) (Bc ((i64.wrap (Int.tdiv a 8))<(d.len:Int)) (Ix d (i64.wrap (Int.tdiv a 8)) λm=>∃g,F.cell (Zb m (Zd (i64.wrap (Int.tdiv a 8))*1))=Y3 (Zf .u8 g)/\0<=(u64.wrap (Zk a 8))/\Ca 34 #[Za (decide ((u8.wrap ((BitVec.ofInt (u8).bits (Int.fdiv g (2 ^ (min (Zd (u64.wrap (Zk a 8))) (u8).bits))) &&& BitVec.ofInt (u8).bits 1).toNat))=1))] F λn F=>au F (Am l 0) 2 n λF=>Rr 2 (Am l 0) R F) (Ca 34 #[Za Y6] F λe F=>au F (Am l 0) 2 e λF=>Rr 2 (Am l 0) R F)) (ν 109 #[(vi c)] F λv F=>∃h,∃f,v=(Zh #[Y9 h,(vi f)])/\Nb F (Y4 zD 31) λk F=>au F (Am k 0) 2 h λF=>Lr F 2 (Am k 0) λi=>0<=(u64.wrap c)/\Lr F 2 (Am k 0) λb=>Ca 135 #[Y7 d,(vi j),(vi (i64.wrap (c+1))),(vi (i64.wrap (a+(i64.wrap (1*2 ^ (min (Zd (u64.wrap c)) (i64).bits))))))] F λo F=>F.row (Am k 0) b/\F.row (Am k 0) i/\Ca 45 #[Y9 i,Y9 o] F λp F=>F.row (Am k 0) b/\Ca 135 #[Y7 d,(vi j),(vi (i64.wrap (c+1))),(vi a)] F λq F=>F.row (Am k 0) b/\Ca 175 #[Y9 q,Y9 b] F λr F=>Ca 123 #[Y9 p,Y9 r] F λs F=>au F (Am l 0) 2 s λF=>Rr 2 (Am l 0) R F)
theorem Mm {a:Sl} {b:Int} {c:Int} {d:Int} (h:FL a b c d R F):ν 135 #[Y7 a,(vi b),(vi c),(vi d)] F R:=Rx.Λ .N h
def we (w:Θ) (h i:Int) (R:VR) (F:PH):Prop:=∃a,w=Y3 a/\Lr F 2 a λr=>Lr F 2 (Zb a 2) λj=>Ci 192 #[Y9 r,(vi h)] F λe F=>F.row (Zb a 2) j/\Ci 192 #[Y9 j,(vi i)] F λf F=>Lr F 2 a λs=>ν 193 #[Y9 s,(vi h),(vi (min e f))] F λv F=>∃k,∃c,v=(Zh #[(vi k),(vi c)])/\Lr F 2 (Zb a 2) λt=>ν 193 #[Y9 t,(vi i),(vi (min e f))] F λv F=>∃l,∃d,v=(Zh #[(vi l),(vi d)])/\Ci 160 #[Ze (Y3 a),(vi k),(vi l)] F λm F=>Ci 160 #[Ze (Y3 a),(vi c),(vi d)] F λn F=>Ls F (Zb a 5) λo=>ν 194 #[Y7 o,Y9 (#[(vi (min e f)),(vi m),(vi n)]:Γ)] F λv F=>∃g,∃b,v=(Zh #[Y7 g,(vi b)])/\sto F (Zb a 5) (Y7 g) λF=>Ls F (Zb a 6) λp=>(#[(vi h),(vi i),(vi b)]:Γ).size=3/\Nb F (Y4 (#[(vi h),(vi i),(vi b)]:Γ) 215) λu F=>Ap 201 #[Y7 p,Y7 (Sb u 1)] F λq F=>sto F (Zb a 6) (Y7 q) λF=>R (vi b) F
def pH (g:Ω) (a:Addr) (_ _ b:Int) (c:Bool) (R:VR) (F:PH):Prop:=Bb (c) (Ls F (Zb a 6) λd=>Ix d b λe=>0<=(2:Int)/\(2:Int)<3/\Li F (Zb (Zb e (Zd b*3)) (Zd 2*1)) λf=>R (vi f) F) (g (i64.wrap (b+1)) F)
def B6 (m:Ω) (l:Θ) (c d:Int) (R:VR) (b:Int) (F:PH):Prop:=∃a,l=Y3 a/\Ls F (Zb a 6) λe=>Bc (b<(e.len:Int)) (Ls F (Zb a 6) λf=>Ix f b λg=>0<=(0:Int)/\(0:Int)<3/\Li F (Zb (Zb g (Zd b*3)) (Zd 0*1)) λh=>Bc (h=c) (Ls F (Zb a 6) λi=>Ix i b λj=>0<=(1:Int)/\(1:Int)<3/\Li F (Zb (Zb j (Zd b*3)) (Zd 1*1)) λk=>pH m a c d b (decide (k=d)) R F) (pH m a c d b Y6 R F)) (we (Y3 a) c d R F)
def ma (a:Θ) (b c:Int) (d:Bool) (R:VR) (F:PH):Prop:=Bb (d) (Ci 191 #[Ze a,(vi b),(vi c)] F λe F=>R (vi e) F) (Lp 0 F λN f F=>B6 N a b c R f F)
def Mn (c:Θ) (a b:Int) (R:VR) (F:PH):Prop:=Bc (a<2) (ma c a b (decide (b<2)) R F) (ma c a b Y6 R F)
theorem RR {a:Θ} {b:Int} {c:Int} (h:Mn a b c R F):ν 160 #[Ze a,(vi b),(vi c)] F R:=Rx.Λ (.Y2 (.T (.J Y6 [(22,.bool)] .N .N) (.J Y6 [(0,.ptr)] (.Y2 (.L [(7,.int .i64)] (.Y2 (.T (.J Y6 [(57,.bool)] .N .N) .N)))) .N))) h
def Mo (a:Sl) (b:Int) (R:VR) (F:PH):Prop:=Nb F (Y4 zD 31) λg F=>aF prog (Instr.makeSlice 67 (vi (a.len:Int)) (vi (a.len:Int))) F λv F=>∃c,v=(Y7 c)/\Nb F (Y4 (#[Y7 a,Y7 c,Zm Y5 0 0]:Γ) 243) λd F=>Ci 195 #[(Pp d),(vi b)] F λe F=>Ls F (Am d 2) λf=>au F (Am g 0) 2 (#[Y7 f,(vi e)]:Γ) λF=>Rr 2 (Am g 0) R F
theorem RT {a:Sl} {b:Int} (h:Mo a b R F):ν 161 #[Y7 a,(vi b)] F R:=Rx.Λ .N h
def Mp (b c:Γ) (R:VR) (F:PH):Prop:=Nb F (Y4 b 31) λg F=>Nb F (Y4 c 31) λi F=>Nb F (Y4 zD 31) λh F=>Lr F 2 (Am g 0) λa=>Lr F 2 (Am i 0) λd=>Ca 86 #[Y9 d] F λe F=>F.row (Am g 0) a/\Ca 45 #[Y9 a,Y9 e] F λf F=>au F (Am h 0) 2 f λF=>Rr 2 (Am h 0) R F
theorem RU {a:Γ} {b:Γ} (h:Mp a b R F):ν 175 #[Y9 a,Y9 b] F R:=Rx.Λ .N h
def Mq (e:Θ) (c d:Int) (R:VR) (F:PH):Prop:=∃a,e=Y3 a/\Li F (Zb a 4) λb=>Bc (b=0) (R (vi (i64.wrap (c*d))) F) (Bc (b=1) (R (vi (max c d)) F) (R (vi (Zk (i64.wrap (c+d)) 2)) F))
theorem RV {a:Θ} {b:Int} {c:Int} (h:Mq a b c R F):ν 191 #[Ze a,(vi b),(vi c)] F R:=Rx.Λ .N h
def Mr (d:Γ) (b:Int) (R:VR) (F:PH):Prop:=Nb F (Y4 d 31) λf F=>Bc (b<2) (R (vi 64) F) (Ls F (Am f 0) λe=>Ix e (i64.wrap (b - 2)) λc=>∃a,F.cell (Zb c (Zd (i64.wrap (b - 2))*3))=Y3 (vi a)/\R (vi a) F)
theorem RW {a:Γ} {b:Int} (h:Mr a b R F):ν 192 #[Y9 a,(vi b)] F R:=Rx.Λ .N h
def Ms (i:Γ) (a j:Int) (R:VR) (F:PH):Prop:=Nb F (Y4 i 31) λk F=>Lr F 2 (Am k 0) λl=>Ci 192 #[Y9 l,(vi a)] F λd F=>Bc (d≠j) (R (Zh #[(vi a),(vi a)]) F) (Ls F (Am k 0) λe=>Ix e (i64.wrap (a - 2)) λf=>∃b,F.cell (Zb (Zb f (Zd (i64.wrap (a - 2))*3)) 1)=Y3 (vi b)/\Ls F (Am k 0) λg=>Ix g (i64.wrap (a - 2)) λh=>∃c,F.cell (Zb (Zb h (Zd (i64.wrap (a - 2))*3)) 2)=Y3 (vi c)/\R (Zh #[(vi b),(vi c)]) F)
theorem RX {a:Γ} {b:Int} {c:Int} (h:Ms a b c R F):ν 193 #[Y9 a,(vi b),(vi c)] F R:=Rx.Λ .N h
def B7 (c:Sl) (e:Nat) (R:VR) (F:PH):Prop:=Lr F 3 (Am e 0) λa=>a.size=3/\Nb F (Y4 a 124) λd F=>Ap 29 #[Y7 c,Y7 (Sb d 1)] F λb F=>R (Zh #[Y7 b,(vi (i64.wrap ((b.len:Int)+1)))]) F
def B8 (h:Ω) (b:Sl) (g:Nat) (R:VR) (a:Int) (F:PH):Prop:=Bc (a<(b.len:Int)) (Ix b a λd=>Lr F 3 (Zb d (Zd a*3)) λe=>Lr F 3 (Am g 0) λf=>∃c,(∀F,rdo prog (Op.equal 124 (Y9 e) (Y9 f)) F c)/\Bb (c) (R (Zh #[Y7 b,(vi (i64.wrap (a+2)))]) F) (h (i64.wrap (a+1)) F)) (B7 b g R F)
def Mt (a:Sl) (e:Γ) (R:VR) (F:PH):Prop:=Nb F (Y4 e 124) λd F=>Li F (Am d 1) λf=>Li F (Am d 2) λb=>Bc (f=b) (Li F (Am d 1) λc=>R (Zh #[Y7 a,(vi c)]) F) (Lp 0 F λN g F=>B8 N a d R g F)
theorem RY {a:Sl} {b:Γ} (h:Mt a b R F):ν 194 #[Y7 a,Y9 b] F R:=Rx.Λ (.Y2 (.Y2 (.J Y6 [] (.Y2 (.L [(6,.int .i64)] .N)) .N))) h
def FM (x:Θ) (b:Int) (R:VR) (F:PH):Prop:=Bc (b<2) (R (vi b) F) (∃a,x=Y3 a/\Ls F (Zb a 1) λi=>Ix i (i64.wrap (b - 2)) λj=>∃e,F.cell (Zb j (Zd (i64.wrap (b - 2))*1))=Y3 (vi e)/\Bc (0<e) (Ls F (Zb a 1) λk=>Ix k (i64.wrap (b - 2)) λl=>∃f,F.cell (Zb l (Zd (i64.wrap (b - 2))*1))=Y3 (vi f)/\R (vi f) F) (Ls F a λm=>Ix m (i64.wrap (b - 2)) λn=>∃c,c.size=3/\F.row (Zb n (Zd (i64.wrap (b - 2))*3)) c/\Nb F (Y4 (#[vi 0,vi 0,vi 0]) 124) λo F=>au F (Am o 0) 3 c λF=>Li F (Am o 1) λp=>Ci 195 #[Ze (Y3 a),(vi p)] F λg F=>Li F (Am o 2) λq=>Ci 195 #[Ze (Y3 a),(vi q)] F λh F=>Ls F (Zb a 2) λr=>Li F (Am o 0) λd=>(#[(vi d),(vi g),(vi h)]:Γ).size=3/\Nb F (Y4 (#[(vi d),(vi g),(vi h)]:Γ) 124) λy F=>Ap 29 #[Y7 r,Y7 (Sb y 1)] F λs F=>F.cell (Am o 0)=Y3 (vi d)/\sto F (Zb a 2) (Y7 s) λF=>Ls F (Zb a 1) λt=>Ls F (Zb a 2) λu=>Ix t (i64.wrap (b - 2)) λv=>sto F (Zb v (Zd (i64.wrap (b - 2))*1)) (vi (i64.wrap ((u.len:Int)+1))) λF=>Ls F (Zb a 2) λw=>R (vi (i64.wrap ((w.len:Int)+1))) F))
theorem Mu {a:Θ} {b:Int} (h:FM a b R F):ν 195 #[Ze a,(vi b)] F R:=Rx.Λ .N h
def Mv (a:Γ) (R:VR) (F:PH):Prop:=Nb F (Y4 a 31) λe F=>Ls F (Am e 0) λb=>Bc ((4096:Int)<(b.len:Int)) (R (vi 2) F) (Lr F 2 (Am e 0) λc=>Cbo 210 #[Y9 c] F λd F=>Bb ((!d)) (R (vi 20) F) (R (vi 0) F))
theorem RZ {a:Γ} (h:Mv a R F):ν 197 #[Y9 a] F R:=Rx.Λ .N h
def B9 (f:Nat) (R:VR) (F:PH):Prop:=Lr F 2 (Am f 0) λa=>Ls F (Am f 0) λb=>Li F (Am f 1) λc=>Ca 161 #[Y7 b,(vi c)] F λd F=>F.row (Am f 0) a/\Cbo 50 #[Y9 a,Y9 d] F λe F=>R (Za e) F
def Cb (f:Ω) (e:Nat) (R:VR) (a:Int) (F:PH):Prop:=Ls F (Am e 0) λb=>Bc (a<(b.len:Int)) (Lr F 2 (Am e 0) λc=>Cbo 216 #[Y9 c,(vi a)] F λd F=>Bb ((!d)) (R (Za Y6) F) (f (i64.wrap (a+1)) F)) (B9 e R F)
def Mw (c:Γ) (R:VR) (F:PH):Prop:=Nb F (Y4 c 31) λb F=>Li F (Am b 1) λd=>Bc (d<0) (R (Za Y6) F) (Li F (Am b 1) λe=>Ls F (Am b 0) λa=>Bc ((i64.wrap ((a.len:Int)+2))<=e) (R (Za Y6) F) (Lp 0 F λN f F=>Cb N b R f F))
theorem R0 {a:Γ} (h:Mw a R F):ν 210 #[Y9 a] F R:=Rx.Λ (.Y2 (.Y2 (.J Y6 [] (.Y2 (.L [(3,.int .i64)] .N)) .N))) h
def Cc (R:VR) (F:PH):Prop:=R (Za Y8) F
def Cd (h:Ω) (g:Int) (i j:Nat) (R:VR) (a:Int) (F:PH):Prop:=Bc (a<g) (Ls F (Am i 0) λc=>Ix c a λd=>Lr F 3 (Zb d (Zd a*3)) λe=>Lr F 3 (Am j 0) λf=>∃b,(∀F,rdo prog (Op.equal 124 (Y9 e) (Y9 f)) F b)/\Bb (b) (R (Za Y6) F) (h (i64.wrap (a+1)) F)) (Cc R F)
def Mx (v:Γ) (b:Int) (R:VR) (F:PH):Prop:=Nb F (Y4 v 31) λu F=>Ls F (Am u 0) λw=>Ix w b λe=>Lr F 3 (Zb e (Zd b*3)) λf=>Nb F (Y4 (#[vi 0,vi 0,vi 0]) 124) λa F=>au F (Am a 0) 3 f λF=>Li F (Am a 0) λg=>Bc (g<0) (R (Za Y6) F) (Li F (Am a 0) λh=>Bc (63<h) (R (Za Y6) F) (Li F (Am a 1) λi=>Bc (i<0) (R (Za Y6) F) (Li F (Am a 2) λj=>Bc (j<0) (R (Za Y6) F) (Li F (Am a 1) λk=>Bc ((i64.wrap (b+2))<=k) (R (Za Y6) F) (Li F (Am a 2) λl=>Bc ((i64.wrap (b+2))<=l) (R (Za Y6) F) (Li F (Am a 1) λm=>Li F (Am a 2) λn=>Bc (m=n) (R (Za Y6) F) (Lr F 2 (Am u 0) λo=>Li F (Am a 1) λp=>Li F (Am a 0) λc=>Ci 192 #[Y9 o,(vi p)] F λq F=>F.cell (Am a 0)=Y3 (vi c)/\Bc (q<=c) (R (Za Y6) F) (Lr F 2 (Am u 0) λr=>Li F (Am a 2) λs=>Li F (Am a 0) λd=>Ci 192 #[Y9 r,(vi s)] F λt F=>F.cell (Am a 0)=Y3 (vi d)/\F.cell (Am a 0)=Y3 (vi c)/\Bc (t<=d) (R (Za Y6) F) (Lp 0 F λN x F=>Cd N b u a R x F)))))))))
theorem R1 {a:Γ} {b:Int} (h:Mx a b R F):ν 216 #[Y9 a,(vi b)] F R:=Rx.Λ (.Y2 (.Y2 (.Y2 (.Y2 (.J Y6 [] (.Y2 (.L [(6,.int .i64)] .N)) .N))))) h
theorem gg {F:PH} {v w:Γ} {d e:Dia} (hd:DV F v d) (he:DV F w e) (hl:Fit d.1.length):ν 50 #[Y9 v,Y9 w] F λr F'=>r=Za (decide (d=e))/\F.le F':=by
 obtain ⟨s,rfl,hr⟩:=hd;obtain ⟨t,rfl,ht⟩:=he;refine V3 ?_;unfold RI;intro b2 hb2;refine atI ?_;have hle2:=ae (Y4 #[s.v,vi d.2] 31) hb2;intro b3 hb3;refine atI ?_;have hle3:=ae (Y4 #[t.v,vi e.2] 31) hb3;have hle:F.le _:=λb o h=>hle3 b o (hle2 b o h);have hc2:=hle3 _ _ (al F b2 (Y4 #[s.v,vi d.2] 31));have hc3:=al (F.set b2 (Y4 #[s.v,vi d.2] 31)) b3 (Y4 #[t.v,vi e.2] 31);generalize (F.set b2 (Y4 #[s.v,vi d.2] 31)).set b3 (Y4 #[t.v,vi e.2] 31)=G at*;have hr:=hr.le hle;have ht:=ht.le hle;have lens:=hr.blen;have lent:=ht.blen;have cs:G.cell ⟨b2,0,Y5⟩=Y3 s.v:=by rw [aq hc2];rfl
 have ct:G.cell ⟨b3,0,Y5⟩=Y3 t.v:=by rw [aq hc3];rfl
 obtain ⟨x,d2⟩:=d;obtain ⟨y,e2⟩:=e;simp only at hl lens lent hr ht hc2 hc3;refine ⟨d2,by rw [aq hc2];rfl,e2,by rw [aq hc3];rfl,λh=> ?_,λh=> ?_⟩
 ·refine ⟨?_,hle⟩;simp [h]
 have h:d2=e2:=by omega
 subst h;refine ⟨s,cs,t,ct,λhn=> ?_,λhn=> ?_⟩
 ·refine ⟨?_,hle⟩;have:¬x=y:=λe=>by subst e;omega
  simp [this]
 have hlen:x.length=y.length:=by omega
 refine ⟨λm i F'=>∃k:Nat,i=k/\k<=x.length/\m=x.length - k/\F'=G/\x.take k=y.take k,x.length,⟨0,rfl,by omega,rfl,rfl,rfl⟩,?_⟩;rintro m i F' ⟨k,rfl,hk,rfl,rfl,htake⟩;unfold FK;refine ⟨s,cs,λhlt=> ?_,λhge=> ?_⟩
 ·have hkx:k<x.length:=by omega
  have hky:k<y.length:=by omega
  obtain ⟨p,hp,hpr,_⟩:=rdb hr (N5 hkx);obtain ⟨q,hq,hqr,_⟩:=rdb ht (N5 hky);refine ⟨s,cs,p,hp,by omega,hlt,aZ x[k],rfl,by simpa using hpr,t,ct,q,hq,by omega,by omega,aZ y[k],rfl,by simpa using hqr,decide (x[k]=y[k]),λF=>GA x[k] y[k] F,λhne=> ?_,λheq=> ?_⟩
  ·refine ⟨?_,hle⟩;have:¬x=y:=by rintro rfl;simp at hne
   simp [this]
  ·refine ⟨x.length - (k+1),by omega,k+1,fz (by omega),by omega,rfl,rfl,?_⟩;rw [Xr hkx,Xr hky,htake];simp at heq;rw [heq]
 ·refine ⟨?_,hle⟩;have hk':k=x.length:=by omega
  rw [hk',Xg,hlen,Xg] at htake;simp [htake]
def i6 (t:Tr):Prop:=t.ok/\(bi t).length<=4096
theorem FN {t:Tr} (h:t.ok) (hc:cnt t<=4096):i6 t:=⟨h,X4 (oI t) hc⟩
theorem t7 {t:Tr} (h:i6 t):chk (dia t)=0:=B4 h.1 h.2
theorem D2 {t:Tr} (h:i6 t):lim (dia t)=(dia t,0):=by unfold lim;rw [Υ];have:=h.2;simp only [dia,aN];omega
theorem xS {a b:Tr} (ha:i6 a) (hb:i6 b):lY [dia a,dia b]=0:=by simp [lY,t7 ha,t7 hb]
theorem Oi {o:Op2} {a b:Tr} (ha:i6 a) (hb:i6 b):bin o (dia a) (dia b)=lim (dia (ap (λx y _=>o x y) a b (Y0 Y6))):=by unfold bin;rw [xS ha hb,Υ (by simp),iE ha.1,iE hb.1]
theorem FO {o:Op2} {a b t:Tr} (ha:i6 a) (hb:i6 b) (ht:i6 t) (he:∀c,t.ev c=o (a.ev c) (b.ev c)):bin o (dia a) (dia b)=(dia t,0):=by have:ap (λx y _=>o x y) a b (Y0 Y6)=t:=wP ht.1 λc=>he c;rw [Oi ha hb,this,D2 ht]
theorem Ce {v:Nat} (h:v<64):tu v=(dia (tv v),0):=by unfold tu;rw [Υ (by omega),N4]
theorem pI {a:Tr} (ha:i6 a):Fit (dia a).1.length:=by have:=ha.2;simp only [dia,aN];omega
section
variable {F:PH} {v:Γ} {d:Dia} {S:List Tr} {t:Tr}
theorem ft (hd:DV F v d) (hp:brs S<+:d.1) (ht:inn S t) (hf:Fit (d.1.length+2)):
  ν 192 #[Y9 v,vi (num S t)] F λr F'=>r=vi t.top/\F.le F':=by
 obtain ⟨hfit,hlt⟩:=pT hp ht hf;obtain ⟨s,rfl,hr⟩:=hd;refine RW ?_;unfold Mr;intro b2 hb2;refine atI ?_;have hle:=ae (Y4 #[s.v,vi d.2] 31) hb2;refine ⟨λh=> ?_,λh=> ?_⟩
 ·have hl:=qp (S:=S) (t:=t) (by omega);cases t with
  |Y0 b=>exact ⟨rfl,hle⟩
  |Y1 _ _ _=>cases hl
 ·cases t with
  |Y0 b=>have:=dF S b;omega
  |Y1 w l r=>have hx:=gB hp (fX (cP ht rfl) rfl);obtain ⟨a,h1,_,h2,_⟩:=rdb (hr.le hle) hx;have hw:=uj hfit (eB (S:=S) (t:=Y1 w l r) rfl);have hg:=eB (S:=S) (t:=Y1 w l r) rfl;refine ⟨s,by simp,a,h1,by rw [hw];omega,by rw [hw,hr.blen];omega,_,by rw [hw];exact h2,rfl,hle⟩
theorem ow (hd:DV F v d) (hp:brs S<+:d.1) (ht:inn S t) (hf:Fit (d.1.length+2)) {w:Nat} (hw:w<64):
  ν 193 #[Y9 v,vi (num S t),vi w] F λr F'=>r=Zh #[vi (num S (lo w t)),vi (num S (hi w t))]/\F.le F':=by
 obtain ⟨hfit,hlt⟩:=pT hp ht hf;have hd':=hd;obtain ⟨s,rfl,hr⟩:=hd;refine RX ?_;unfold Ms;intro b3 hb3;refine atI ?_;have hle:=ae (Y4 #[s.v,vi d.2] 31) hb3;refine ⟨_,rfl,ac (al _ _ _),?_⟩;refine (ft (hd'.le hle) hp ht hf).mono ?_;rintro _ F2 ⟨rfl,hle2⟩;have hc:F2 b3=Y3 _:=hle2 _ _ (al _ _ _);have hle':F.le F2:=λb o h=>hle2 b o (hle b o h);refine ⟨_,rfl,λh=> ?_,λh=> ?_⟩
 ·refine ⟨?_,hle'⟩;cases t with
  |Y0 b=>rfl
  |Y1 w' l r=>have:¬w'=w:=λe=>h (by simp [Tr.top,e]);simp [lo,hi,this]
 ·cases t with
  |Y0 b=>simp only [Tr.top] at h;omega
  |Y1 w' l r=>
   have e:w'=w:=by simp only [Tr.top] at h;omega
   subst e;have hx:=gB hp (fX (cP ht rfl) rfl);obtain ⟨a,h1,_,_,h3,h4⟩:=rdb (hr.le hle') hx;have hw:=uj hfit (eB (S:=S) (t:=Y1 w' l r) rfl);have hg:=eB (S:=S) (t:=Y1 w' l r) rfl
   refine ⟨s,by rw [aq hc];rfl,a,h1,by rw [hw];omega,by rw [hw,hr.blen];omega,_,by rw [hw];exact h3,
    s,by rw [aq hc];rfl,a,h1,by rw [hw];omega,by rw [hw,hr.blen];omega,_,by rw [hw];exact h4,?_,hle'⟩
   simp [lo,hi,br]
end
section
variable {F:PH}
theorem bH (x:Bool):ν 34 #[Za x] F λr F'=>∃w,r=Y9 w/\DV F' w (dia (Y0 x))/\F.le F':=by
 refine V1 ?_;unfold RA;intro b2 hb2;refine atI ?_;have l2:=ae (Y4 zD 31) hb2;have q2:=al F b2 (Y4 zD 31);refine ⟨λh=> ?_,λh=> ?_⟩
 ·subst h;have hd:∀G:PH,DV G #[Zm Y5 0 0,vi 1] (dia (Y0 Y8)):=λG=>⟨Zi,rfl,RdS.nil G 3⟩;exact gq (K:=λvres F'=>∃w,Y9 vres=Y9 w/\DV F' w (dia (Y0 Y8))/\F.le F') (hd F) q2 rfl ⟨_,rfl,hd _,aw l2 hb2⟩
 ·subst h;have hd:∀G:PH,DV G zD (dia (Y0 Y6)):=λG=>⟨Zi,rfl,RdS.nil G 3⟩;exact gq (K:=λvres F'=>∃w,Y9 vres=Y9 w/\DV F' w (dia (Y0 Y6))/\F.le F') (hd F) q2 rfl ⟨_,rfl,hd _,aw l2 hb2⟩
theorem nD (x:Int):ν 109 #[vi x] F λr F'=>DRV F' r (tu x)/\F.le F':=by
 refine RN ?_;unfold Mj;intro b2 hb2;refine atI ?_;have l2:=ae (Y4 zD 31) hb2;have q2:=al F b2 (Y4 zD 31);generalize F.set b2 (Y4 zD 31)=F2 at*;have bad:x<0\/63<x->lZ x b2 Y8 (λr F'=>DRV F' r (tu x)/\F.le F') F2:=λh=>by
  unfold lZ;refine ⟨λ_=> ?_,λhc=>by cases hc⟩;have e:tu x=(ot,1):=by unfold tu;rw [Χ h]
  rw [e];exact Of q2 rfl l2 hb2
 refine ⟨λh=>bad (.inl h),λh=> ?_⟩;by_cases h2:63<x
 ·rw [ζ h2];exact bad (.inr h2)
 ·rw [ι h2];unfold lZ;refine ⟨λhc=>(by cases hc),λ_=>⟨rfl,λb13 hb13=> ?_⟩⟩;refine atI ?_;have e:tu x=(dia (tv x.toNat),0):=by unfold tu;rw [Υ (by omega)]
  have hx:((x.toNat:Nat):Int)=x:=by omega
  have lx:=ae (Y4 #[vi x,vi 0,vi 1] 124) hb13;have q13:=al F2 b13 (Y4 #[vi x,vi 0,vi 1] 124);have n:b13≠b2:=(aG hb13 q2).symm;have q2:=lx _ _ q2;have l3:=l2.trans lx;rw [e];have hd:∀G:PH,G b13=Y3 (Y4 #[vi x,vi 0,vi 1] 124)->DV G #[(Sl.mk (Y3 ⟨b13,0,Y5⟩) 1 1).v,vi 2] (dia (tv x.toNat)):=λG hG=>by rw [Og,hx];exact ⟨_,rfl,RdS.new hG rfl rfl (W8 _)⟩
  exact gq (K:=λvres F'=>DRV F' (Zh #[Y9 vres,vi 0]) (dia (tv x.toNat),0)/\F.le F') (hd _ q13) q2 rfl ⟨⟨_,rfl,hd _ (by rw [az _ _ n];exact q13)⟩,aw l3 hb2⟩
end
def rnS (S:List Tr) (t:Tr):Nat:=if t∈S then num S t else 0
def rnL (S0 S:List Tr):Ξ:=S0.map λt=>vi (rnS S t:Int)
structure WS (F0 F:PH) (bw g:Nat) (ns:Sl) (S0 S:List Tr):Prop where
 le:F0.le F
 cl:Cl S
 sub:∀x∈S,x∈S0
 nw:F0 bw=Y5
 ng:F0 g=Y5
 rd:RdS F0 ns 3 (aW (brs S0))
 ex:∃s:Sl,F bw=Y3 (Y4 #[ns.v,Y7 ⟨Y3 ⟨g,0,Y5⟩,S0.length,S0.length⟩,s.v] 243)/\bV F 124 3 s (aW (brs S))/\∀a,s.YZ=Y3 a->F0 a.block=Y5
 hg:F g=Y3 (Y4 (rnL S0 S).toArray 3)
theorem FP {S0 S:List Tr} (h0:Cl S0) {t:Tr} (hS':Cl (S++[t])) (ht:t∈S0) (hl:t.isL=Y6):(rnL S0 S).set (num S0 t - 2) (vi ((S.length+2:Nat):Int))=rnL S0 (S++[t]):=by
 apply XR;intro j;unfold rnL;rw [Yt,Xj,Xj];have hg:=eB (S:=S0) hl;have hgt:=fX ht hl;by_cases hj:num S0 t - 2=j
 ·subst hj;have hlt:=(N6.1 hgt).1;rw [Χ rfl,Xd,Χ hlt,hgt];simp only [XT,rnS];rw [Χ (by simp),eC hS' (k:=S.length) (by simp)]
 ·rw [Υ hj];cases hx:S0[j]? with
  |none=>rfl
  |some u=>
   simp only [XT,rnS];have hne:u≠t:=λe=>by subst e;have:=eC h0 hx;omega
   have hm:u∈S++[t]↔u∈S:=by simp [hne]
   by_cases hu:u∈S
   ·rw [Χ hu,Χ (hm.2 hu),bR (.inr hu)]
   ·rw [Υ hu,Υ (λh=>hu (hm.1 h))]
theorem xT {bw g:Nat} {ns:Sl} {S0:List Tr} (h0:Cl S0) (hf:Fit (S0.length+4)):∀(t:Tr),inn S0 t->∀(F0 F:PH) (S:List Tr),WS F0 F bw g ns S0 S->
  ν 195 #[Ze (Y3 ⟨bw,0,Y5⟩),vi (num S0 t)] F λr F'=>r=vi (num (vis t S) t)/\WS F0 F' bw g ns S0 (vis t S):=by
 intro t;induction t with
 |Y0 x=>intro ht F0 F S hs;refine Mu ?_;unfold FM;have:=dF S0 x;exact ⟨λ_=>⟨rfl,hs⟩,λh=>by omega⟩
 |Y1 v l h ihl ihh=>
  intro ht F0 F S hs;have hs':=hs;obtain ⟨hle,hS,hsub,hnw,hng,hrd,⟨s,hw,ho,hsb⟩,hg⟩:=hs;have htm:=cP ht rfl;obtain ⟨hil,hih⟩:=h0.inn_kids ht;have hok:=h0.inn_ok ht;have hge:=eB (S:=S0) (t:=Y1 v l h) rfl;have hnl:=fc ht;have hgt:=fX htm rfl;have hlt:=(N6.1 hgt).1;have hw2:=uj (n:=num S0 (Y1 v l h)) (by omega) hge;refine Mu ?_;unfold FM;refine ⟨λh=>by omega,λ_=> ?_⟩;rw [hw2];have cell0:F.cell ⟨bw,0,Y5⟩=Y3 ns.v:=by rw [aq hw];rfl
  have cell1:F.cell (Zb ⟨bw,0,Y5⟩ 1)=Y3 (Y7 ⟨Y3 ⟨g,0,Y5⟩,S0.length,S0.length⟩):=by rw [aE,aq hw];rfl
  have cellg:F.cell (Zb ⟨g,0,Y5⟩ (Zd ((num S0 (Y1 v l h) - 2:Nat):Int)*1))=Y3 (vi (rnS S (Y1 v l h))):=by
   simp only [aE];rw [aq hg];have:(rnL S0 S)[num S0 (Y1 v l h) - 2]? =Y3 (vi (rnS S (Y1 v l h))):=by unfold rnL;rw [Xj,hgt];rfl
   simpa using this
  refine ⟨_,rfl,_,cell1,_,rfl,by omega,by simp only;omega,_,cellg,λhpos=> ?_,λhpos=> ?_⟩
  ·have hin:Y1 v l h∈S:=by
    unfold rnS at hpos;split at hpos
    ·assumption
    ·omega
   have e:vis (Y1 v l h) S=S:=gF (.inr hin);rw [e];have e2:rnS S (Y1 v l h)=num S (Y1 v l h):=by unfold rnS;rw [Χ hin]
   rw [e2] at cellg;exact ⟨_,cell1,_,rfl,by omega,by simp only;omega,_,cellg,rfl,hs'⟩
  ·have hin:Y1 v l h ∉ S:=λhin=>hpos (by
    have:=eB (S:=S) (t:=Y1 v l h) rfl;unfold rnS;rw [Χ hin]
    omega)
   obtain ⟨a,ha,hrow,_⟩:=rdb (hrd.le hle) (qr hgt);have hns:=hrd.blen;rw [aN] at hns;refine ⟨ns,cell0,a,ha,by omega,by omega,aZ (br S0 (Y1 v l h)),rfl,by simpa using hrow,?_⟩;intro b5 hb5;refine atI ?_;refine stW (al _ _ _) rfl rfl (mz _) ?_;rw [aT];have h50:F0 b5=Y5:=aS hle hb5;have n5w:bw≠b5:=aG hb5 hw;have n5g:g≠b5:=aG hb5 hg;have hs5:WS (F0.set b5 (Y4 (aZ (br S0 (Y1 v l h))) 124)) (F.set b5 (Y4 (aZ (br S0 (Y1 v l h))) 124)) bw g ns S0 S:=by
    refine ⟨λx ob hx=> ?_,hS,hsub,by rw [az _ _ n5w];exact hnw,by rw [az _ _ n5g];exact hng,hrd.le (ae _ h50),⟨s,by rw [az _ _ n5w];exact hw,ho.upto (ae _ hb5),λa ha=> ?_⟩,by rw [az _ _ n5g];exact hg⟩
    ·by_cases hxb:x=b5
     ·subst hxb;rw [al] at hx ⊢;exact hx
     ·rw [az _ _ hxb] at hx ⊢;exact hle _ _ hx
    ·obtain ⟨cur,hcur⟩:=ho.elem ha;rw [az _ _ (aG hb5 hcur)];exact hsb a ha
   have hle0:F0.le (F0.set b5 (Y4 (aZ (br S0 (Y1 v l h))) 124)):=ae _ h50;have hc5:(F0.set b5 (Y4 (aZ (br S0 (Y1 v l h))) 124)) b5=Y3 (Y4 (aZ (br S0 (Y1 v l h))) 124):=al _ _ _;generalize F0.set b5 (Y4 (aZ (br S0 (Y1 v l h))) 124)=G0 at*;generalize F.set b5 (Y4 (aZ (br S0 (Y1 v l h))) 124)=F1 at*;refine ⟨_,by rw [aq (hs5.le _ _ hc5)];rfl,?_⟩;refine (ihl hil G0 F1 S hs5).mono ?_;rintro _ F2 ⟨rfl,hs2⟩;refine ⟨_,rfl,_,by rw [aq (hs2.le _ _ hc5)];rfl,?_⟩;refine (ihh hih G0 F2 _ hs2).mono ?_;rintro _ F3 ⟨rfl,hs3⟩;obtain ⟨hle3,hS3,hsub3,hnw3,hng3,hrd3,⟨s3,hw3,ho3,hsb3⟩,hg3⟩:=hs3;obtain ⟨fl1,fl2,X,fl3,fl4⟩:=bA l S hok.2.2.2.2.1 hS;obtain ⟨fh1,fh2,Y,fh3,fh4⟩:=bA h (vis l S) hok.2.2.2.2.2 fl1;have hnl':num (vis l S) l=num (vis h (vis l S)) l:=by rw [fh3,bR fl2]
   have evis:vis (Y1 v l h) S=vis h (vis l S)++[Y1 v l h]:=by
    conv=>lhs;unfold vis
    rw [Υ hin]
   obtain ⟨hSv,_,_⟩:=bA (Y1 v l h) S hok hS;rw [evis] at hSv ⊢;rw [hnl'];have hil3:inn (vis h (vis l S)) l:=by rw [fh3];exact cd fl2
   generalize vis h (vis l S)=T at*;refine ⟨_,rfl,s3,by rw [aE,aq hw3];rfl,_,by rw [aq (hle3 _ _ hc5)];rfl,rfl,λb54 hb54=> ?_⟩;refine atI ?_;have hTl:T.length<=S0.length:=dJ T S0 hS3.nodup hsub3;have hlen:=ho3.rd.blen;rw [aN] at hlen;have hle54:=ae (Y4 (aZ ⟨(v:Int),(num T l:Int),(num T h:Int)⟩) 124) hb54;have h54:=al F3 b54 (Y4 (aZ ⟨(v:Int),(num T l:Int),(num T h:Int)⟩) 124);show aF prog _ (F3.set b54 (Y4 (aZ ⟨(v:Int),(num T l:Int),(num T h:Int)⟩) 124)) _;replace hle3:G0.le (F3.set b54 (Y4 (aZ ⟨(v:Int),(num T l:Int),(num T h:Int)⟩) 124)):=λx ob hx=>hle54 _ _ (hle3 _ _ hx);have ho3:=ho3.upto hle54;have hw3:=hle54 _ _ hw3;have hg3:=hle54 _ _ hg3;generalize F3.set b54 (Y4 (aZ ⟨(v:Int),(num T l:Int),(num T h:Int)⟩) 124)=F4 at*;refine iS underlying29 yt yu rfl (by decide) hle3 ho3 hsb3 (x:=⟨Y3 ⟨b54,0,Y5⟩,1,1⟩) (news:=dr ⟨(v:Int),(num T l:Int),(num T h:Int)⟩) (RdS.new h54 rfl rfl (W8 _))
    (λx hx=>ii [⟨(v:Int),(num T l:Int),(num T h:Int)⟩] x (by simpa [aW] using hx)) (by simp only [hlen];omega) (by simp only [hlen];omega) ?_
   intro s5 F5 hle5 ho5 hlen5 hsb5 hk5 _;have new:∀a,s3.YZ=Y3 a->a.block≠bw:=λa ha e=>by obtain ⟨cur,hcur⟩:=ho3.elem ha;rw [e,hw3] at hcur;simp at hcur
   have neg:∀a,s3.YZ=Y3 a->a.block≠g:=λa ha e=>by obtain ⟨cur,hcur⟩:=ho3.elem ha;rw [e,hg3] at hcur;simp at hcur
   have hw3:=hk5 _ _ hw3 (λ⟨a,ha,e⟩=>new a ha e);have hg3:=hk5 _ _ hg3 (λ⟨a,ha,e⟩=>neg a ha e);have nwg:bw≠g:=λe=>by rw [e,hg3] at hw3;simp at hw3
   have hsb6:∀a,s5.YZ=Y3 a->a.block≠bw/\a.block≠g:=λa ha=>by
    obtain ⟨cur,hcur⟩:=ho5.elem ha;refine ⟨λe=> ?_,λe=> ?_⟩
    ·rw [e,hw3] at hcur;simp at hcur
    ·rw [e,hg3] at hcur;simp at hcur
   refine ⟨s5,rfl,by rw [aq (hle5 _ _ hc5)];rfl,?_⟩;refine sE (b:=bw) (o:=2) (by simp) hw3 (by simp) ?_;rw [show (#[ns.v,Y7 ⟨Y3 ⟨g,0,Y5⟩,S0.length,S0.length⟩,s3.v].setIfInBounds 2 s5.v:Γ)= #[ns.v,Y7 ⟨Y3 ⟨g,0,Y5⟩,S0.length,S0.length⟩,s5.v] from rfl];have hle6:G0.le (F5.set bw (Y4 #[ns.v,Y7 ⟨Y3 ⟨g,0,Y5⟩,S0.length,S0.length⟩,s5.v] 243)):=aw hle5 hnw3;have hw6:=al F5 bw (Y4 #[ns.v,Y7 ⟨Y3 ⟨g,0,Y5⟩,S0.length,S0.length⟩,s5.v] 243);have hg6:(F5.set bw (Y4 #[ns.v,Y7 ⟨Y3 ⟨g,0,Y5⟩,S0.length,S0.length⟩,s5.v] 243)) g=Y3 (Y4 (rnL S0 T).toArray 3):=by rw [az _ _ nwg.symm];exact hg3
   have ho6:bV (F5.set bw (Y4 #[ns.v,Y7 ⟨Y3 ⟨g,0,Y5⟩,S0.length,S0.length⟩,s5.v] 243)) 124 3 s5 _:=ho5.keep λa ha=>az _ _ (hsb6 a ha).1;generalize F5.set bw (Y4 #[ns.v,Y7 ⟨Y3 ⟨g,0,Y5⟩,S0.length,S0.length⟩,s5.v] 243)=F6 at*;have hlen6:s5.len=T.length+1:=by rw [hlen5,hlen]
   have hw7:i64.wrap ((s5.len:Int)+1)=((T.length+2:Nat):Int):=by rw [hlen6,aP (by omega)];omega
   refine ⟨_,by rw [aE,aq hw6];rfl,s5,by rw [aE,aq hw6];rfl,_,rfl,by omega,by simp only;omega,?_⟩;rw [hw7];refine sE (b:=g) (o:=num S0 (Y1 v l h) - 2) (by simp) hg6 (by simp [rnL];omega) ?_;rw [List.setIfInBounds_toArray,FP h0 hSv htm rfl];refine ⟨s5,by rw [aE,aq ((az _ _ nwg).trans hw6)];rfl,?_⟩;dsimp only;rw [hw7];refine ⟨by rw [eC hSv (k:=T.length) (by simp)],λx ob hx=>aw hle6 hng3 _ _ (hle0 _ _ hx),hSv,λx hx=> ?_,hnw,hng,hrd,⟨s5,(az _ _ nwg).trans hw6,?_,λa ha=>aS hle0 (hsb5 a ha)⟩,al _ _ _⟩
   ·rcases W9.1 hx with hx|hx
    ·exact hsub3 x hx
    ·rw [W5.1 hx];exact htm
   ·have e3:aW (brs (T++[Y1 v l h]))=aW (brs T)++dr ⟨(v:Int),(num T l:Int),(num T h:Int)⟩:=by rw [eR hS3 hil3 fh2,eO];simp [aW]
    rw [e3];exact ho6.keep λa ha=>az _ _ (hsb6 a ha).2
section
variable {F:PH} {ns:Sl} {S0:List Tr} {t:Tr}
theorem kv (hr:RdS F ns 3 (aW (brs S0))) (h0:Cl S0) (ht:inn S0 t) (hf:Fit (S0.length+4)):
  ν 161 #[ns.v,vi (num S0 t)] F λr F'=>∃v,r=Y9 v/\DV F' v (dia t)/\F.le F':=by
 have hns:=hr.blen;rw [aN] at hns;refine RT ?_;unfold Mo;intro b4 hb4;refine atI ?_;have l4:=ae (Y4 zD 31) hb4;have q4:=al F b4 (Y4 zD 31);generalize F.set b4 (Y4 zD 31)=F4 at*;refine bU underlying67 sz3 zr3 rfl (by omega) (YK _) (by omega) (by omega) ?_;intro g hg;rw [zc1 _ rfl,N4,hns];refine ⟨_,rfl,?_⟩;have e0:List.replicate S0.length (vi 0)=rnL S0 []:=by
  apply XR;intro j;unfold rnL;rw [List.getElem?_replicate,Xj];by_cases hj:j<S0.length
  ·rw [Χ hj,N5 hj];simp [rnS]
  ·rw [Υ hj,XC (by omega)];rfl
 rw [e0];have lg:=ae (Y4 (rnL S0 []).toArray 3) hg;have qg:=al F4 g (Y4 (rnL S0 []).toArray 3);have q4g:=lg _ _ q4;have n4g:b4≠g:=aG hg q4;generalize hG:F4.set g (Y4 (rnL S0 []).toArray 3)=Fg at*;intro b12 hb12;refine atI ?_;have n12g:g≠b12:=aG hb12 qg;have f12:F4 b12=Y5:=aS lg hb12;have lx:=ae (Y4 #[ns.v,Y7 ⟨Y3 ⟨g,0,Y5⟩,S0.length,S0.length⟩,Zm Y5 0 0] 243) hb12;have hs:WS F4 (Fg.set b12 (Y4 #[ns.v,Y7 ⟨Y3 ⟨g,0,Y5⟩,S0.length,S0.length⟩,Zm Y5 0 0] 243)) b12 g ns S0 []:=
  ⟨lg.trans lx,.nil,λx hx=>(by cases hx),f12,hg,hr.le l4,⟨Zi,al _ _ _,.inl ⟨rfl,rfl⟩,λa ha=>by cases ha⟩,lx _ _ qg⟩
 refine (xT h0 hf t ht F4 _ [] hs).mono ?_;rintro _ G ⟨rfl,hs'⟩;have ev:vis t []=bi t:=rfl;rw [ev] at*;obtain ⟨gle,gcl,_,_,_,_,⟨s,gw,go,gs⟩,_⟩:=hs';refine ⟨_,rfl,s,by rw [aq gw];rfl,?_⟩;have h4:=gle _ _ q4;have hsb:∀a,s.YZ=Y3 a->a.block≠b4:=λa ha e=>by obtain ⟨cur,hcur⟩:=go.elem ha;rw [e,h4] at hcur;simp at hcur
 have hd:DV (dR G b4) #[s.v,vi (num (bi t) t)] (dia t):=⟨s,rfl,(go.keep λa ha=>ff (hsb a ha)).rd⟩;exact gq (K:=λvres F'=>∃v,Y9 vres=Y9 v/\DV F' v (dia t)/\F.le F') hd h4 rfl ⟨_,rfl,hd.le (aw (B3 _ _) (zO _ _)),aw (l4.trans gle) hb4⟩
end
theorem bV.keepK {F G:PH} {e size:Nat} {s:Sl} {vs:Ξ} {fp:Nat->Prop} (h:bV F e size s vs) (hk:dE fp F G) (hn:∀a,s.YZ=Y3 a->¬fp a.block):bV G e size s vs:=by
 rcases h with h|⟨b,cur,h1,h2,h3⟩
 ·exact .inl h
 ·exact .inr ⟨b,cur,h1,hk _ _ h2 (hn _ h1),h3⟩
section
variable {F0 F:PH} {l:Sl} {S:List Tr}
theorem xU (hle:F0.le F) (ho:bV F 124 3 l (aW (brs S))) (hb:∀a,l.YZ=Y3 a->F0 a.block=Y5) (hS:Cl S) {v:Nat} {A B:Tr} (hA:inn S A) (hB:inn S B) (hf:Fit (S.length+4)):
  ν 194 #[l.v,Y9 (aZ ⟨(v:Int),(num S A:Int),(num S B:Int)⟩)] F λr F'=>∃l',r=Zh #[l'.v,vi (num (fu S (mk v A B)) (mk v A B))]/\F0.le F'/\bV F' 124 3 l' (aW (brs (fu S (mk v A B))))/\
   (∀a,l'.YZ=Y3 a->F0 a.block=Y5)/\dE (λb=>∃a,l.YZ=Y3 a/\a.block=b) F F':=by
 have hlen:=ho.rd.blen;rw [aN] at hlen;refine RY ?_;unfold Mt;intro b3 hb3;refine atI ?_;have l3:=ae (Y4 (aZ ⟨(v:Int),(num S A:Int),(num S B:Int)⟩) 124) hb3;have q3:=al F b3 (Y4 (aZ ⟨(v:Int),(num S A:Int),(num S B:Int)⟩) 124);have n3:∀a,l.YZ=Y3 a->a.block≠b3:=λa ha=>by obtain ⟨cur,hcur⟩:=ho.elem ha;exact aG hb3 hcur
 have ho:=ho.upto l3;have hle:=hle.trans l3;generalize F.set b3 (Y4 (aZ ⟨(v:Int),(num S A:Int),(num S B:Int)⟩) 124)=F1 at*;refine ⟨_,by rw [aq q3];rfl,_,by rw [aq q3];rfl,λhe=> ?_,λhe=> ?_⟩
 ·obtain rfl:=cQ hA hB (by have:(num S A:Int)=num S B:=he;omega);have e:mk v A A=A:=by simp [mk]
  have e2:fu S A=S:=by unfold fu;rw [Χ hA]
  rw [e,e2];exact ⟨_,by rw [aq q3];rfl,l,rfl,hle,ho,hb,dE.of_le l3⟩
 have hAB:A≠B:=λe=>he (by rw [e]);have emk:mk v A B=Y1 v A B:=by simp [mk,hAB]
 rw [emk];have hbr:br S (Y1 v A B)=⟨(v:Int),(num S A:Int),(num S B:Int)⟩:=rfl;refine ⟨λm i F'=>∃k:Nat,i=k/\k<=S.length/\m=S.length - k/\F'=F1/\br S (Y1 v A B) ∉ (brs S).take k,S.length,⟨0,rfl,by omega,rfl,rfl,by simp⟩,?_⟩;rintro m i F' ⟨k,rfl,hk,rfl,rfl,hnot⟩;unfold B8;refine ⟨λhlt=> ?_,λhge=> ?_⟩
 ·have hkS:k<S.length:=by omega
  have hkB:k<(brs S).length:=by rw [aN];exact hkS
  obtain ⟨p,hp,hpr,_⟩:=rdb ho.rd (N5 hkB);refine ⟨p,hp,by omega,hlt,aZ (brs S)[k],rfl,by simpa using hpr,aZ (br S (Y1 v A B)),rfl,ac q3,decide ((brs S)[k]=br S (Y1 v A B)),λF=>GA (brs S)[k] (br S (Y1 v A B)) F,λheq=> ?_,λhne=> ?_⟩
  ·have heq':(brs S)[k]=br S (Y1 v A B):=ε heq;have hm:Y1 v A B∈S:=(iK hS hA hB).1 (by rw [<- heq'];exact X2 _);have hSk:S[k]=Y1 v A B:=HP hS (X2 hkS) hm (by rw [<- heq'];simp [brs]);have e2:fu S (Y1 v A B)=S:=by unfold fu;rw [Χ (.inr hm)]
   have hn:=eC hS (k:=k) (t:=Y1 v A B) (by rw [N5 hkS,hSk]);have hw:i64.wrap ((k:Int)+2)=((k+2:Nat):Int):=by rw [aP (by omega)];omega
   rw [e2,hn,hw];exact ⟨l,rfl,hle,ho,hb,dE.of_le l3⟩
  ·refine ⟨S.length - (k+1),by omega,k+1,fz (by omega),by omega,rfl,rfl,?_⟩;rw [Xr hkB];intro hc;rcases W9.1 hc with hc|hc
   ·exact hnot hc
   ·rw [W5] at hc;rw [hc] at hne;simp at hne
 ·have hk':k=S.length:=by omega
  have hm:Y1 v A B ∉ S:=λhm=>hnot (by
   rw [hk',Xf (by rw [aN];omega)]
   exact (iK hS hA hB).2 hm)
  have e2:fu S (Y1 v A B)=S++[Y1 v A B]:=by
   unfold fu;rw [Υ];rintro (hc|hc)
   ·cases hc
   ·exact hm hc
  rw [e2];unfold B7;refine ⟨aZ (br S (Y1 v A B)),rfl,ac q3,rfl,λb32 hb32=> ?_⟩;refine atI ?_;have l32:=ae (Y4 (aZ (br S (Y1 v A B))) 124) hb32;have q32:=al F' b32 (Y4 (aZ (br S (Y1 v A B))) 124);have ho2:=ho.upto l32;have hle2:=hle.trans l32;generalize F'.set b32 (Y4 (aZ (br S (Y1 v A B))) 124)=F2 at*;refine iS underlying29 yt yu rfl (by decide) hle2 ho2 hb (x:=⟨Y3 ⟨b32,0,Y5⟩,1,1⟩) (news:=dr (br S (Y1 v A B))) (RdS.new q32 rfl rfl (W8 _)) (λx hx=>ii [br S (Y1 v A B)] x (by simpa [aW] using hx)) (by simp only [hlen];omega) (by simp only [hlen];omega) ?_;intro s' F3 hle3 ho3 hlen3 hs3 hk3 _;have hw:i64.wrap ((s'.len:Int)+1)=((S.length+2:Nat):Int):=by rw [hlen3,hlen,aP (by simp only;omega) (by simp only;omega)];simp only;omega
  have e3:aW (brs (S++[Y1 v A B]))=aW (brs S)++dr (br S (Y1 v A B)):=by rw [eR hS hA hB,<- hbr,eO];simp [aW]
  refine ⟨s',rfl,s',?_,hle3,by rw [e3];exact ho3,hs3,λx ob hx hn=>hk3 _ _ (l32 _ _ (l3 _ _ hx)) hn⟩;rw [hw];have hl2:num (S++[Y1 v A B]) (Y1 v A B)=S.length+2:=by simp only [num,List.idxOf_append,Υ hm];simp
  rw [hl2]
end
structure RP where
 bp:Nat
 sa:Sl
 sb:Sl
 opc:Int
 o:Op2
 da:Dia
 db:Dia
 A:List Tr
 B:List Tr
def RP.q (p:RP):AP:=⟨0,0,0,0,0,0,0,0,.nilFunc,λx y _=>p.o x y,lX p.da p.db ot,lX p.A p.B []⟩
def RP.in2 (p:RP) (t:Nat->Tr):Prop:=inn p.A (t 0)/\inn p.B (t 1)/\t 2=Y0 Y6
theorem RP.in2_in {p:RP} {t:Nat->Tr} (h:p.in2 t):p.q.inK t:=⟨h.1,h.2.1,by rw [h.2.2];exact gl _ _⟩
def RP.obj (p:RP) (nodes bG:Sl):Γ:= #[p.sa.v,vi p.da.2,p.sb.v,vi p.db.2,vi p.opc,nodes.v,bG.v]
structure RF (p:RP):Prop where
 cA:Cl p.A
 cB:Cl p.B
 pA:brs p.A<+:p.da.1
 pB:brs p.B<+:p.db.1
 fA:Fit (p.da.1.length+2)
 fB:Fit (p.db.1.length+2)
 fP:Fit ((p.A.length+2)*(p.B.length+2)+2)
 op:(p.opc=0/\p.o=aY)\/(p.opc=1/\p.o=oOr)\/(p.opc=2/\p.o=kN)
theorem RF.af {p:RP} (h:RF p):AF p.q:=by
 refine ⟨λi hi=> ?_,λi hi=> ?_,λi hi=> ?_⟩
 ·match i,hi with
  |0,_=>exact h.cA
  |1,_=>exact h.cB
  |2,_=>exact .nil
 ·match i,hi with
  |0,_=>exact h.pA
  |1,_=>exact h.pB
  |2,_=>exact YS _
 ·match i,hi with
  |0,_=>exact h.fA
  |1,_=>exact h.fB
  |2,_=>simp [RP.q,lX]
structure RE (F0:PH) (p:RP):Prop where
 a:RdS F0 p.sa 3 (aW p.da.1)
 b:RdS F0 p.sb 3 (aW p.db.1)
theorem RE.le {F0 G:PH} {p:RP} (h:RE F0 p) (hl:F0.le G):RE G p:=⟨h.a.le hl,h.b.le hl⟩
structure Ent (p:RP) (e:Br) (u:Nat->Tr):Prop where
 i:p.in2 u
 x:e.v=(num p.A (u 0):Int)
 y:e.l=(num p.B (u 1):Int)
structure Oj (p:RP) (S:List Tr) (Ls:List Br):Prop where
 all:∀e∈Ls,∃u,Ent p e u/\inn S (p.q.res u)/\e.h=(num S (p.q.res u):Int)
 nd:(Ls.map λe=>(e.v,e.l)).Nodup
def FQ (p:RP) (Ls Ls':List Br) (n:Nat):Prop:=∀e∈Ls',e∈Ls\/∃u,Ent p e u/\szs u<=n
theorem zR {p:RP} (_:RF p) {e:Br} {u w:Nat->Tr} (hu:Ent p e u) (hw:Ent p e w):p.q.res u=p.q.res w/\szs u=szs w:=by
 have h0:u 0=w 0:=cQ hu.i.1 hw.i.1 (by have:=hu.x;have:=hw.x;omega);have h1:u 1=w 1:=cQ hu.i.2.1 hw.i.2.1 (by have:=hu.y;have:=hw.y;omega);have h2:u 2=w 2:=by rw [hu.i.2.2,hw.i.2.2]
 unfold AP.res szs;rw [h0,h1,h2];exact ⟨rfl,rfl⟩
theorem Oj.length {p:RP} {S:List Tr} {Ls:List Br} (h:Oj p S Ls):Ls.length<=(p.A.length+2)*(p.B.length+2):=by
 have hl:((List.range (p.A.length+2)).flatMap λ(i:Nat)=>(List.range (p.B.length+2)).map λ(j:Nat)=>((i:Int),(j:Int))).length=(p.A.length+2)*(p.B.length+2):=by simp only [List.length_flatMap,Xd,XI,List.map_const',List.sum_replicate_nat]
 have:=dJ (Ls.map λe=>(e.v,e.l)) ((List.range (p.A.length+2)).flatMap λ(i:Nat)=>(List.range (p.B.length+2)).map λ(j:Nat)=>((i:Int),(j:Int))) h.nd λx hx=>by obtain ⟨e,he,rfl⟩:=Xi.1 hx;obtain ⟨u,hu,_⟩:=h.all e he;have h1:=fc hu.i.1;have h2:=fc hu.i.2.1;exact YC.2 ⟨num p.A (u 0),XN.2 (by omega),Xi.2 ⟨num p.B (u 1),XN.2 (by omega),by rw [hu.x,hu.y]⟩⟩
 rw [hl,Xd] at this;exact this
structure RS (F0 F:PH) (p:RP) (S:List Tr) (Ls:List Br):Prop where
 le:F0.le F
 nb:F0 p.bp=Y5
 cl:Cl S
 ok:Oj p S Ls
 ex:∃nodes bG:Sl,F p.bp=Y3 (Y4 (p.obj nodes bG) 203)/\bV F 124 3 nodes (aW (brs S))/\(∀a,nodes.YZ=Y3 a->F0 a.block=Y5)/\bV F 215 3 bG (aW Ls)/\(∀a,bG.YZ=Y3 a->F0 a.block=Y5)
theorem wg {F:PH} {p:RP} {nodes bG:Sl} (hf:RF p) (hb:F p.bp=Y3 (Y4 (p.obj nodes bG) 203)) (x y:Bool):
  ν 191 #[Ze (Y3 ⟨p.bp,0,Y5⟩),vi (if x then 1 else 0:Nat),vi (if y then 1 else 0:Nat)] F λr F'=>r=vi (if p.o x y then 1 else 0:Nat)/\F'=F:=by
 refine RV ?_;unfold Mq;refine ⟨_,rfl,p.opc,by rw [aE,aq hb];rfl,λh=> ?_,λh=>⟨λh1=> ?_,λh1=> ?_⟩⟩
 ·have ho:p.o=aY:=by rcases hf.op with h'|h'|h'<;>first|exact h'.2|(exfalso;omega)
  rw [ho];cases x<;>cases y<;>exact ⟨congrArg (Zf .i64) (by decide),rfl⟩
 ·have ho:p.o=oOr:=by rcases hf.op with h'|h'|h'<;>first|exact h'.2|(exfalso;omega)
  rw [ho];cases x<;>cases y<;>exact ⟨congrArg (Zf .i64) (by decide),rfl⟩
 ·have ho:p.o=kN:=by rcases hf.op with h'|h'|h'<;>first|exact h'.2|(exfalso;omega)
  rw [ho];cases x<;>cases y<;>exact ⟨congrArg (Zf .i64) (by decide),rfl⟩
def RAt (p:RP) (t:Nat->Tr):Prop:=∀(F0 F:PH) (S:List Tr) (Ls:List Br),RE F0 p->RS F0 F p S Ls->Fit ((vis (p.q.res t) S).length+4)->
 ν 160 #[Ze (Y3 ⟨p.bp,0,Y5⟩),vi (num p.A (t 0)),vi (num p.B (t 1))] F λr F'=>r=vi (num (vis (p.q.res t) S) (p.q.res t))/\∃Ls',RS F0 F' p (vis (p.q.res t) S) Ls'/\FQ p Ls Ls' (szs t)
section
variable {p:RP} {t:Nat->Tr} {F0 F:PH} {S:List Tr} {Ls:List Br}
theorem Ok (hf:RF p) (ht:p.in2 t) (ih:∀u,p.in2 u->szs u<szs t->RAt p u) (he:RE F0 p) (hs:RS F0 F p S Ls) (hfit:Fit ((vis (p.q.res t) S).length+4)) (hn:¬((t 0).isL=Y8/\(t 1).isL=Y8))
  (hnew:∀e∈Ls,¬(e.v=(num p.A (t 0):Int)/\e.l=(num p.B (t 1):Int))) {R:ξ->Ψ}
  (hR:∀F' Ls',RS F0 F' p (vis (p.q.res t) S) Ls'->FQ p Ls Ls' (szs t)->R (vi (num (vis (p.q.res t) S) (p.q.res t))) F'):
  we (Y3 ⟨p.bp,0,Y5⟩) (num p.A (t 0)) (num p.B (t 1)) R F:=by
 have hv:aX (t 0) (t 1) (t 2)<64:=by
  have k0:=λhl=>sG (hf.cA.inn_ok ht.1) hl;have k1:=λhl=>sG (hf.cB.inn_ok ht.2.1) hl;unfold aX;cases e0:(t 0).isL with
  |false=>have:=k0 e0;omega
  |true=>
   cases e1:(t 1).isL with
   |false=>have:=k1 e1;omega
   |true=>exact absurd ⟨e0,e1⟩ hn
 have D:=SZ hf.af (RP.in2_in ht) hv;have hmin:min ((t 0).top:Int) ((t 1).top:Int)=((aX (t 0) (t 1) (t 2):Nat):Int):=by
  have h2:(t 2).top=64:=by rw [ht.2.2];rfl
  unfold aX at hv ⊢;rw [h2] at hv ⊢;omega
 have hlo2:∀v,lo v (t 2)=Y0 Y6:=λv=>by rw [ht.2.2];rfl
 have hhi2:∀v,hi v (t 2)=Y0 Y6:=λv=>by rw [ht.2.2];rfl
 obtain ⟨hle,hnb,hcl,hok,nodes,bG,hb,hon,hnn,hos,hsn⟩:=hs;have hs0:RS F0 F p S Ls:=⟨hle,hnb,hcl,hok,nodes,bG,hb,hon,hnn,hos,hsn⟩;unfold we;have dA:∀{G:PH},F0.le G->DV G #[p.sa.v,vi p.da.2] p.da:=λhl=>⟨p.sa,rfl,(he.le hl).a⟩;have dB:∀{G:PH},F0.le G->DV G #[p.sb.v,vi p.db.2] p.db:=λhl=>⟨p.sb,rfl,(he.le hl).b⟩;have rowA:∀{G:PH} {n s:Sl},G p.bp=Y3 (Y4 (p.obj n s) 203)->G.row ⟨p.bp,0,Y5⟩ #[p.sa.v,vi p.da.2]:=λ{G n s} hG i hi=>by
  simp only [aE];rw [aq hG]
  match i,hi with
  |0,_=>rfl
  |1,_=>rfl
 have rowB:∀{G:PH} {n s:Sl},G p.bp=Y3 (Y4 (p.obj n s) 203)->G.row (Zb ⟨p.bp,0,Y5⟩ 2) #[p.sb.v,vi p.db.2]:=λ{G n s} hG i hi=>by
  simp only [aE];rw [aq hG]
  match i,hi with
  |0,_=>rfl
  |1,_=>rfl
 refine ⟨_,rfl,_,rfl,rowA hb,_,rfl,rowB hb,?_⟩;refine (ft (dA hle) hf.pA ht.1 hf.fA).mono ?_;rintro _ F1 ⟨rfl,l1⟩;have hb1:=l1 _ _ hb;refine ⟨_,rfl,rowB hb1,?_⟩;refine (ft (dB (hle.trans l1)) hf.pB ht.2.1 hf.fB).mono ?_;rintro _ F2 ⟨rfl,lx⟩;have l2:=l1.trans lx;have hb2:=l2 _ _ hb;refine ⟨_,rfl,_,rfl,rowA hb2,?_⟩;rw [hmin];generalize aX (t 0) (t 1) (t 2)=v at*;refine (ow (dA (hle.trans l2)) hf.pA ht.1 hf.fA D.lt).mono ?_;rintro _ F3 ⟨rfl,lx3⟩;have l3:=l2.trans lx3;have hb3:=l3 _ _ hb;refine ⟨_,_,rfl,_,rfl,rowB hb3,?_⟩;refine (ow (dB (hle.trans l3)) hf.pB ht.2.1 hf.fB D.lt).mono ?_;rintro _ F4 ⟨rfl,lx4⟩;have l4:=l3.trans lx4;refine ⟨_,_,rfl,?_⟩;have hs4:RS F0 F4 p S Ls:=⟨hle.trans l4,hnb,hcl,hok,nodes,bG,l4 _ _ hb,hon.upto l4,hnn,hos.upto l4,hsn⟩;have kl:p.in2 (λi=>lo v (t i)):=⟨D.il.1,D.il.2.1,hlo2 v⟩;have kh:p.in2 (λi=>hi v (t i)):=⟨D.ih.1,D.ih.2.1,hhi2 v⟩;obtain ⟨a1,a2,X,a3,a4⟩:=bA (p.q.res λi=>lo v (t i)) S D.ol hcl;obtain ⟨c1,c2,Y,c3,c4⟩:=bA (p.q.res λi=>hi v (t i)) (vis (p.q.res λi=>lo v (t i)) S) D.oh a1;have hadd:=rX hcl (v:=v) (l:=p.q.res λi=>lo v (t i)) (h:=p.q.res λi=>hi v (t i)) ⟨D.lt,D.tl,D.th,D.ol,D.oh⟩;rw [<- D.res] at hadd;have g1:=x9 (p.q.res λi=>hi v (t i)) (vis (p.q.res λi=>lo v (t i)) S);have g2:=Cx (vis (p.q.res λi=>hi v (t i)) (vis (p.q.res λi=>lo v (t i)) S)) (p.q.res t);rw [hadd] at g2;refine (ih _ kl D.sl F0 F4 S Ls he hs4 (by omega)).mono ?_;rintro _ F5 ⟨rfl,L1,hs5,gr1⟩;refine ⟨_,rfl,?_⟩;refine (ih _ kh D.sh F0 F5 _ L1 he hs5 (by omega)).mono ?_;rintro _ F6 ⟨rfl,L2,hs6,gr2⟩;obtain ⟨hle6,_,hcl6,hok6,nodes6,seen6,hb6,hon6,hnn6,hos6,hsn6⟩:=hs6;refine ⟨_,rfl,nodes6,by rw [aE,aq hb6];rfl,?_⟩;have hnl:num (vis (p.q.res λi=>lo v (t i)) S) (p.q.res λi=>lo v (t i))=num (vis (p.q.res λi=>hi v (t i)) (vis (p.q.res λi=>lo v (t i)) S)) (p.q.res λi=>lo v (t i)):=by rw [c3,bR a2]
 rw [hnl];have hil:inn (vis (p.q.res λi=>hi v (t i)) (vis (p.q.res λi=>lo v (t i)) S)) (p.q.res λi=>lo v (t i)):=by rw [c3];exact cd a2
 refine (xU hle6 hon6 hnn6 hcl6 (v:=v) hil c2 (by omega)).mono ?_;rintro _ F7 ⟨n7,rfl,hle7,hon7,hnn7,hk7⟩;rw [<- D.res,hadd] at hon7 ⊢;have nbn:∀a,nodes6.YZ=Y3 a->a.block≠p.bp:=λa ha e=>by obtain ⟨cur,hcur⟩:=hon6.elem ha;rw [e,hb6] at hcur;simp at hcur
 have nns:∀a,seen6.YZ=Y3 a->¬∃a',nodes6.YZ=Y3 a'/\a'.block=a.block:=λa ha ⟨a',ha',e⟩=>by obtain ⟨cur,hcur⟩:=hon6.elem ha';obtain ⟨cur',hcur'⟩:=hos6.elem ha;rw [e,hcur'] at hcur;simp at hcur
 have hb7:=hk7 _ _ hb6 (λ⟨a,ha,e⟩=>nbn a ha e);have hos7:=hos6.keepK hk7 nns;refine ⟨_,_,rfl,?_⟩;refine sE (b:=p.bp) (o:=5) (by simp) hb7 (by simp [RP.obj]) ?_;rw [show ((p.obj nodes6 seen6).setIfInBounds 5 n7.v:Γ)=p.obj n7 seen6 from rfl];have nb7:∀a,n7.YZ=Y3 a->a.block≠p.bp:=λa ha e=>by obtain ⟨cur,hcur⟩:=hon7.elem ha;rw [e,hb7] at hcur;simp at hcur
 have nbs:∀a,seen6.YZ=Y3 a->a.block≠p.bp:=λa ha e=>by obtain ⟨cur,hcur⟩:=hos7.elem ha;rw [e,hb7] at hcur;simp at hcur
 have hle8:F0.le (F7.set p.bp (Y4 (p.obj n7 seen6) 203)):=aw hle7 hnb;have hb8:=al F7 p.bp (Y4 (p.obj n7 seen6) 203);have hon8:bV (F7.set p.bp (Y4 (p.obj n7 seen6) 203)) 124 3 n7 (aW (brs (vis (p.q.res t) S))):=hon7.keep λa ha=>az _ _ (nb7 a ha);have hos8:bV (F7.set p.bp (Y4 (p.obj n7 seen6) 203)) 215 3 seen6 (aW L2):=hos7.keep λa ha=>az _ _ (nbs a ha);generalize F7.set p.bp (Y4 (p.obj n7 seen6) 203)=F8 at*;refine ⟨seen6,by rw [aE,aq hb8];rfl,rfl,λb132 hb132=> ?_⟩;refine atI ?_;generalize hN:num (vis (p.q.res t) S) (p.q.res t)=N at*;have lx9:=ae (Y4 (aZ ⟨(num p.A (t 0):Int),(num p.B (t 1):Int),(N:Int)⟩) 215) hb132;have q132:=al F8 b132 (Y4 (aZ ⟨(num p.A (t 0):Int),(num p.B (t 1):Int),(N:Int)⟩) 215);show aF prog _ (F8.set b132 (Y4 (aZ ⟨(num p.A (t 0):Int),(num p.B (t 1):Int),(N:Int)⟩) 215)) _;have hle9:=hle8.trans lx9;have hb9:=lx9 _ _ hb8;have hon9:=hon8.upto lx9;have hos9:=hos8.upto lx9;generalize F8.set b132 (Y4 (aZ ⟨(num p.A (t 0):Int),(num p.B (t 1):Int),(N:Int)⟩) 215)=F9 at*;have hL2:=hok6.length;have hfP:=hf.fP;have hslen:=hos9.rd.blen;have NO:tsz prog 215=Y3 (3,24):=by kernel_rfl
 have NP:bO prog 215=Y3 (Y9 #[Zf .i64 0,.int .i64 0,.int .i64 0]):=by kernel_rfl
 refine iS underlying201 NO NP rfl (by decide) hle9 hos9 hsn6 (x:=⟨Y3 ⟨b132,0,Y5⟩,1,1⟩) (news:=dr ⟨(num p.A (t 0):Int),(num p.B (t 1):Int),(N:Int)⟩) (RdS.new q132 rfl rfl (W8 _))
  (λx hx=>ii [⟨(num p.A (t 0):Int),(num p.B (t 1):Int),(N:Int)⟩] x (by simpa [aW] using hx)) (by simp only [hslen];omega) (by simp only [hslen];omega) ?_
 intro s10 F10 hle10 hos10 hlen10 hsn10 hk10 _;have nbs9:∀a,seen6.YZ=Y3 a->a.block≠p.bp:=nbs;have hb10:=hk10 _ _ hb9 (λ⟨a,ha,e⟩=>nbs9 a ha e);have hon10:=hon9.keepK hk10 λa ha ⟨a',ha',e⟩=>by obtain ⟨cur,hcur⟩:=hon9.elem ha;obtain ⟨cur',hcur'⟩:=hos9.elem ha';rw [e,hcur] at hcur';simp at hcur'
 refine ⟨s10,rfl,?_⟩;refine sE (b:=p.bp) (o:=6) (by simp) hb10 (by simp [RP.obj]) ?_;rw [show ((p.obj n7 seen6).setIfInBounds 6 s10.v:Γ)=p.obj n7 s10 from rfl];have nb10:∀a,n7.YZ=Y3 a->a.block≠p.bp:=nb7;have nbs10:∀a,s10.YZ=Y3 a->a.block≠p.bp:=λa ha e=>by obtain ⟨cur,hcur⟩:=hos10.elem ha;rw [e,hb10] at hcur;simp at hcur
 have hokT:(p.q.res t).ok:=by rw [D.res];exact Db D.lt D.tl D.th D.ol D.oh
 obtain ⟨v1,v2,Z,v3,v4⟩:=bA (p.q.res t) S hokT hcl;have het:Ent p ⟨(num p.A (t 0):Int),(num p.B (t 1):Int),(N:Int)⟩ t:=⟨ht,rfl,rfl⟩;have hL2new:∀e∈L2,(e.v,e.l)≠((num p.A (t 0):Int),(num p.B (t 1):Int)):=by
  intro e he2 hk;simp only [YU] at hk;rcases gr2 e he2 with h|⟨u,hu,hsz⟩
  ·rcases gr1 e h with h|⟨u,hu,hsz⟩
   ·exact hnew e h hk
   ·have:=(zR hf hu (w:=t) ⟨ht,hk.1,hk.2⟩).2;have:=D.sl;omega
  ·have:=(zR hf hu (w:=t) ⟨ht,hk.1,hk.2⟩).2;have:=D.sh;omega
 have hfin:=hR (F10.set p.bp (Y4 (p.obj n7 s10) 203)) (L2++[⟨(num p.A (t 0):Int),(num p.B (t 1):Int),(N:Int)⟩])
  ⟨aw hle10 hnb,hnb,v1,⟨λe he2=> ?_,?_⟩,n7,s10,al _ _ _,hon10.keep λa ha=>az _ _ (nb10 a ha),hnn7,by rw [eO];simpa [aW] using hos10.keep λa ha=>az _ _ (nbs10 a ha),hsn10⟩ ?_
 ·exact hfin
 ·rcases W9.1 he2 with he2|he2
  ·obtain ⟨u,hu,hi2,hh2⟩:=hok6.all e he2;refine ⟨u,hu,?_,?_⟩
   ·rw [<- hadd];unfold fu;split
    ·exact hi2
    ·exact cd hi2
   ·rw [hh2,<- hadd];unfold fu;split
    ·rfl
    ·rw [bR hi2]
  ·rw [W5.1 he2];exact ⟨t,het,v2,by rw [hN]⟩
 ·rw [Xt,Xv];refine ⟨hok6.nd,by simp,?_⟩;intro x hx y hy;obtain ⟨e,he2,rfl⟩:=Xi.1 hx;simp only [Xw,List.map_nil,W5] at hy;rw [hy];exact hL2new e he2
 ·intro e he2;rcases W9.1 he2 with he2|he2
  ·rcases gr2 e he2 with h|⟨u,hu,hsz⟩
   ·rcases gr1 e h with h|⟨u,hu,hsz⟩
    ·exact .inl h
    ·exact .inr ⟨u,hu,by have:=D.sl;omega⟩
   ·exact .inr ⟨u,hu,by have:=D.sh;omega⟩
  ·rw [W5.1 he2];exact .inr ⟨t,het,W8 _⟩
theorem FR (hf:RF p):∀(n:Nat) (t:Nat->Tr),szs t<=n->p.in2 t->RAt p t:=by
 intro n;induction n with
 |zero=>intro t hn;have:=kU (t 0);unfold szs at hn;omega
 |succ n ih=>
  intro t hn ht F0 F S Ls he hs hfit;obtain ⟨hle,hnb,hcl,hok,nodes,bG,hb,hon,hnn,hos,hsn⟩:=id hs;refine RR ?_;unfold Mn;have rest:¬((t 0).isL=Y8/\(t 1).isL=Y8)->ma (Y3 ⟨p.bp,0,Y5⟩) (num p.A (t 0)) (num p.B (t 1)) Y6 (λr F'=>r=vi (num (vis (p.q.res t) S) (p.q.res t))/\∃Ls',RS F0 F' p (vis (p.q.res t) S) Ls'/\FQ p Ls Ls' (szs t)) F:=by
   intro hnl;unfold ma;refine ⟨λh=>(by cases h),λ_=> ?_⟩;have hslen:=hos.rd.blen;have hL:=hok.length;have hfP:=hf.fP;have csn:F.cell (Zb ⟨p.bp,0,Y5⟩ 6)=Y3 bG.v:=by rw [aE,aq hb];rfl
   refine ⟨λm i F'=>∃k:Nat,i=k/\k<=Ls.length/\m=Ls.length - k/\F'=F/\∀e∈Ls.take k,¬(e.v=(num p.A (t 0):Int)/\e.l=(num p.B (t 1):Int)),Ls.length,⟨0,rfl,by omega,rfl,rfl,by simp⟩,?_⟩;rintro m i F' ⟨k,rfl,hk,rfl,rfl,hnot⟩;unfold B6;refine ⟨_,rfl,bG,csn,λhlt=> ?_,λhge=> ?_⟩
   ·have hkL:k<Ls.length:=by omega
    obtain ⟨a,ha,_,hx,hy,hh⟩:=rdb hos.rd (N5 hkL);have hw1:i64.wrap ((k:Int)+1)=((k+1:Nat):Int):=fz (by omega);have next:¬(Ls[k].v=(num p.A (t 0):Int)/\Ls[k].l=(num p.B (t 1):Int))->∃m',m'<Ls.length - k/\∃k':Nat,((k+1:Nat):Int)=k'/\k'<=Ls.length/\m'=Ls.length - k'/\F'=F'/\∀e∈Ls.take k',¬(e.v=(num p.A (t 0):Int)/\e.l=(num p.B (t 1):Int)):=λhne=>
     ⟨Ls.length - (k+1),by omega,k+1,rfl,by omega,rfl,rfl,λe he2=>by
      rw [Xr hkL] at he2;rcases W9.1 he2 with he2|he2
      ·exact hnot e he2
      ·rw [W5.1 he2];exact hne⟩
    have ax:F'.cell (Zb (Zb a (Zd (k:Int)*3)) (Zd 0*1))=Y3 (vi Ls[k].v):=by obtain ⟨ab,ao,asp⟩:=a;obtain ⟨b',o',hb',_⟩:=hos.rd.cells (by omega);rw [ha] at hb';cases hb';simpa using hx
    refine ⟨bG,csn,a,ha,by omega,by omega,by omega,by omega,_,ax,λhx1=> ?_,λhx1=> ?_⟩
    ·have ay:F'.cell (Zb (Zb a (Zd (k:Int)*3)) (Zd 1*1))=Y3 (vi Ls[k].l):=by simpa using hy
     refine ⟨bG,csn,a,ha,by omega,by omega,by omega,by omega,_,ay,?_⟩;unfold pH;refine ⟨λhy1=> ?_,λhy1=> ?_⟩
     ·have hy1:=ε hy1;have ah:F'.cell (Zb (Zb a (Zd (k:Int)*3)) (Zd 2*1))=Y3 (vi Ls[k].h):=by simpa using hh
      obtain ⟨u,hu,hi2,hh2⟩:=hok.all _ (X2 hkL);have e:=(zR hf hu (w:=t) ⟨ht,hx1,hy1⟩).1;rw [e] at hi2 hh2;have hvi:=gF hi2;refine ⟨bG,csn,a,ha,by omega,by omega,by omega,by omega,_,ah,?_⟩;rw [hvi,hh2];exact ⟨rfl,Ls,hs,λe he2=> .inl he2⟩
     ·rw [hw1];exact next λhc=>η hy1 hc.2
    ·unfold pH;refine ⟨λh=>(by cases h),λ_=> ?_⟩;rw [hw1];exact next λhc=>hx1 hc.1
   ·refine Ok hf ht (λu hu hlt=>ih u (by omega) hu) he hs hfit hnl (λe he2=> ?_) λF' Ls' h1 h2=>⟨rfl,Ls',h1,h2⟩;have hkL:k=Ls.length:=by omega
    rw [hkL,Xg] at hnot;exact hnot e he2
  refine ⟨λhx=> ?_,λhx=>rest λhc=>hx (dV.2 hc.1)⟩;by_cases hy:(t 1).isL=Y8
  ·have e:decide ((num p.B (t 1):Int)<2)=Y8:=ζ (dV.2 hy);rw [e];have hx':=dV.1 hx;unfold ma;refine ⟨λ_=> ?_,λh=>by cases h⟩;have hres:∀x0 x1:Bool,t 0=Y0 x0->t 1=Y0 x1->p.q.res t=Y0 (p.o x0 x1):=λx0 x1 e0 e1=>by unfold AP.res;rw [e0,e1,ht.2.2];exact mK _ _ _ _
   generalize ht0:t 0=y0 at*;generalize ht1:t 1=y1 at*;cases y0 with
   |Y1 _ _ _=>cases hx'
   |Y0 x0=>
    cases y1 with
    |Y1 _ _ _=>cases hy
    |Y0 x1=>have hr:=hres x0 x1 rfl rfl;rw [hr];refine (wg hf hb x0 x1).mono ?_;rintro _ F' ⟨rfl,rfl⟩;exact ⟨_,rfl,rfl,Ls,hs,λe he2=> .inl he2⟩
  ·have e:decide ((num p.B (t 1):Int)<2)=Y6:=ι (λh=>hy (dV.1 h));rw [e];exact rest λhc=>hy hc.2
end
abbrev ap2 (o:Op2) (a b:Tr):Tr:=ap (λx y _=>o x y) a b (Y0 Y6)
structure F2 (o:Op2) (a b:Tr):Prop where
 ka:a.ok
 kb:b.ok
 fA:Fit ((bi a).length+2)
 fB:Fit ((bi b).length+2)
 fP:Fit (((bi a).length+2)*((bi b).length+2)+2)
 fT:Fit ((bi (ap2 o a b)).length+4)
theorem bq {o:Op2} {a b:Tr} (ha:a.ok) (hb:b.ok):(ap2 o a b).ok/\∀c,(ap2 o a b).ev c=o (a.ev c) (b.ev c):=by obtain ⟨h1,_,h2⟩:=fC (o:=λx y _=>o x y) ha hb (d:=Y0 Y6) trivial;exact ⟨h1,h2⟩
section
variable {F:PH} {v w:Γ} {a b:Tr}
theorem gM {o:Op2} {opc:Int} (hop:(opc=0/\o=aY)\/(opc=1/\o=oOr)\/(opc=2/\o=kN)) (ha:DV F v (dia a)) (hb:DV F w (dia b)) (h:F2 o a b):
  ν 110 #[Y9 v,Y9 w,vi opc] F λr F'=>∃u,r=Y9 u/\DV F' u (dia (ap2 o a b))/\F.le F':=by
 obtain ⟨ka,kb,fA,fB,fP,fT⟩:=h;obtain ⟨sa,rfl,hra⟩:=ha;obtain ⟨sb,rfl,hrb⟩:=hb;refine RO ?_;unfold Mk;intro b3 hb3;refine atI ?_;have l3:=ae (Y4 #[sa.v,vi (dia a).2] 31) hb3;have q3:=al F b3 (Y4 #[sa.v,vi (dia a).2] 31);generalize F.set b3 (Y4 #[sa.v,vi (dia a).2] 31)=F3 at*;intro b4 hb4;refine atI ?_;have lx:=ae (Y4 #[sb.v,vi (dia b).2] 31) hb4;have q4:=al F3 b4 (Y4 #[sb.v,vi (dia b).2] 31);have q3:=lx _ _ q3;have l4:=l3.trans lx;clear lx;generalize F3.set b4 (Y4 #[sb.v,vi (dia b).2] 31)=F4 at*;intro b6 hb6;refine atI ?_;have f6:F b6=Y5:=aS l4 hb6;have lx:=ae (Y4 zD 31) hb6;have q6:=al F4 b6 (Y4 zD 31);have q3:=lx _ _ q3;have q4:=lx _ _ q4;have l6:=l4.trans lx;clear lx;generalize F4.set b6 (Y4 zD 31)=F6 at*;refine ⟨#[sa.v,vi (dia a).2],rfl,ac q3,#[sb.v,vi (dia b).2],rfl,ac q4,rfl,rfl,λb13 hb13=> ?_⟩;refine atI ?_
 let p:RP:=⟨b13,sa,sb,opc,o,dia a,dia b,bi a,bi b⟩
 have e13:(Array.setIfInBounds (wr (wr (#[Zm Y5 0 0,vi 0,Zm Y5 0 0,vi 0,vi 0,Zm Y5 0 0,Zm Y5 0 0]:Γ) 0 (#[sa.v,vi (dia a).2]:Γ).toList) 2 (#[sb.v,vi (dia b).2]:Γ).toList) 4 (vi opc))=p.obj Zi Zi:=rfl;rw [e13];have lx:=ae (Y4 (p.obj Zi Zi) 203) hb13;have q13:=al F6 b13 (Y4 (p.obj Zi Zi) 203);have q3':=lx _ _ q3;have q4':=lx _ _ q4;have hrf:RF p:=⟨bF ka,bF kb,YS _,YS _,by show Fit ((brs (bi a)).length+2);rw [aN];exact fA,by show Fit ((brs (bi b)).length+2);rw [aN];exact fB,fP,hop⟩;have hre:RE F6 p:=⟨hra.le l6,hrb.le l6⟩;have hrs:RS F6 (F6.set b13 (Y4 (p.obj Zi Zi) 203)) p [] []:=⟨lx,hb13,.nil,⟨λe he=>(by cases he),by simp⟩,Zi,Zi,q13,.inl ⟨rfl,rfl⟩,λa ha=>(by cases ha),.inl ⟨rfl,rfl⟩,λa ha=>by cases ha⟩;generalize F6.set b13 (Y4 (p.obj Zi Zi) 203)=F7 at*;refine ⟨(dia a).2,by rw [aq q3'];rfl,(dia b).2,by rw [aq q4'];rfl,?_⟩;have hres:p.q.res (lX a b (Y0 Y6))=ap2 o a b:=rfl;have hat:=FR hrf _ (lX a b (Y0 Y6)) (W8 _) ⟨bW ka,bW kb,rfl⟩ F6 F7 [] [] hre hrs (by rw [hres];exact fT);rw [hres] at hat;refine hat.mono ?_;rintro _ F8 ⟨rfl,Ls',hs8,_⟩;obtain ⟨hle8,hnb8,hcl8,_,nodes,bG,hb8,hon8,hnn8,_,_⟩:=hs8;replace hb8:F8 b13=Y3 (Y4 (p.obj nodes bG) 203):=hb8;refine ⟨_,rfl,nodes,by rw [aq hb8];rfl,?_⟩;have ev:vis (ap2 o a b) []=bi (ap2 o a b):=rfl;rw [ev] at*;have q68:=hle8 _ _ q6
 have hon':bV (dR F8 b6) 124 3 nodes (aW (brs (bi (ap2 o a b)))):=hon8.keep λa ha=>ff (λe=>by
  have:=hnn8 a ha;rw [e,q6] at this
  cases this)
 have hkT:=(bq (o:=o) ka kb).1;refine (iZ (kv hon'.rd hcl8 (bW hkT) fT) q68).mono ?_;rintro _ F9 ⟨u,rfl,⟨G,hu,lG,gG⟩,l9,q9⟩;refine ⟨_,rfl,?_⟩;exact gq (K:=λvres F'=>∃u,Y9 vres=Y9 u/\DV F' u (dia (ap2 o a b))/\F.le F') hu q9 rfl ⟨_,rfl,hu.le (aw lG gG),aw (l6.trans (hle8.trans l9)) f6⟩
theorem iF (ha:DV F v (dia a)) (hb:DV F w (dia b)) (h:F2 aY a b):ν 45 #[Y9 v,Y9 w] F λr F'=>∃u,r=Y9 u/\DV F' u (dia (ap2 aY a b))/\F.le F':=by refine V2 ?_;unfold RC;intro b2 hb2;refine atI ?_;have l2:=ae (Y4 v 31) hb2;have q2:=al F b2 (Y4 v 31);generalize F.set b2 (Y4 v 31)=F2 at*;intro b3 hb3;refine atI ?_;have lx:=ae (Y4 w 31) hb3;have q3:=al F2 b3 (Y4 w 31);have q2:=lx _ _ q2;have l3:=l2.trans lx;clear lx;generalize F2.set b3 (Y4 w 31)=F3 at*;intro b4 hb4;refine atI ?_;have f4:F b4=Y5:=aS l3 hb4;have lx:=ae (Y4 zD 31) hb4;have q4:=al F3 b4 (Y4 zD 31);have q2:=lx _ _ q2;have q3:=lx _ _ q3;have l4:=l3.trans lx;clear lx;generalize F3.set b4 (Y4 zD 31)=F4 at*;refine ⟨v,ha.size,ac q2,w,hb.size,ac q3,?_⟩;have ld:=eL l4 f4;refine (iZ (gM (opc:=0) (.inl ⟨rfl,rfl⟩) (ha.le ld) (hb.le ld) h) q4).mono ?_;rintro _ F5 ⟨z,rfl,⟨G,hz,lG,gG⟩,l5,q5⟩;refine ⟨_,rfl,?_⟩;exact gq (K:=λvres F'=>∃u,Y9 vres=Y9 u/\DV F' u (dia (ap2 aY a b))/\F.le F') hz q5 rfl ⟨_,rfl,hz.le (aw lG gG),aw (l4.trans l5) f4⟩
theorem rN (ha:DV F v (dia a)) (hb:DV F w (dia b)) (h:F2 oOr a b):ν 123 #[Y9 v,Y9 w] F λr F'=>∃u,r=Y9 u/\DV F' u (dia (ap2 oOr a b))/\F.le F':=by refine RQ ?_;unfold Ml;intro b2 hb2;refine atI ?_;have l2:=ae (Y4 v 31) hb2;have q2:=al F b2 (Y4 v 31);generalize F.set b2 (Y4 v 31)=F2 at*;intro b3 hb3;refine atI ?_;have lx:=ae (Y4 w 31) hb3;have q3:=al F2 b3 (Y4 w 31);have q2:=lx _ _ q2;have l3:=l2.trans lx;clear lx;generalize F2.set b3 (Y4 w 31)=F3 at*;intro b4 hb4;refine atI ?_;have f4:F b4=Y5:=aS l3 hb4;have lx:=ae (Y4 zD 31) hb4;have q4:=al F3 b4 (Y4 zD 31);have q2:=lx _ _ q2;have q3:=lx _ _ q3;have l4:=l3.trans lx;clear lx;generalize F3.set b4 (Y4 zD 31)=F4 at*;refine ⟨v,ha.size,ac q2,w,hb.size,ac q3,?_⟩;have ld:=eL l4 f4;refine (iZ (gM (opc:=1) (.inr (.inl ⟨rfl,rfl⟩)) (ha.le ld) (hb.le ld) h) q4).mono ?_;rintro _ F5 ⟨z,rfl,⟨G,hz,lG,gG⟩,l5,q5⟩;refine ⟨_,rfl,?_⟩;exact gq (K:=λvres F'=>∃u,Y9 vres=Y9 u/\DV F' u (dia (ap2 oOr a b))/\F.le F') hz q5 rfl ⟨_,rfl,hz.le (aw lG gG),aw (l4.trans l5) f4⟩
theorem rO (ha:DV F v (dia a)) (h:F2 kN a (Y0 Y8)):ν 86 #[Y9 v] F λr F'=>∃u,r=Y9 u/\DV F' u (dia (ap2 kN a (Y0 Y8)))/\F.le F':=by refine V5 ?_;unfold RM;intro b2 hb2;refine atI ?_;have l2:=ae (Y4 v 31) hb2;have q2:=al F b2 (Y4 v 31);generalize F.set b2 (Y4 v 31)=F3 at*;intro b4 hb4;refine atI ?_;have f4:F b4=Y5:=aS l2 hb4;have lx:=ae (Y4 zD 31) hb4;have q4:=al F3 b4 (Y4 zD 31);have q2:=lx _ _ q2;have l4:=l2.trans lx;clear lx;generalize F3.set b4 (Y4 zD 31)=F4 at*;refine ⟨v,ha.size,ac q2,?_⟩;refine (iZ (bH (F:=dR F4 b4) Y8) q4).mono ?_;rintro _ F5 ⟨y,rfl,⟨G0,hy,lG0,gG0⟩,l5,q5⟩;refine ⟨_,rfl,ac (l5 _ _ q2),?_⟩;have ld:=eL (l4.trans l5) f4;refine (iZ (gM (opc:=2) (.inr (.inr ⟨rfl,rfl⟩)) (ha.le ld) (hy.beside lG0 gG0) h) q5).mono ?_;rintro _ F6 ⟨z,rfl,⟨G,hz,lG,gG⟩,l6,q6⟩;refine ⟨_,rfl,?_⟩;exact gq (K:=λvres F'=>∃u,Y9 vres=Y9 u/\DV F' u (dia (ap2 kN a (Y0 Y8)))/\F.le F') hz q6 rfl ⟨_,rfl,hz.le (aw lG gG),aw (l4.trans (l5.trans l6)) f4⟩
theorem zS (ha:DV F v (dia a)) (hb:DV F w (dia b)) (h1:F2 kN b (Y0 Y8)) (h2:F2 aY a (ap2 kN b (Y0 Y8))):
  ν 175 #[Y9 v,Y9 w] F λr F'=>∃u,r=Y9 u/\DV F' u (dia (ap2 aY a (ap2 kN b (Y0 Y8))))/\F.le F':=by
 refine RU ?_;unfold Mp;intro b2 hb2;refine atI ?_;have l2:=ae (Y4 v 31) hb2;have q2:=al F b2 (Y4 v 31);generalize F.set b2 (Y4 v 31)=F2 at*;intro b3 hb3;refine atI ?_;have lx:=ae (Y4 w 31) hb3;have q3:=al F2 b3 (Y4 w 31);have q2:=lx _ _ q2;have l3:=l2.trans lx;clear lx;generalize F2.set b3 (Y4 w 31)=F3 at*;intro b4 hb4;refine atI ?_;have f4:F b4=Y5:=aS l3 hb4;have lx:=ae (Y4 zD 31) hb4;have q4:=al F3 b4 (Y4 zD 31);have q2:=lx _ _ q2;have q3:=lx _ _ q3;have l4:=l3.trans lx;clear lx;generalize F3.set b4 (Y4 zD 31)=F4 at*;refine ⟨v,ha.size,ac q2,w,hb.size,ac q3,?_⟩;refine (iZ (rO (hb.le (eL l4 f4)) h1) q4).mono ?_;rintro _ F5 ⟨y,rfl,⟨G0,hy,lG0,gG0⟩,l5,q5⟩;refine ⟨_,rfl,ac (l5 _ _ q2),?_⟩;refine (iZ (iF (ha.le (eL (l4.trans l5) f4)) (hy.beside lG0 gG0) h2) q5).mono ?_;rintro _ F6 ⟨z,rfl,⟨G,hz,lG,gG⟩,l6,q6⟩;refine ⟨_,rfl,?_⟩;exact gq (K:=λvres F'=>∃u,Y9 vres=Y9 u/\DV F' u (dia (ap2 aY a (ap2 kN b (Y0 Y8))))/\F.le F') hz q6 rfl ⟨_,rfl,hz.le (aw lG gG),aw (l4.trans (l5.trans l6)) f4⟩
end
theorem rP {n v:Nat} {t:Tr} (h:eH n t):eH n (lo v t):=by
 cases t with
 |Y0 b=>trivial
 |Y1 w l r=>
  simp only [lo];split
  ·exact h.2.1
  ·exact h
theorem rQ {n v:Nat} {t:Tr} (h:eH n t):eH n (hi v t):=by
 cases t with
 |Y0 b=>trivial
 |Y1 w l r=>
  simp only [hi];split
  ·exact h.2.2
  ·exact h
theorem FS {n v:Nat} {l h:Tr} (hv:v<n) (h1:eH n l) (h2:eH n h):eH n (mk v l h):=by
 unfold mk;split
 ·exact h1
 ·exact ⟨hv,h1,h2⟩
theorem nE {n:Nat} {t:Tr} (h:eH n t) (hl:t.isL=Y6):t.top<n:=by
 cases t with
 |Y0 b=>cases hl
 |Y1 v l r=>exact h.1
theorem FT (o:Op3) {n:Nat}:∀(k:Nat) (a b d:Tr),a.sz+b.sz+d.sz<=k->a.ok->b.ok->d.ok->eH n a->eH n b->eH n d->eH n (ap o a b d):=by
 intro k;induction k with
 |zero=>intro a b d hk;have:=kU a;omega
 |succ k ih=>
  intro a b d hk ha hb hd na nb nd;by_cases hv:aX a b d<64
  ·have hst:=wQ (o:=o) ha hb hd hv;have v1:aX a b d<=a.top:=by unfold aX;omega
   have v2:aX a b d<=b.top:=by unfold aX;omega
   have v3:aX a b d<=d.top:=by unfold aX;omega
   have hcase:aX a b d=a.top\/aX a b d=b.top\/aX a b d=d.top:=by unfold aX;omega
   generalize aX a b d=v at*;have nl:∀{t:Tr},v=t.top->t.isL=Y6:=λ{t} e=>by
    cases t with
    |Y0 b=>simp only [top] at e;omega
    |Y1 _ _ _=>rfl
   obtain ⟨al1,al2,al3,al4,al5⟩:=cy ha v1;obtain ⟨bl1,bl2,bl3,bl4,bl5⟩:=cy hb v2;obtain ⟨dl1,dl2,dl3,dl4,dl5⟩:=cy hd v3;obtain ⟨ah1,ah2,ah3,ah4,ah5⟩:=cz ha v1;obtain ⟨bh1,bh2,bh3,bh4,bh5⟩:=cz hb v2;obtain ⟨dh1,dh2,dh3,dh4,dh5⟩:=cz hd v3;have hvn:v<n:=by
    rcases hcase with e|e|e
    ·have:=nE na (nl e);omega
    ·have:=nE nb (nl e);omega
    ·have:=nE nd (nl e);omega
   have hsl:(lo v a).sz+(lo v b).sz+(lo v d).sz<=k:=by
    rcases hcase with e|e|e
    ·have:=al4 e.symm (nl e);omega
    ·have:=bl4 e.symm (nl e);omega
    ·have:=dl4 e.symm (nl e);omega
   have hsh:(hi v a).sz+(hi v b).sz+(hi v d).sz<=k:=by
    rcases hcase with e|e|e
    ·have:=ah4 e.symm (nl e);omega
    ·have:=bh4 e.symm (nl e);omega
    ·have:=dh4 e.symm (nl e);omega
   rw [hst];exact FS hvn (ih _ _ _ hsl al1 bl1 dl1 (rP na) (rP nb) (rP nd)) (ih _ _ _ hsh ah1 bh1 dh1 (rQ na) (rQ nb) (rQ nd))
  ·unfold aX at hv;obtain ⟨p,rfl⟩:=gE ha (by omega);obtain ⟨q,rfl⟩:=gE hb (by omega);obtain ⟨r,rfl⟩:=gE hd (by omega);rw [mK];trivial
theorem zU {n:Nat} (hn:n<=64):∀(t:Tr),t.ok->eH n t->cnt t+1<=2 ^ (n - min n t.top)
 |Y0 b,_,_=>by
  have:n - min n (Y0 b).top=0:=by simp only [top];omega
  rw [this];simp [cnt]
 |Y1 v l h,⟨h0,h1,h2,h3,h4,h5⟩,⟨b0,b1,b2⟩=>by
  have il:=zU hn l h4 b1;have ih:=zU hn h h5 b2;have k1:2 ^ (n - min n l.top)<=2 ^ (n - (v+1)):=XO (by decide) (by omega);have k2:2 ^ (n - min n h.top)<=2 ^ (n - (v+1)):=XO (by decide) (by omega);have e:n - min n (Y1 v l h).top=n - (v+1)+1:=by simp only [top];omega
  rw [e,Nat.pow_succ];simp only [cnt];omega
def Sx (n:Nat) (t:Tr):Prop:=t.ok/\eH n t
theorem Sx.cnt63 {n:Nat} {t:Tr} (h:Sx n t) (hn:n<=6):cnt t<=63:=by have h1:=zU (by omega:n<=64) t h.1 h.2;have h2:2 ^ (n - min n t.top)<=2 ^ 6:=XO (by decide) (by omega);omega
theorem Sx.small {n:Nat} {t:Tr} (h:Sx n t) (hn:n<=6):i6 t:=FN h.1 (by have:=h.cnt63 hn;omega)
theorem Sx.len {n:Nat} {t:Tr} (h:Sx n t) (hn:n<=6):(bi t).length<=63:=X4 (oI t) (h.cnt63 hn)
theorem Sx.ap {n:Nat} {o:Op3} {a b d:Tr} (ha:Sx n a) (hb:Sx n b) (hd:Sx n d):Sx n (Tr.ap o a b d):=⟨HO ha.1 hb.1 hd.1,FT o _ a b d (W8 _) ha.1 hb.1 hd.1 ha.2 hb.2 hd.2⟩
theorem Sx.Y0 (n:Nat) (b:Bool):Sx n (Tr.Y0 b):=⟨trivial,trivial⟩
theorem Sx.ap2 {n:Nat} {o:Op2} {a b:Tr} (ha:Sx n a) (hb:Sx n b):Sx n (ap2 o a b):=Sx.ap ha hb (Sx.Y0 n _)
theorem Sx.tv {n v:Nat} (hv:v<n) (hn:n<=6):Sx n (tv v):=⟨rL (by omega),hv,trivial,trivial⟩
theorem Sx.f2 {n:Nat} {o:Op2} {a b:Tr} (ha:Sx n a) (hb:Sx n b) (hn:n<=6):F2 o a b:=by have la:=ha.len hn;have lb:=hb.len hn;have lt:=(ha.ap2 (o:=o) hb).len hn;have hp:((bi a).length+2)*((bi b).length+2)<=65*65:=Nat.mul_le_mul (by omega) (by omega);exact ⟨ha.1,hb.1,by omega,by omega,by omega,by omega⟩
theorem My {v:Nat} (h:v<64):u64.wrap (v:Int)=(v:Int):=B5 (by omega) (by omega)
theorem FU {S:Tr->Prop} {f:FuncId} {args:Γ} {F:PH} {x:Nat} {o:Obj} (h:ai prog f args (dR F x) λr F'=>∃w t,r=Y9 w/\S t/\DV F' w (dia t)/\(dR F x).le F') (hx:F x=Y3 o):
  ai prog f args F λr F'=>∃w t,r=Y9 w/\S t/\(∃G,DV G w (dia t)/\G.le F'/\G x=Y5)/\F.le F'/\F' x=Y3 o:=
 (ai.avoid h hx).mono λ_ _ ⟨G,⟨w,t,hr,ht,hw,lg⟩,lG,q,g⟩=>⟨w,t,hr,ht,⟨G,hw,lG,g⟩,ie lg lG q hx,q⟩
def Ol (l:Φ) (k:Nat):Bool:=
 if h:k / 8<l.length then decide (u8.wrap ((BitVec.ofInt (u8).bits (Int.fdiv l[k / 8] (2 ^ (min (Zd (((k % 8:Nat):Int))) (u8).bits))) &&& BitVec.ofInt (u8).bits (1:Int)).toNat)=(1:Int)) else Y6
def jd (l:Φ):Nat->Nat->Nat->Tr
 |0,_,k=>Tr.Y0 (Ol l k)
 |m+1,v,k=>ap2 oOr (ap2 aY (tv v) (jd l m (v+1) (k+2 ^ v))) (ap2 aY (jd l m (v+1) k) (ap2 kN (tv v) (Tr.Y0 Y8)))
theorem zV {n:Nat} (hn:n<=6):∀(m v k:Nat),v+m=n->k<2 ^ v->∀(F:PH) (sl:Sl) (l:Φ),RdS F sl 1 (l.map (Zf .u8))->
  ν 135 #[sl.v,vi n,vi v,vi k] F λr F'=>∃u t,r=Y9 u/\(Sx n t/\t=jd l m v k)/\DV F' u (dia t)/\F.le F':=by
 intro m;induction m with
 |zero=>
  intro v k hvm hk F sl l hr;obtain rfl:v=n:=by omega
  have hk64:k<64:=Nat.lt_of_lt_of_le hk (XO (by decide) hn);refine Mm ?_;unfold FL;intro b8 hb8;refine atI ?_;have l8:=ae (Y4 zD 31) hb8;have q8:=al F b8 (Y4 zD 31);have hr8:=hr.le l8;generalize F.set b8 (Y4 zD 31)=F8 at*;have hd:i64.wrap (Int.tdiv (k:Int) 8)=((k / 8:Nat):Int):=by rw [Yg (by omega),aP (by omega)];rfl
  have hm:u64.wrap (Zk (k:Int) 8)=((k % 8:Nat):Int):=by rw [XX (by omega),B5 (by omega) (by omega)];rfl
  have hlen:=hr8.len;simp at hlen;refine ⟨λ_=>⟨λhlt=> ?_,λ_=> ?_⟩,λh=>absurd rfl h⟩
  ·rw [hd] at hlt ⊢;have hkl:k / 8<l.length:=by omega
   obtain ⟨b,o,hb,hc⟩:=hr8.cells (by omega);have hcell:=hc (k / 8) (by simpa using hkl);refine ⟨_,hb,by omega,hlt,l[k / 8],by rw [aE,N4,Xz];simpa using hcell,by rw [hm];omega,?_⟩;refine (iZ (bH (F:=dR F8 b8) _) q8).mono ?_;rintro _ F9 ⟨u,rfl,⟨G,hu,lG,gG⟩,l9,q9⟩;refine ⟨_,rfl,?_⟩;exact gq (K:=λvres F'=>∃u t,Y9 vres=Y9 u/\(Sx v t/\t=jd l 0 v k)/\DV F' u (dia t)/\F.le F') hu q9 rfl ⟨_,_,rfl,⟨Sx.Y0 v _,by rw [jd,Ol,dif_pos hkl,hm]⟩,hu.le (aw lG gG),aw (l8.trans l9) hb8⟩
  ·rename_i hge;rw [hd] at hge;refine (iZ (bH (F:=dR F8 b8) Y6) q8).mono ?_;rintro _ F9 ⟨u,rfl,⟨G,hu,lG,gG⟩,l9,q9⟩;refine ⟨_,rfl,?_⟩;exact gq (K:=λvres F'=>∃u t,Y9 vres=Y9 u/\(Sx v t/\t=jd l 0 v k)/\DV F' u (dia t)/\F.le F') hu q9 rfl ⟨_,_,rfl,⟨Sx.Y0 v _,by rw [jd,Ol,dif_neg (by omega)]⟩,hu.le (aw lG gG),aw (l8.trans l9) hb8⟩
 |succ m ih=>
  intro v k hvm hk F sl l hr;have hvn:v<n:=by omega
  have hk64:k<64:=Nat.lt_of_lt_of_le hk (X4 (XO (by decide:2>0) (by omega:v<=6)) (by decide));have hp64:2 ^ v<=32:=X4 (XO (by decide:2>0) (by omega:v<=5)) (by decide);refine Mm ?_;unfold FL;intro b8 hb8;refine atI ?_;have l8:=ae (Y4 zD 31) hb8;have q8:=al F b8 (Y4 zD 31);generalize F.set b8 (Y4 zD 31)=F8 at*;refine ⟨λh=>by omega,λ_=> ?_⟩;have hvar:=nD (F:=dR F8 b8) (v:Int);rw [Ce (by omega)] at hvar;refine (zQ hvar q8).mono ?_;rintro _ F9 ⟨x,rfl,⟨G,hx,lG,gG⟩,l9,q9⟩;refine ⟨_,_,rfl,?_⟩;intro b9 hb9;refine atI ?_;refine stW (al _ _ _) hx.size rfl hx.st ?_;rw [aT];have n89:b8≠b9:=aG hb9 q9;have lx:=ae (Y4 x 31) hb9;have r9:=al F9 b9 (Y4 x 31);have q10:=lx _ _ q9;have hx10:=hx.beside (lG.trans lx) gG;have l10:=l8.trans (l9.trans lx);generalize F9.set b9 (Y4 x 31)=F10 at*;have wv:i64.wrap ((v:Int)+1)=((v+1:Nat):Int):=fz (by omega);have w2:i64.wrap ((1:Int)*2 ^ (min (Zd (u64.wrap (v:Int))) (i64).bits))=((2 ^ v:Nat):Int):=by
   rw [My (by omega)];have hm:min (Zd (v:Int)) (i64).bits=v:=by simp only [IntKind.bits,N4];omega
   have e1:(1:Int)*2 ^ v=((2 ^ v:Nat):Int):=by simp
   rw [hm,e1,aP (by omega)]
  have wk:i64.wrap ((k:Int)+((2 ^ v:Nat):Int))=((k+2 ^ v:Nat):Int):=by rw [aP (by omega)];omega
  rw [w2,wk,wv];refine ⟨x,hx.size,ac r9,by rw [My (by omega)];omega,x,hx.size,ac r9,?_⟩;have hpow:2 ^ (v+1)=2 ^ v+2 ^ v:=by rw [Nat.pow_succ];omega
  refine (FU (ih (v+1) (k+2 ^ v) (by omega) (by omega) (dR F10 b8) sl l (hr.le (eL l10 hb8))) q10).mono ?_;rintro _ F11 ⟨u1,t1,rfl,⟨k1,e1⟩,⟨G1,h1,lG1,gG1⟩,l11,q11⟩;refine ⟨_,rfl,ac (l11 _ _ r9),ac (l11 _ _ r9),?_⟩;refine (iZ (iF (hx10.le (nC l11)) (h1.beside lG1 gG1) ((Sx.tv hvn hn).f2 k1 hn)) q11).mono ?_;rintro _ F12 ⟨u2,rfl,⟨G2,h2,lG2,gG2⟩,l12,q12⟩;have k2:=(Sx.tv hvn hn).ap2 (o:=aY) k1;refine ⟨_,rfl,ac (l12 _ _ (l11 _ _ r9)),?_⟩;refine (FU (ih (v+1) k (by omega) (by omega) (dR F12 b8) sl l (hr.le (eL (l10.trans (l11.trans l12)) hb8))) q12).mono ?_;rintro _ F13 ⟨u3,t3,rfl,⟨k3,e3⟩,⟨G3,h3,lG3,gG3⟩,l13,q13⟩;refine ⟨_,rfl,ac (l13 _ _ (l12 _ _ (l11 _ _ r9))),?_⟩;have kx:=(Sx.tv hvn hn).ap2 (o:=kN) (Sx.Y0 n Y8);refine (iZ (zS (h3.beside lG3 gG3) (hx10.le (nC (l11.trans (l12.trans l13)))) ((Sx.tv hvn hn).f2 (Sx.Y0 n Y8) hn) (k3.f2 kx hn)) q13).mono ?_;rintro _ F14 ⟨u4,rfl,⟨G4,h4,lG4,gG4⟩,l14,q14⟩;have k4:=k3.ap2 (o:=aY) kx;refine ⟨_,rfl,?_⟩;refine (iZ (rN ((h2.beside lG2 gG2).le (nC (l13.trans l14))) (h4.beside lG4 gG4) (k2.f2 k4 hn)) q14).mono ?_;rintro _ F15 ⟨u5,rfl,⟨G5,h5,lG5,gG5⟩,l15,q15⟩;refine ⟨_,rfl,?_⟩;exact gq (K:=λvres F'=>∃u t,Y9 vres=Y9 u/\(Sx n t/\t=jd l (m+1) v k)/\DV F' u (dia t)/\F.le F') h5 q15 rfl ⟨_,_,rfl,⟨k2.ap2 k4,by rw [jd,<- e1,<- e3]⟩,h5.le (aw lG5 gG5),aw (l10.trans (l11.trans (l12.trans (l13.trans (l14.trans l15))))) hb8⟩
theorem ox {n:Nat} (hn:n<=6) {F:PH} {sl:Sl} {l:Φ} (hr:RdS F sl 1 (l.map (Zf .u8))):ν 82 #[sl.v,vi n] F λr F'=>∃u t,r=Y9 u/\(Sx n t/\t=jd l n 0 0)/\DV F' u (dia t)/\F.le F':=by
 refine V4 ?_;unfold RJ;intro b4 hb4;refine atI ?_;have l4:=ae (Y4 zD 31) hb4;have q4:=al F b4 (Y4 zD 31);generalize F.set b4 (Y4 zD 31)=F4 at*;have e:max (0:Int) (min (n:Int) 6)=(n:Int):=by omega
 rw [e];refine (FU (zV hn n 0 0 (by omega) (by simp) (dR F4 b4) sl l (hr.le (eL l4 hb4))) q4).mono ?_;rintro _ F5 ⟨u,t,rfl,kt,⟨G,hu,lG,gG⟩,l5,q5⟩;refine ⟨_,rfl,?_⟩;exact gq (K:=λvres F'=>∃u t,Y9 vres=Y9 u/\(Sx n t/\t=jd l n 0 0)/\DV F' u (dia t)/\F.le F') hu q5 rfl ⟨_,_,rfl,kt,hu.le (aw lG gG),aw (l4.trans l5) hb4⟩
section
variable {F:PH} {v:Γ} {d:Dia}
open Classical in
theorem zW (hd:DV F v d) (hf:Fit (d.1.length+4)) {S:List Tr} (hS:Cl S) {k:Nat} (hk:S.length=k) (hkd:k<d.1.length) (hb:brs S=d.1.take k):
  ν 216 #[Y9 v,vi k] F λr F'=>r=Za (decide (x7 S d.1[k]))/\F.le F':=by
 have hd':=hd;obtain ⟨s,rfl,hr⟩:=hd;have hlen:=hr.blen;have hpre:brs S<+:d.1:=by rw [hb];exact List.take_prefix _ _
 generalize hB:d.1[k]=B;have hget:d.1[k]? =Y3 B:=by rw [N5 hkd,hB]
 refine R1 ?_;unfold Mx;intro b2 hb2;refine atI ?_;have l2:=ae (Y4 #[s.v,vi d.2] 31) hb2;have q2:=al F b2 (Y4 #[s.v,vi d.2] 31);generalize F.set b2 (Y4 #[s.v,vi d.2] 31)=F2 at*;obtain ⟨p,hp,hrow,_⟩:=rdb (hr.le l2) hget;refine ⟨s,by rw [aq q2];rfl,p,hp,by omega,by omega,aZ B,rfl,by simpa using hrow,?_⟩;intro b5 hb5;refine atI ?_;refine stW (al _ _ _) rfl rfl (mz _) ?_;rw [aT];have lx:=ae (Y4 (aZ B) 124) hb5;have q5:=al F2 b5 (Y4 (aZ B) 124);have q2:=lx _ _ q2;have l5:=l2.trans lx;generalize F2.set b5 (Y4 (aZ B) 124)=F5 at*;have c0:∀{G:PH},F5.le G->G.cell (Zc b5 0 Y5)=Y3 (vi B.v):=λh=>by rw [aq (h _ _ q5)];rfl
 have c1:∀{G:PH},F5.le G->G.cell (Zc b5 1 Y5)=Y3 (vi B.l):=λh=>by rw [aq (h _ _ q5)];rfl
 have c2:∀{G:PH},F5.le G->G.cell (Zc b5 2 Y5)=Y3 (vi B.h):=λh=>by rw [aq (h _ _ q5)];rfl
 have r0:=PH.le_rfl (F:=F5);have hw:i64.wrap ((k:Int)+2)=(k:Int)+2:=by rw [aP (by omega)]
 have bad:∀{G:PH},F.le G->¬x7 S B->(Za Y6=Za (decide (x7 S B))/\F.le G):=λ{G} hg hn=>⟨by rw [ι hn],hg⟩;rw [hw];refine ⟨_,c0 r0,λh=>bad l5 λhF=>(by have:=cu hS hF;omega),λh1=> ?_⟩;refine ⟨_,c0 r0,λh=>bad l5 λhF=>(by have:=cu hS hF;omega),λh2=> ?_⟩;refine ⟨_,c1 r0,λh=>bad l5 λhF=>(by have:=cu hS hF;omega),λh3=> ?_⟩;refine ⟨_,c2 r0,λh=>bad l5 λhF=>(by have:=cu hS hF;omega),λh4=> ?_⟩;refine ⟨_,c1 r0,λh=>bad l5 λhF=>(by have:=cu hS hF;omega),λh5=> ?_⟩;refine ⟨_,c2 r0,λh=>bad l5 λhF=>(by have:=cu hS hF;omega),λh6=> ?_⟩;refine ⟨_,c1 r0,_,c2 r0,λh=>bad l5 λhF=>(by have:=cu hS hF;omega),λh7=> ?_⟩;have il:inn S (tr S B.l.toNat):=gP (by omega);have ih:inn S (tr S B.h.toNat):=gP (by omega);have nl:((num S (tr S B.l.toNat):Nat):Int)=B.l:=by rw [gm hS (by omega)];omega
 have nh:((num S (tr S B.h.toNat):Nat):Int)=B.h:=by rw [gm hS (by omega)];omega
 refine ⟨_,rfl,ac q2,_,c1 r0,_,c0 r0,?_⟩;have s1:=ft (hd'.le l5) hpre il (by omega);rw [nl] at s1;refine s1.mono ?_;rintro _ F6 ⟨rfl,l6⟩;refine ⟨_,rfl,c0 l6,λh=>bad (l5.trans l6) λhF=>(by have:=cu hS hF;omega),λh9=> ?_⟩;refine ⟨_,rfl,ac (l6 _ _ q2),_,c2 l6,_,c0 l6,?_⟩;have s2:=ft (hd'.le (l5.trans l6)) hpre ih (by omega);rw [nh] at s2;refine s2.mono ?_;rintro _ F7 ⟨rfl,l7⟩;have l57:=l6.trans l7;refine ⟨_,rfl,c0 l57,c0 l57,λh=>bad (l5.trans l57) λhF=>(by have:=cu hS hF;omega),λh10=> ?_⟩;have hmem:∀i,i<k->∀x,d.1[i]? =Y3 x->x∈brs S:=λi hi x hx=>by rw [hb];exact W7 (by rw [XG hi];exact hx)
 refine ⟨λm i F'=>∃j:Nat,i=j/\j<=k/\m=k - j/\F7.le F'/\∀x∈d.1.take j,x≠B,k,⟨0,rfl,by omega,rfl,PH.le_rfl,by simp⟩,?_⟩;rintro m i F8 ⟨j,rfl,hj,rfl,l8,hne⟩;have l58:=l57.trans l8;unfold Cd;refine ⟨λhlt=> ?_,λhge=> ?_⟩
 ·have hjd:j<d.1.length:=by omega
  have hjg:=N5 hjd;obtain ⟨p,hp,hrow,_⟩:=rdb (hr.le (l5.trans l58)) hjg;refine ⟨s,by rw [aq (l58 _ _ q2)];rfl,p,hp,by omega,by omega,aZ d.1[j],rfl,by simpa using hrow,aZ B,rfl,ac (l58 _ _ q5),_,λF=>GA _ _ F,λhe=> ?_,λhn=> ?_⟩
  ·refine bad (l5.trans l58) λhF=>(cu hS hF).2.2.2.2.2.2.2.1 ?_;rw [<- ε he];exact hmem j (by omega) _ hjg
  ·refine ⟨k - (j+1),by omega,j+1,fz (by omega),by omega,rfl,l8,λx hx=> ?_⟩;rw [Xr hjd] at hx;rcases W9.1 hx with hx|hx
   ·exact hne x hx
   ·rw [W5.1 hx];exact η hn
 ·obtain rfl:j=k:=by omega
  unfold Cc;refine ⟨?_,l5.trans l58⟩;rw [ζ (Cw hS (by omega) (by omega) (by omega) (by omega) (by omega) (by omega) h7 (λhm=>hne B (by rw [<- hb];exact hm) rfl) (by omega) (by omega))]
open Classical in
theorem D3 (hd:DV F v d) (hf:Fit (d.1.length+4)):ν 210 #[Y9 v] F λr F'=>r=Za (decide (i7 d))/\F.le F':=by
 have hd':=hd;obtain ⟨s,rfl,hr⟩:=hd;have hlen:=hr.blen;refine R0 ?_;unfold Mw;intro b1 hb1;refine atI ?_;have l1:=ae (Y4 #[s.v,vi d.2] 31) hb1;have q1:=al F b1 (Y4 #[s.v,vi d.2] 31);generalize F.set b1 (Y4 #[s.v,vi d.2] 31)=F1 at*;have bad:∀{G:PH},F.le G->¬i7 d->(Za Y6=Za (decide (i7 d))/\F.le G):=λ{G} hg hn=>⟨by rw [ι hn],hg⟩;have hrange:i7 d->0<=d.2/\d.2<=(d.1.length:Int)+1:=by rintro ⟨t,ht,rfl⟩;have h1:=fc (bW ht);have h2:(dia t).1.length=(bi t).length:=aN _;have h3:(dia t).2=((num (bi t) t:Nat):Int):=rfl;omega
 have hw:i64.wrap ((s.len:Int)+2)=(s.len:Int)+2:=by rw [aP (by omega)]
 have c1:∀{G:PH},F1.le G->G.cell (Zc b1 1 Y5)=Y3 (vi d.2):=λh=>by rw [aq (h _ _ q1)];rfl
 have c0:∀{G:PH},F1.le G->G.cell (Zc b1 0 Y5)=Y3 s.v:=λh=>by rw [aq (h _ _ q1)];rfl
 have r0:=PH.le_rfl (F:=F1);refine ⟨_,c1 r0,λh=>bad l1 λhv=>(by have:=hrange hv;omega),λh1=> ?_⟩;refine ⟨_,c1 r0,s,c0 r0,?_⟩;dsimp only;rw [hw];refine ⟨λh=>bad l1 λhv=>(by have:=hrange hv;omega),λh2=> ?_⟩;refine ⟨λm i F'=>∃(k:Nat) (S:List Tr),i=k/\k<=d.1.length/\m=d.1.length - k/\F1.le F'/\Cl S/\S.length=k/\brs S=d.1.take k,d.1.length,⟨0,[],rfl,by omega,rfl,r0,.nil,rfl,by simp [brs]⟩,?_⟩;rintro m i F2 ⟨k,S,rfl,hk,rfl,l2,hS,hSk,hSb⟩;unfold Cb;refine ⟨s,c0 l2,λhlt=> ?_,λhge=> ?_⟩
 ·have hkd:k<d.1.length:=by omega
  refine ⟨_,rfl,ac (l2 _ _ q1),?_⟩;refine (zW (hd'.le (l1.trans l2)) hf hS hSk hkd hSb).mono ?_;rintro _ F3 ⟨rfl,l3⟩;by_cases hF:x7 S d.1[k]
  ·rw [ζ hF];refine ⟨_,rfl,λh=>(by cases h),λ_=> ?_⟩;obtain ⟨v,l,h,e,hl,hh,hok,hn⟩:=hF;refine ⟨d.1.length - (k+1),by omega,k+1,S++[Y1 v l h],fz (by omega),by omega,rfl,l2.trans l3,.snoc hS hl hh hok hn,by simp [hSk],?_⟩;rw [eR hS hl hh,Xr hkd,hSb,e]
  ·rw [ι hF];exact ⟨_,rfl,λ_=>bad (l1.trans (l2.trans l3)) λhv=>hF (kB hv hS hSk hkd hSb),λh=>by cases h⟩
 ·obtain rfl:k=d.1.length:=by omega
  rw [Xg] at hSb;unfold B9;have hin:inn S (tr S d.2.toNat):=gP (by omega);have hnum:((num S (tr S d.2.toNat):Nat):Int)=d.2:=by rw [gm hS (by omega)];omega
  refine ⟨_,rfl,ac (l2 _ _ q1),s,c0 l2,_,c1 l2,?_⟩;have sp:=kv (ns:=s) (t:=tr S d.2.toNat) (by rw [hSb];exact hr.le (l1.trans l2)) hS hin (by omega);rw [hnum] at sp;refine sp.mono ?_;rintro _ F3 ⟨w,rfl,hw3,l3⟩;refine ⟨_,rfl,ac ((l2.trans l3) _ _ q1),?_⟩;refine (gg (hd'.le (l1.trans (l2.trans l3))) hw3 (by omega)).mono ?_;rintro _ F4 ⟨rfl,l4⟩;refine ⟨_,rfl,?_,l1.trans (l2.trans (l3.trans l4))⟩;have key:(d=dia (tr S d.2.toNat))↔i7 d:=by
   constructor
   ·exact λe=>⟨_,hS.inn_ok hin,e⟩
   ·rintro ⟨u,hu,e⟩;have e1:brs S=brs (bi u):=by rw [hSb,e];rfl
    have e2:S=bi u:=qt hS (bF hu) e1;have e3:d.2.toNat=num (bi u) u:=by rw [e];show ((num (bi u) u:Nat):Int).toNat=_;simp
    rw [e3,e2,nJ (bF hu) (bW hu)];exact e
  congr 1;rw [Xc,decide_eq_true_iff,decide_eq_true_iff];exact key
theorem D4 (hd:DV F v d) (hf:Fit (d.1.length+4)):ν 197 #[Y9 v] F λr F'=>r=vi (chk d)/\F.le F':=by
 have hd':=hd;obtain ⟨s,rfl,hr⟩:=hd;have hlen:=hr.blen;refine RZ ?_;unfold Mv;intro b1 hb1;refine atI ?_;have l1:=ae (Y4 #[s.v,vi d.2] 31) hb1;have q1:=al F b1 (Y4 #[s.v,vi d.2] 31);generalize F.set b1 (Y4 #[s.v,vi d.2] 31)=F1 at*;refine ⟨s,by rw [aq q1];rfl,λh=>⟨?_,l1⟩,λh=> ?_⟩
 ·unfold chk;rw [Χ (by omega)]
 ·refine ⟨_,rfl,ac q1,?_⟩;refine (D3 (hd'.le l1) hf).mono ?_;rintro _ F2 ⟨rfl,l2⟩;refine ⟨_,rfl,λh2=>⟨?_,l1.trans l2⟩,λh2=>⟨?_,l1.trans l2⟩⟩
  ·unfold chk;rw [Υ (by omega),Υ (by simpa using h2)]
  ·unfold chk;rw [Υ (by omega),Χ (by simpa using h2)]
end
theorem fresh {F:PH} {o:Obj} {K:Nat->Ψ} (k:∀b F',F.le F'->F' b=Y3 o->F b=Y5->K b F'):∀b,F b=Y5->atF (F.set b o) (K b):=λb hb=>k b _ (ae o hb) (al _ _ _) hb
theorem ld {F:PH} {b i:Nat} {c:Γ} {e:TypeId} {fr:Nat×Nat} {v:ξ} (h:F b=Y3 (Y4 c e fr)) (hv:c[i]? =Y3 v):F.cell (Zc b i Y5)=Y3 v:=(aq h).trans hv
theorem je {F:PH} {b o e:Nat} {c d:Γ} {fr:Nat×Nat} (h:F b=Y3 (Y4 c e fr)) (hd:(c.toList.drop o).take d.size=d.toList):F.row (Zc b o Y5) d:=by intro i hi;rw [aE,aq h];have:=congrArg (λl=>l[i]?) hd;simp only [XG hi,List.getElem?_drop,Yk] at this;rw [this];simp [hi]
theorem bj {F:PH} {a:Addr} {c:Γ} {i:Nat} {v:ξ} (h:F.row a c) (hv:c[i]? =Y3 v):F.cell (a.add i)=Y3 v:=by obtain ⟨hi,rfl⟩:=Array.getElem?_eq_some_iff.1 hv;exact h i hi
theorem aQ {F:PH} {a:Addr} {c:Γ} {v:ξ} (h:F.row a c) (hv:c[0]? =Y3 v):F.cell a=Y3 v:=by have:=bj h hv;rwa [show a.add 0=a by unfold Zb;cases a;rename_i b o s;cases s<;>simp] at this
def Dj (G H:PH):Prop:=∀b,G b=Y5\/H b=Y5
theorem Dj.symm {G H:PH} (h:Dj G H):Dj H G:=λb=>(h b).symm
structure St (G F:PH) (As:List (Ψ)):Prop where
 le:G.le F
 ex:∃Hs:Nat->PH,(∀i A,As[i]? =Y3 A->A (Hs i)/\Dj G (Hs i)/\(Hs i).le F)/\∀i j,i<As.length->j<As.length->i≠j->Dj (Hs i) (Hs j)
def pt (b:Nat) (o:Obj):Ψ:=λH=>H b=Y3 o
def own (s:Sl) (e n:Nat) (vs:Ξ):Ψ:=λH=>bV H e n s vs
namespace St
section
variable {G F:PH} {As:List (Ψ)}
theorem start (F:PH):St F F []:=⟨am F,λ_ _=>Y5,λi A h=>(by cases h),λi j h=>(by cases h)⟩
theorem get (h:St G F As) {i:Nat} {A:Ψ} (hi:As[i]? =Y3 A):∃H,A H/\Dj G H/\H.le F:=by obtain ⟨Hs,h1,_⟩:=h.ex;exact ⟨Hs i,h1 i A hi⟩
theorem set (h:St G F As) {i:Nat} {A A':Ψ} (hi:As[i]? =Y3 A):∃H,A H/\Dj G H/\H.le F/\∀H' F',A' H'->(∀b,H' b≠Y5->H b≠Y5\/F b=Y5)->H'.le F'->(∀b o,F b=Y3 o->H b=Y5->F' b=Y3 o)->St G F' (As.set i A'):=by
 obtain ⟨Hs,h1,h2⟩:=h.ex;obtain ⟨a1,a2,a3⟩:=h1 i A hi;refine ⟨Hs i,a1,a2,a3,λH' F' hA hb hl hk=> ?_⟩;have hil:i<As.length:=(N6.1 hi).1;have hfree:∀{K:PH},K.le F->Dj (Hs i) K->Dj H' K:=λ{K} hK hd b=>by
  by_cases e:H' b=Y5
  ·exact .inl e
  ·rcases hb b e with e|e
   ·rcases hd b with h|h
    ·exact absurd h e
    ·exact .inr h
   ·exact .inr (aS hK e)
 have hkeep:∀{K:PH},K.le F->Dj (Hs i) K->K.le F':=λ{K} hK hd b o ho=>hk b o (hK b o ho) (by
  rcases hd b with h|h
  ·exact h
  ·rw [h] at ho;cases ho)
 refine ⟨hkeep h.le a2.symm,λj=>if j=i then H' else Hs j,λj B hj=> ?_,λj k hj hk' hne=> ?_⟩
 ·dsimp only;by_cases e:j=i
  ·subst e;rw [X0 hil] at hj;cases hj;rw [Χ rfl];exact ⟨hA,(hfree h.le a2.symm).symm,hl⟩
  ·rw [Ys (Ne.symm e)] at hj;rw [Υ e];obtain ⟨b1,b2,b3⟩:=h1 j B hj;have hjl:j<As.length:=(N6.1 hj).1;exact ⟨b1,b2,hkeep b3 (h2 i j hil hjl (Ne.symm e))⟩
 ·rw [YH] at hj hk';have hle:∀{m:Nat},m<As.length->(Hs m).le F:=λ{m} hm=>(h1 m _ (N5 hm)).2.2;dsimp only;by_cases e:j=i
  ·subst e;rw [Χ rfl,Υ (Ne.symm hne)];exact hfree (hle hk') (h2 j k hj hk' hne)
  ·rw [Υ e];by_cases e2:k=i
   ·subst e2;rw [Χ rfl];exact (hfree (hle hj) (h2 k j hk' hj (Ne.symm hne))).symm
   ·rw [Υ e2];exact h2 j k hj hk' hne
theorem push (h:St G F As) {A:Ψ} {H F':PH} (hA:A H) (hd:∀b,H b≠Y5->F b=Y5) (hl:H.le F') (hk:F.le F'):St G F' (A::As):=by
 obtain ⟨Hs,h1,h2⟩:=h.ex;have hdj:∀{K:PH},K.le F->Dj K H:=λ{K} hK b=>by
  by_cases e:H b=Y5
  ·exact .inr e
  ·exact .inl (aS hK (hd b e))
 refine ⟨aa h.le hk,λj=>match j with|0=>H|j+1=>Hs j,λj B hj=> ?_,λj k hj hk' hne=> ?_⟩
 ·cases j with
  |zero=>cases hj;exact ⟨hA,hdj h.le,hl⟩
  |succ j=>obtain ⟨b1,b2,b3⟩:=h1 j B (by simpa using hj);exact ⟨b1,b2,aa b3 hk⟩
 ·have hle:∀{m:Nat},m<As.length->(Hs m).le F:=λ{m} hm=>(h1 m _ (N5 hm)).2.2;cases j with
  |zero=>
   cases k with
   |zero=>exact absurd rfl hne
   |succ k=>exact (hdj (hle (by simpa using hk'))).symm
  |succ j=>
   cases k with
   |zero=>exact hdj (hle (by simpa using hj))
   |succ k=>exact h2 j k (by simpa using hj) (by simpa using hk') (by omega)
theorem tail {A:Ψ} (h:St G F (A::As)):St G F As:=by obtain ⟨Hs,h1,h2⟩:=h.ex;exact ⟨h.le,λj=>Hs (j+1),λj B hj=>h1 (j+1) B (by simpa using hj),λj k hj hk hne=>h2 (j+1) (k+1) (by simpa using hj) (by simpa using hk) (by omega)⟩
theorem pin {A:Ψ} (h:St G F (A::As)):∃G',G.le G'/\(∃H,A H/\H.le G')/\St G' F As:=by
 obtain ⟨Hs,h1,h2⟩:=h.ex;obtain ⟨a1,a2,a3⟩:=h1 0 A rfl;have hle:(Hs 0).le (G.and (Hs 0)):=λb o hb=>by
  rcases a2 b with e|e
  ·rw [PH.and_right e];exact hb
  ·rw [e] at hb;cases hb
 refine ⟨G.and (Hs 0),λb o hb=>PH.and_left hb,⟨Hs 0,a1,hle⟩,λb o hb=> ?_,λj=>Hs (j+1),λj B hj=> ?_,λj k hj hk hne=>h2 (j+1) (k+1) (by simpa using hj) (by simpa using hk) (by omega)⟩
 ·cases e:G b with
  |some o'=>rw [PH.and_left e] at hb;rw [<- hb];exact h.le _ _ e
  |none=>rw [PH.and_right e] at hb;exact a3 _ _ hb
 ·obtain ⟨b1,b2,b3⟩:=h1 (j+1) B (by simpa using hj);refine ⟨b1,λb=> ?_,b3⟩;rcases b2 b with e|e
  ·have hl:j+1<(A::As).length:=by have:=(N6.1 hj).1;simpa using this
   rcases h2 0 (j+1) (by simp) hl (by omega) b with e2|e2
   ·exact .inl ((PH.and_right e).trans e2)
   ·exact .inr e2
  ·exact .inr e
theorem pinb {b:Nat} {o:Obj} (h:St G F (pt b o::As)) {K:Ψ} (k:∀G',G.le G'->G' b=Y3 o->St G' F As->K F):K F:=by obtain ⟨G',h1,⟨H,hA,hH⟩,h2⟩:=h.pin;exact k G' h1 (hH _ _ hA) h2
theorem swap {A B:Ψ} (h:St G F (A::B::As)):St G F (B::A::As):=by
 obtain ⟨Hs,h1,h2⟩:=h.ex;refine ⟨h.le,λj=>match j with|0=>Hs 1|1=>Hs 0|j+2=>Hs (j+2),λj C hj=> ?_,λj k hj hk hne=> ?_⟩
 ·match j with
  |0=>exact h1 1 C hj
  |1=>exact h1 0 C hj
  |j+2=>exact h1 (j+2) C hj
 ·match j,k with
  |0,0=>exact absurd rfl hne
  |1,1=>exact absurd rfl hne
  |0,1=>exact h2 1 0 (by simp) (by simp) (by omega)
  |1,0=>exact h2 0 1 (by simp) (by simp) (by omega)
  |0,k+2=>exact h2 1 (k+2) (by simp) hk (by omega)
  |1,k+2=>exact h2 0 (k+2) (by simp) hk (by omega)
  |j+2,0=>exact h2 (j+2) 1 hj (by simp) (by omega)
  |j+2,1=>exact h2 (j+2) 0 hj (by simp) (by omega)
  |j+2,k+2=>exact h2 (j+2) (k+2) hj hk hne
theorem pick (h:St G F As) (f:Nat->Nat) {Bs:List (Ψ)} (hf:∀i j,i<Bs.length->j<Bs.length->f i=f j->i=j) (hb:∀i,i<Bs.length->As[f i]? =Bs[i]?):St G F Bs:=by
 obtain ⟨Hs,h1,h2⟩:=h.ex;have hl:∀i,i<Bs.length->f i<As.length:=λi hi=>by have:=hb i hi;rw [N5 hi] at this;exact (N6.1 this).1
 refine ⟨h.le,λi=>Hs (f i),λi B hi=> ?_,λi j hi hj hne=>h2 _ _ (hl i hi) (hl j hj) λe=>hne (hf i j hi hj e)⟩;have hi':i<Bs.length:=(N6.1 hi).1;exact h1 (f i) B ((hb i hi').trans hi)
theorem call {f:FuncId} {args:Γ} {P:ξ->Ψ} (h:St G F As) (s:ai prog f args G P):ai prog f args F λr F'=>∃G',P r G'/\St G' F' As:=by
 refine (s.upon h.le).mono λr F' ⟨G',hp,hl,hk⟩=>⟨G',hp,hl,?_⟩;obtain ⟨Hs,h1,h2⟩:=h.ex;refine ⟨Hs,λi A hi=> ?_,h2⟩;obtain ⟨a1,a2,a3⟩:=h1 i A hi;have key:∀b o,Hs i b=Y3 o->F' b=Y3 o/\G' b=Y5:=λb o hb=>by
  rcases a2 b with e|e
  ·exact hk b o e (a3 b o hb)
  ·rw [e] at hb;cases hb
 refine ⟨a1,λb=> ?_,λb o hb=>(key b o hb).1⟩;cases e:Hs i b with
 |none=>exact .inr rfl
 |some o=>exact .inl (key b o e).2
theorem run {f:FuncId} {args:Γ} {P:ξ->Ψ} {Q:ξ->Ψ} (h:St G F As) (s:ai prog f args G λr G'=>P r G'/\G.le G') (k:∀r G' F',P r G'->G.le G'->St G' F' As->Q r F'):ai prog f args F Q:=
 (h.call s).mono λr F' ⟨G',⟨h1,h2⟩,h3⟩=>k r G' F' h1 h2 h3
theorem runv {f:FuncId} {args:Γ} {v:ξ} {Q:ξ->Ψ} (h:St G F As) (s:ai prog f args G λr G'=>r=v/\G.le G') (k:∀G' F',G.le G'->St G' F' As->Q v F'):ai prog f args F Q:=
 (h.call s).mono λr F' ⟨G',⟨h1,h2⟩,h3⟩=>by rw [h1];exact k G' F' h2 h3
def uni (G:PH) (Hs:Nat->PH):Nat->PH
 |0=>G
 |n+1=>(uni G Hs n).and (Hs n)
theorem rR {G:PH} {Hs:Nat->PH} {b:Nat}:∀{n:Nat},uni G Hs n b=Y5↔G b=Y5/\∀i,i<n->Hs i b=Y5
 |0=>⟨λh=>⟨h,λi hi=>by omega⟩,λh=>h.1⟩
 |n+1=>by
  have ih:=rR (G:=G) (Hs:=Hs) (b:=b) (n:=n);constructor
  ·intro h;have h0:uni G Hs n b=Y5:=by
    cases e:uni G Hs n b with
    |none=>rfl
    |some o=>rw [uni,PH.and_left e] at h;cases h
   rw [uni,PH.and_right h0] at h;refine ⟨(ih.1 h0).1,λi hi=> ?_⟩;by_cases e:i=n
   ·rw [e];exact h
   ·exact (ih.1 h0).2 i (by omega)
  ·intro h;have h0:=ih.2 ⟨h.1,λi hi=>h.2 i (by omega)⟩;rw [uni,PH.and_right h0];exact h.2 n (by omega)
theorem FV {G K:PH} {Hs:Nat->PH} (hG:G.le K):∀{n:Nat},(∀i,i<n->(Hs i).le K)->(uni G Hs n).le K
 |0,_=>hG
 |n+1,h=>λb o hb=>by
  have ih:=FV hG (n:=n) λi hi=>h i (by omega);cases e:uni G Hs n b with
  |none=>rw [uni,PH.and_right e] at hb;exact h n (by omega) b o hb
  |some o'=>rw [uni,PH.and_left e] at hb;rw [<- hb];exact ih b _ e
theorem FW {G:PH} {Hs:Nat->PH}:∀{n:Nat},G.le (uni G Hs n)
 |0=>am _
 |n+1=>λb o hb=>PH.and_left (FW (n:=n) b o hb)
theorem xV {G:PH} {Hs:Nat->PH}:∀{n:Nat} {i:Nat},i<n->(∀i,i<n->Dj G (Hs i))->(∀i j,i<n->j<n->i≠j->Dj (Hs i) (Hs j))->(Hs i).le (uni G Hs n)
 |0,i,h,_,_=>by omega
 |n+1,i,hi,hd,hp=>λb o hb=>by
  by_cases e:i=n
  ·subst e;have h0:uni G Hs i b=Y5:=by
    refine rR.2 ⟨?_,λj hj=> ?_⟩
    ·rcases hd i (by omega) b with e|e
     ·exact e
     ·rw [e] at hb;cases hb
    ·rcases hp j i (by omega) (by omega) (by omega) b with e|e
     ·exact e
     ·rw [e] at hb;cases hb
   rw [uni,PH.and_right h0];exact hb
  ·exact PH.and_left (xV (n:=n) (i:=i) (by omega) (λj hj=>hd j (by omega)) (λj k hj hk=>hp j k (by omega) (by omega)) b o hb)
theorem callL {f:FuncId} {args:Γ} {Bs Cs:List (Ψ)} {Bs':ξ->PH->List (Ψ)} {P:ξ->Ψ} (h:St G F (Bs++Cs))
  (s:∀F1,St G F1 Bs->ai prog f args F1 λr F'=>∃G',P r G'/\G.le G'/\St G' F' (Bs' r G')):
  ai prog f args F λr F'=>∃G',P r G'/\G.le G'/\St G' F' (Bs' r G'++Cs):=by
 obtain ⟨Hs,h1,h2⟩:=h.ex;have hlen:(Bs++Cs).length=Bs.length+Cs.length:=Xa;have g1:∀i,i<Bs.length+Cs.length->Dj G (Hs i)/\(Hs i).le F:=λi hi=>(h1 i _ (N5 (by omega))).2;rw [hlen] at h2;have hU:(uni G Hs Bs.length).le F:=FV h.le λi hi=>(g1 i (by omega)).2;have hst:St G (uni G Hs Bs.length) Bs:=by refine ⟨FW,Hs,λi A hi=> ?_,λi j hi hj=>h2 i j (by omega) (by omega)⟩;have hi':i<Bs.length:=(N6.1 hi).1;obtain ⟨a1,a2,_⟩:=h1 i A (by rw [Xh hi'];exact hi);exact ⟨a1,a2,xV hi' (λj hj=>(g1 j (by omega)).1) (λj k hj hk=>h2 j k (by omega) (by omega))⟩
 refine ((s _ hst).upon hU).mono ?_;rintro r F' ⟨F1,⟨G',hp,hg,hst'⟩,hl,hk⟩;refine ⟨G',hp,hg,aa hst'.le hl,?_⟩;obtain ⟨Ks,k1,k2⟩:=hst'.ex;have key:∀i,i<Cs.length->∀b o,Hs (Bs.length+i) b=Y3 o->F' b=Y3 o/\F1 b=Y5:=λi hi b o hb=>by
  refine hk b o (rR.2 ⟨?_,λj hj=> ?_⟩) ((g1 (Bs.length+i) (by omega)).2 b o hb)
  ·rcases (g1 (Bs.length+i) (by omega)).1 b with e|e
   ·exact e
   ·rw [e] at hb;cases hb
  ·rcases h2 j (Bs.length+i) (by omega) (by omega) (by omega) b with e|e
   ·exact e
   ·rw [e] at hb;cases hb
 have dj:∀i,i<Cs.length->∀{K:PH},K.le F1->Dj K (Hs (Bs.length+i)):=λi hi {K} hK b=>by
  cases e:Hs (Bs.length+i) b with
  |none=>exact .inr rfl
  |some o=>exact .inl (aS hK (key i hi b o e).2)
 refine ⟨λj=>if j<(Bs' r G').length then Ks j else Hs (Bs.length+(j - (Bs' r G').length)),λj A hj=> ?_,λj k hj hk' hne=> ?_⟩
 ·dsimp only;by_cases e:j<(Bs' r G').length
  ·rw [Χ e];rw [Xh e] at hj;obtain ⟨b1,b2,b3⟩:=k1 j A hj;exact ⟨b1,b2,aa b3 hl⟩
  ·rw [Υ e];rw [Xn (by omega)] at hj;have hjc:j - (Bs' r G').length<Cs.length:=(N6.1 hj).1;refine ⟨(h1 (Bs.length+(j - (Bs' r G').length)) A ?_).1,dj _ hjc hst'.le,λb o hb=>(key _ hjc b o hb).1⟩;rw [Xn (by omega),show Bs.length+(j - (Bs' r G').length) - Bs.length=j - (Bs' r G').length by omega];exact hj
 ·rw [Xa] at hj hk';have hle:∀m,m<(Bs' r G').length->(Ks m).le F1:=λm hm=>(k1 m _ (N5 hm)).2.2;dsimp only;by_cases e:j<(Bs' r G').length
  ·rw [Χ e];by_cases e2:k<(Bs' r G').length
   ·rw [Χ e2];exact k2 j k e e2 hne
   ·rw [Υ e2];exact dj _ (by omega) (hle j e)
  ·rw [Υ e];by_cases e2:k<(Bs' r G').length
   ·rw [Χ e2];exact (dj _ (by omega) (hle k e2)).symm
   ·rw [Υ e2];exact h2 _ _ (by omega) (by omega) (by omega)
theorem new (h:St G F As) {o:Obj} {K:Nat->Ψ} (k:∀b F',St G F' (pt b o::As)->K b F'):∀b,F b=Y5->atF (F.set b o) (K b):=λb hb=>by
 refine atI (k b _ (h.push (H:=PH.set (λ_=>Y5) b o) (al _ _ _) (λx hx=> ?_) (λx p hx=> ?_) (ae o hb)))
 ·by_cases e:x=b
  ·rw [e];exact hb
  ·rw [az _ _ e] at hx;exact absurd rfl hx
 ·by_cases e:x=b
  ·rw [e,al] at hx ⊢;exact hx
  ·rw [az _ _ e] at hx;cases hx
theorem newG (h:St G F As) {o:Obj} {K:Nat->Ψ} (k:∀b G' F',G.le G'->G' b=Y3 o->G b=Y5->St G' F' As->K b F'):∀b,F b=Y5->atF (F.set b o) (K b):=λb hb=>by
 refine h.new (K:=K) (λb' F' h'=> ?_) b hb;have hgb:G b'=Y5:=by
  obtain ⟨H,a1,a2,_⟩:=h'.get (i:=0) rfl;rcases a2 b' with e|e
  ·exact e
  ·rw [a1] at e;cases e
 exact h'.pinb λG' h1 h2 h3=>k b' G' F' h1 h2 hgb h3
theorem ptAt (h:St G F As) {i b:Nat} {o:Obj} (hi:As[i]? =Y3 (pt b o)):F b=Y3 o:=by obtain ⟨H,a1,_,a3⟩:=h.get hi;exact a3 _ _ a1
theorem putAt (h:St G F As) (i:Nat) {b:Nat} {o:Obj} (o':Obj) (hi:As[i]? =Y3 (pt b o)):St G (F.set b o') (As.set i (pt b o')):=by
 obtain ⟨H,a1,a2,a3,a4⟩:=h.set (A':=pt b o') hi;refine a4 (H.set b o') _ (al _ _ _) (λx hx=> ?_) (λx p hx=> ?_) (λx p hx hn=> ?_)
 ·by_cases e:x=b
  ·rw [e,a1];exact .inl (by simp)
  ·rw [az _ _ e] at hx;exact .inl hx
 ·by_cases e:x=b
  ·rw [e,al] at hx ⊢;exact hx
  ·rw [az _ _ e] at hx ⊢;exact a3 _ _ hx
 ·have e:x≠b:=λe=>by rw [e,a1] at hn;cases hn
  rw [az _ _ e];exact hx
theorem ownAt (h:St G F As) {i:Nat} {s:Sl} {e n:Nat} {vs:Ξ} (hi:As[i]? =Y3 (own s e n vs)):bV F e n s vs/\∀a,s.YZ=Y3 a->G a.block=Y5:=by
 obtain ⟨H,a1,a2,a3⟩:=h.get hi;refine ⟨bV.upto a1 a3,λa ha=> ?_⟩;obtain ⟨cur,hc⟩:=bV.elem a1 ha;rcases a2 a.block with e|e
 ·exact e
 ·rw [hc] at e;cases e
theorem nilOwn (h:St G F As) (e n:Nat):St G F (own Zi e n []::As):=h.push (H:=λ_=>Y5) (.inl ⟨rfl,rfl⟩) (λb hb=>absurd rfl hb) (λb o hb=>(by cases hb)) (am F)
end
end St
theorem aA {k n:Nat} (h:k<n) (hn:n<=9223372036854775807:=by omega):i64.wrap ((k:Int)+1)=((k+1:Nat):Int):=by rw [aP (by omega)];omega
theorem bh {F:PH} (L:(Ω)->Ω) (n:Nat) (Inv:Nat->Ψ) (h0:Inv 0 F)
  (step:∀(k:Nat) (F:PH) (N:Ω),k<=n->Inv k F->(∀F',k<n->Inv (k+1) F'->N ((k+1:Nat):Int) F')->L N (k:Int) F):
  ∃(I:Nat->Ω) (m:Nat),I m (0:Int) F/\∀m v F,I m v F->L (λy F=>∃m',m'<m/\I m' y F) v F:=by
 refine ⟨λm i F'=>∃k:Nat,i=k/\k<=n/\m=n - k/\Inv k F',n,⟨0,rfl,by omega,rfl,h0⟩,?_⟩;rintro m i F' ⟨k,rfl,hk,rfl,hi⟩;exact step k F' _ hk hi λF'' hlt hi'=>⟨n - (k+1),by omega,k+1,rfl,by omega,rfl,hi'⟩
namespace St
section
variable {G F:PH} {As:List (Ψ)} {b:Nat} {w:Γ} {e:TypeId}
theorem ld0 (h:St G F (pt b (Y4 w e)::As)) {i:Nat} {v:ξ} (hv:w[i]? =Y3 v):F.cell (Zc b i Y5)=Y3 v:=ld (h.ptAt (i:=0) rfl) hv
theorem whole0 (h:St G F (pt b (Y4 w e)::As)):F.row (Zc b 0 Y5) w:=ac (h.ptAt (i:=0) rfl)
theorem put0 (h:St G F (pt b (Y4 w e)::As)) {n:Nat} {w':Γ} (h1:w'.size=n) (h2:w.size=n) (hst:∀v∈w'.toList,ak v) {K:Ψ} (kk:∀F',St G F' (pt b (Y4 w' e)::As)->K F'):
  au F (Zc b 0 Y5) n w' K:=stW (h.ptAt (i:=0) rfl) h1 h2 hst (kk _ (h.putAt 0 _ rfl))
theorem set0 (h:St G F (pt b (Y4 w e)::As)) {i:Nat} {v:ξ} {w':Γ} (hi:i<w.size) (hw:w.setIfInBounds i v=w') {K:Ψ} (kk:∀F',St G F' (pt b (Y4 w' e)::As)->K F'):
  sto F (Zc b i Y5) v K:=st1 (h.ptAt (i:=0) rfl) hi (by subst hw;exact kk _ (h.putAt 0 _ rfl))
theorem putR0 (h:St G F (pt b (Y4 w e)::As)) {o n:Nat} {v w':Γ} (h1:v.size=n) (hst:∀x∈v.toList,ak x) (hs:o+n<=w.size) (hw:wr w o v.toList=w') {K:Ψ} (kk:∀F',St G F' (pt b (Y4 w' e)::As)->K F'):
  au F (Zc b o Y5) n v K:=⟨h1,hst,w,e,h.ptAt (i:=0) rfl,rfl,hs,atI (by subst hw;exact kk _ (h.putAt 0 _ rfl))⟩
theorem ld1 {p0:Ψ} (h:St G F (p0::pt b (Y4 w e)::As)) {i:Nat} {v:ξ} (hv:w[i]? =Y3 v):F.cell (Zc b i Y5)=Y3 v:=ld (h.ptAt (i:=1) rfl) hv
theorem whole1 {p0:Ψ} (h:St G F (p0::pt b (Y4 w e)::As)):F.row (Zc b 0 Y5) w:=ac (h.ptAt (i:=1) rfl)
theorem put1 {p0:Ψ} (h:St G F (p0::pt b (Y4 w e)::As)) {n:Nat} {w':Γ} (h1:w'.size=n) (h2:w.size=n) (hst:∀v∈w'.toList,ak v) {K:Ψ} (kk:∀F',St G F' (p0::pt b (Y4 w' e)::As)->K F'):
  au F (Zc b 0 Y5) n w' K:=stW (h.ptAt (i:=1) rfl) h1 h2 hst (kk _ (h.putAt 1 _ rfl))
theorem set1 {p0:Ψ} (h:St G F (p0::pt b (Y4 w e)::As)) {i:Nat} {v:ξ} {w':Γ} (hi:i<w.size) (hw:w.setIfInBounds i v=w') {K:Ψ} (kk:∀F',St G F' (p0::pt b (Y4 w' e)::As)->K F'):
  sto F (Zc b i Y5) v K:=st1 (h.ptAt (i:=1) rfl) hi (by subst hw;exact kk _ (h.putAt 1 _ rfl))
theorem putR1 {p0:Ψ} (h:St G F (p0::pt b (Y4 w e)::As)) {o n:Nat} {v w':Γ} (h1:v.size=n) (hst:∀x∈v.toList,ak x) (hs:o+n<=w.size) (hw:wr w o v.toList=w') {K:Ψ} (kk:∀F',St G F' (p0::pt b (Y4 w' e)::As)->K F'):
  au F (Zc b o Y5) n v K:=⟨h1,hst,w,e,h.ptAt (i:=1) rfl,rfl,hs,atI (by subst hw;exact kk _ (h.putAt 1 _ rfl))⟩
theorem front1 {p0:Ψ} {A:Ψ} (h:St G F (p0::A::As)):St G F (A::p0::As):=by
 refine h.pick (λi=>if i=0 then 1 else if i<=1 then i - 1 else i) (λi j _ _ e=> ?_) (λi _=> ?_)
 ·repeat' split at e
  all_goals omega
 ·match i with
  |0=>rfl
  |1=>rfl
  |i+2=>rfl
theorem ld2 {p0 p1:Ψ} (h:St G F (p0::p1::pt b (Y4 w e)::As)) {i:Nat} {v:ξ} (hv:w[i]? =Y3 v):F.cell (Zc b i Y5)=Y3 v:=ld (h.ptAt (i:=2) rfl) hv
theorem whole2 {p0 p1:Ψ} (h:St G F (p0::p1::pt b (Y4 w e)::As)):F.row (Zc b 0 Y5) w:=ac (h.ptAt (i:=2) rfl)
theorem put2 {p0 p1:Ψ} (h:St G F (p0::p1::pt b (Y4 w e)::As)) {n:Nat} {w':Γ} (h1:w'.size=n) (h2:w.size=n) (hst:∀v∈w'.toList,ak v) {K:Ψ} (kk:∀F',St G F' (p0::p1::pt b (Y4 w' e)::As)->K F'):
  au F (Zc b 0 Y5) n w' K:=stW (h.ptAt (i:=2) rfl) h1 h2 hst (kk _ (h.putAt 2 _ rfl))
theorem set2 {p0 p1:Ψ} (h:St G F (p0::p1::pt b (Y4 w e)::As)) {i:Nat} {v:ξ} {w':Γ} (hi:i<w.size) (hw:w.setIfInBounds i v=w') {K:Ψ} (kk:∀F',St G F' (p0::p1::pt b (Y4 w' e)::As)->K F'):
  sto F (Zc b i Y5) v K:=st1 (h.ptAt (i:=2) rfl) hi (by subst hw;exact kk _ (h.putAt 2 _ rfl))
theorem front2 {p0 p1:Ψ} {A:Ψ} (h:St G F (p0::p1::A::As)):St G F (A::p0::p1::As):=by
 refine h.pick (λi=>if i=0 then 2 else if i<=2 then i - 1 else i) (λi j _ _ e=> ?_) (λi _=> ?_)
 ·repeat' split at e
  all_goals omega
 ·match i with
  |0=>rfl
  |1=>rfl
  |2=>rfl
  |i+3=>rfl
theorem back2 {p0 p1:Ψ} {A:Ψ} (h:St G F (A::p0::p1::As)):St G F (p0::p1::A::As):=by
 refine h.pick (λi=>if i=2 then 0 else if i<2 then i+1 else i) (λi j _ _ e=> ?_) (λi _=> ?_)
 ·repeat' split at e
  all_goals omega
 ·match i with
  |0=>rfl
  |1=>rfl
  |2=>rfl
  |i+3=>show (A::p0::p1::As)[if i+3=2 then 0 else if i+3<2 then i+3+1 else i+3]? =_;rw [Υ (by omega),Υ (by omega)];rfl
theorem ld3 {p0 p1 p2:Ψ} (h:St G F (p0::p1::p2::pt b (Y4 w e)::As)) {i:Nat} {v:ξ} (hv:w[i]? =Y3 v):F.cell (Zc b i Y5)=Y3 v:=ld (h.ptAt (i:=3) rfl) hv
theorem front3 {p0 p1 p2:Ψ} {A:Ψ} (h:St G F (p0::p1::p2::A::As)):St G F (A::p0::p1::p2::As):=by
 refine h.pick (λi=>if i=0 then 3 else if i<=3 then i - 1 else i) (λi j _ _ e=> ?_) (λi _=> ?_)
 ·repeat' split at e
  all_goals omega
 ·match i with
  |0=>rfl
  |1=>rfl
  |2=>rfl
  |3=>rfl
  |i+4=>rfl
theorem back3 {p0 p1 p2:Ψ} {A:Ψ} (h:St G F (A::p0::p1::p2::As)):St G F (p0::p1::p2::A::As):=by
 refine h.pick (λi=>if i=3 then 0 else if i<3 then i+1 else i) (λi j _ _ e=> ?_) (λi _=> ?_)
 ·repeat' split at e
  all_goals omega
 ·match i with
  |0=>rfl
  |1=>rfl
  |2=>rfl
  |3=>rfl
  |i+4=>show (A::p0::p1::p2::As)[if i+4=3 then 0 else if i+4<3 then i+4+1 else i+4]? =_;rw [Υ (by omega),Υ (by omega)];rfl
theorem ld4 {p0 p1 p2 p3:Ψ} (h:St G F (p0::p1::p2::p3::pt b (Y4 w e)::As)) {i:Nat} {v:ξ} (hv:w[i]? =Y3 v):F.cell (Zc b i Y5)=Y3 v:=ld (h.ptAt (i:=4) rfl) hv
theorem whole4 {p0 p1 p2 p3:Ψ} (h:St G F (p0::p1::p2::p3::pt b (Y4 w e)::As)):F.row (Zc b 0 Y5) w:=ac (h.ptAt (i:=4) rfl)
theorem put4 {p0 p1 p2 p3:Ψ} (h:St G F (p0::p1::p2::p3::pt b (Y4 w e)::As)) {n:Nat} {w':Γ} (h1:w'.size=n) (h2:w.size=n) (hst:∀v∈w'.toList,ak v) {K:Ψ} (kk:∀F',St G F' (p0::p1::p2::p3::pt b (Y4 w' e)::As)->K F'):
  au F (Zc b 0 Y5) n w' K:=stW (h.ptAt (i:=4) rfl) h1 h2 hst (kk _ (h.putAt 4 _ rfl))
theorem front4 {p0 p1 p2 p3:Ψ} {A:Ψ} (h:St G F (p0::p1::p2::p3::A::As)):St G F (A::p0::p1::p2::p3::As):=by
 refine h.pick (λi=>if i=0 then 4 else if i<=4 then i - 1 else i) (λi j _ _ e=> ?_) (λi _=> ?_)
 ·repeat' split at e
  all_goals omega
 ·match i with
  |0=>rfl
  |1=>rfl
  |2=>rfl
  |3=>rfl
  |4=>rfl
  |i+5=>rfl
theorem back4 {p0 p1 p2 p3:Ψ} {A:Ψ} (h:St G F (A::p0::p1::p2::p3::As)):St G F (p0::p1::p2::p3::A::As):=by
 refine h.pick (λi=>if i=4 then 0 else if i<4 then i+1 else i) (λi j _ _ e=> ?_) (λi _=> ?_)
 ·repeat' split at e
  all_goals omega
 ·match i with
  |0=>rfl
  |1=>rfl
  |2=>rfl
  |3=>rfl
  |4=>rfl
  |i+5=>show (A::p0::p1::p2::p3::As)[if i+5=4 then 0 else if i+5<4 then i+5+1 else i+5]? =_;rw [Υ (by omega),Υ (by omega)];rfl
end
end St
variable {R:VR} {F:PH}
set_option maxHeartbeats 4000000
def FX (R:VR) (F:PH):Prop:=R (vi 0) F
def zX (j:Ω) (k i:Nat) (R:VR) (a:Int) (F:PH):Prop:=Bc (a<((Sb i 6).len:Int)) (Ix (Sb i 6) a λf=>∃c:ξ,F.cell (Zb f (Zd a*1))=Y3 c/\Lr F 9 (Am k 0) λg=>Fn c λh d e=>ai prog h (d++([(Y9 g)]).toArray++e) F λv F=>∃b,v=(vi b)/\Bc (b≠0) (R (vi b) F) (j (i64.wrap (a+1)) F)) (FX R F)
def R3 (b:Γ) (R:VR) (F:PH):Prop:=Nb F (Y4 b 37) λe F=>Lr F 9 (Am e 0) λc=>Cbo 88 #[Y9 c] F λd F=>Bb (d) (R (vi 2) F) (Nb F (Y4 #[.func (.func 89) #[] #[],.func (.func 90) #[] #[],.func (.func 91) #[] #[],.func (.func 92) #[] #[],.func (.func 93) #[] #[],.func (.func 94) #[] #[]] 44) λf F=>Lp 0 F λN a F=>zX N e f R a F)
theorem V6 {a:Γ} (h:R3 a R F):ν 36 #[Y9 a] F R:=Rx.Λ (.Y2 (.Y2 (.Y2 (.J Y6 [] (.Y2 (.L [(12,.int .i64)] .N)) .N)))) h
def R7 (h:Γ) (R:VR) (F:PH):Prop:=Nb F (Y4 h 37) λa F=>Ls F (Am a 0) λi=>Bc ((64:Int)<(i.len:Int)) (R (Za Y8) F) (Ls F (Am a 3) λj=>Bc ((256:Int)<(j.len:Int)) (R (Za Y8) F) (Ls F (Am a 8) λb=>Bc ((4096:Int)<(b.len:Int)) (R (Za Y8) F) (Ls F (Am a 4) λc=>Ls F (Am a 5) λd=>Ls F (Am a 7) λe=>Bc ((2000:Int)<(max (max (c.len:Int) (d.len:Int)) (e.len:Int))) (R (Za Y8) F) (Ls F (Am a 5) λf=>Cbo 139 #[Y7 f,.func (.func 140) #[] #[]] F λg F=>R (Za g) F))))
theorem V7 {a:Γ} (h:R7 a R F):ν 88 #[Y9 a] F R:=Rx.Λ .N h
def FY (e:Nat) (R:VR) (F:PH):Prop:=Lr F 2 (Am e 1) λa=>Ls F (Am e 0) λb=>Cbo 143 #[Y9 a,(vi (b.len:Int))] F λc F=>Bb ((!c)) (R (vi 54) F) (Li F (Am e 2) λd=>Bc (d=0) (R (vi 54) F) (R (vi 0) F))
def zY (k:Ω) (l:Nat) (i:ξ) (f:Sl) (R:VR) (a:Int) (F:PH):Prop:=Bc (a<(f.len:Int)) (Ix f a λg=>Lx F (Zb g (Zd a*1)) λb=>Cbo 142 #[Zg b] F λh F=>Bb ((!h)) (R (vi 54) F) (Bb ((b.toList==(ByteArray.mk #[116,114,117,101]).toList)) (R (vi 54) F) (Bb ((b.toList==(ByteArray.mk #[102,97,108,115,101]).toList)) (R (vi 54) F) (Fn i λj d e=>ai prog j (d++([(Zg b)]).toArray++e) F λv F=>∃c,v=(Za c)/\Bb ((!c)) (R (vi 54) F) (k (i64.wrap (a+1)) F))))) (FY l R F)
def R8 (c:Γ) (R:VR) (F:PH):Prop:=Nb F (Y4 c 37) λe F=>ν 141 #[] F λv F=>∃a:ξ,v=a/\Ls F (Am e 0) λd=>Lp 0 F λN b F=>zY N e a d R b F
theorem V8 {a:Γ} (h:R8 a R F):ν 89 #[Y9 a] F R:=Rx.Λ (.Y2 (.Y2 (.J Y6 [] (.Y2 (.L [(10,.int .i64)] .N)) .N))) h
def FZ (R:VR) (F:PH):Prop:=R (vi 0) F
def jw (c:Ω) (_:Nat) (_:ξ) (_:Sl) (b:Int) (a:Bool) (R:VR) (F:PH):Prop:=Bb ((!a)) (R (vi 51) F) (c (i64.wrap (b+1)) F)
def zZ (j:Ω) (g:Nat) (c:ξ) (b:Sl) (R:VR) (a:Int) (F:PH):Prop:=Bc (a<(b.len:Int)) (Ix b a λk=>Lr F 7 (Zb k (Zd a*7)) λl=>Nb F (Y4 zT 146) λd F=>au F (Am d 0) 7 l λF=>Lx F (Am d 0) λm=>Fn c λB h i=>ai prog B (h++([(Zg m)]).toArray++i) F λv F=>∃f,v=(Za f)/\Bb ((!f)) (R (vi 51) F) (Li F (Am d 1) λn=>Bc (n<0) (R (vi 51) F) (Li F (Am d 1) λo=>Bc (2<o) (R (vi 51) F) (Lr F 2 (Am d 5) λp=>Ls F (Am g 0) λq=>Cbo 143 #[Y9 p,(vi (q.len:Int))] F λr F=>Bb ((!r)) (R (vi 51) F) (Lx F (Am d 4) λe=>Lx F (Am d 2) λs=>Bb ((!(s.toList==(ByteArray.mk #[]).toList))) (Bb ((e.toList==(ByteArray.mk #[]).toList)) (Ls F (Am d 3) λt=>jw j g c b a (decide ((t.len:Int)=0)) R F) (jw j g c b a Y6 R F)) (Ls F (Am d 3) λu=>Ci 144 #[Y7 u] F λw F=>Bc (w≠0) (jw j g c b a Y6 R F) (Li F (Am d 1) λx=>Bc (x=0) (Bb ((!(e.toList==(ByteArray.mk #[]).toList))) (Ls F (Am d 3) λy=>Lx F (Am d 4) λz=>Cbo 145 #[Y7 y,Zg z] F λA F=>jw j g c b a A R F) (jw j g c b a Y6 R F)) (jw j g c b a (e.toList==(ByteArray.mk #[]).toList) R F)))))))) (FZ R F)
def R9 (c:Γ) (R:VR) (F:PH):Prop:=Nb F (Y4 c 37) λe F=>ν 141 #[] F λv F=>∃a:ξ,v=a/\Ls F (Am e 3) λd=>Lp 0 F λN b F=>zZ N e a d R b F
theorem V9 {a:Γ} (h:R9 a R F):ν 90 #[Y9 a] F R:=Rx.Λ (.Y2 (.Y2 (.J Y6 [] (.Y2 (.L [(11,.int .i64)] (.Y2 (.Y2 (.T (.Y2 (.Y2 (.Y2 (.J Y6 [(6,.bool)] .N .N)))) .N))))) .N))) h
def Ga (d:Nat) (R:VR) (F:PH):Prop:=Li F (Am d 6) λa=>Bc (a<0) (R (vi 50) F) (Li F (Am d 6) λb=>Ls F (Am d 4) λc=>Bc ((c.len:Int)<=b) (R (vi 50) F) (R (vi 0) F))
def z6 (j:Ω) (k:Nat) (h:ξ) (e:Sl) (R:VR) (a:Int) (F:PH):Prop:=Bc (a<(e.len:Int)) (Ix e a λf=>Lx F (Zb f (Zd a*1)) λg=>Fn h λi c d=>ai prog i (c++([(Zg g)]).toArray++d) F λv F=>∃b,v=(Za b)/\Bb ((!b)) (R (vi 50) F) (j (i64.wrap (a+1)) F)) (Ga k R F)
def Sa (c:Γ) (R:VR) (F:PH):Prop:=Nb F (Y4 c 37) λe F=>ν 141 #[] F λv F=>∃a:ξ,v=a/\Ls F (Am e 4) λd=>Lp 0 F λN b F=>z6 N e a d R b F
theorem Wa {a:Γ} (h:Sa a R F):ν 91 #[Y9 a] F R:=Rx.Λ (.Y2 (.Y2 (.J Y6 [] (.Y2 (.L [(10,.int .i64)] .N)) .N))) h
def Gb (R:VR) (F:PH):Prop:=R (vi 0) F
def z7 (y:Ω) (u:Nat) (w:ξ) (f:Sl) (R:VR) (a:Int) (F:PH):Prop:=Bc (a<(f.len:Int)) (Ix f a λg=>Lr F 13 (Zb g (Zd a*13)) λh=>Nb F (Y4 zP 55) λb F=>au F (Am b 0) 13 h λF=>Li F (Am b 1) λi=>Cbo 146 #[Y9 (#[Za Y6,(vi i)]:Γ),(Pp u)] F λj F=>Bb (j) (R (vi 50) F) (Ls F (Am b 2) λk=>Cbo 148 #[Y7 k,.func (.func 146) #[] #[(Pp u)]] F λl F=>Bb (l) (R (vi 50) F) (Lx F (Am b 0) λm=>Fn w λx d e=>ai prog x (d++([(Zg m)]).toArray++e) F λv F=>∃c,v=(Za c)/\Bb ((!c)) (R (vi 52) F) (Lr F 2 (Am b 3) λn=>Ls F (Am u 0) λo=>Cbo 143 #[Y9 n,(vi (o.len:Int))] F λp F=>Bb ((!p)) (R (vi 52) F) (Li F (Am b 6) λq=>Bc (q<(-1:Int)) (R (vi 52) F) (Li F (Am b 6) λr=>Bc (1<r) (R (vi 52) F) (Lr F 13 (Am b 0) λs=>Cbo 149 #[Y9 s] F λt F=>Bb ((!t)) (R (vi 52) F) (y (i64.wrap (a+1)) F)))))))) (Gb R F)
def Sc (c:Γ) (R:VR) (F:PH):Prop:=Nb F (Y4 c 37) λe F=>ν 141 #[] F λv F=>∃a:ξ,v=a/\Ls F (Am e 5) λd=>Lp 0 F λN b F=>z7 N e a d R b F
theorem Wb {a:Γ} (h:Sc a R F):ν 92 #[Y9 a] F R:=Rx.Λ (.Y2 (.Y2 (.J Y6 [] (.Y2 (.L [(11,.int .i64)] .N)) .N))) h
def Gc (R:VR) (F:PH):Prop:=R (vi 0) F
def Ge (c:Ω) (_ _:Nat) (_:Sl) (a:Int) (_:VR) (F:PH):Prop:=c (i64.wrap (a+1)) F
def z8 (k l:Ω) (j i:Nat) (e:Sl) (f:Int) (c:Sl) (R:VR) (a:Int) (F:PH):Prop:=Bc (a<(c.len:Int)) (Ix c a λg=>Li F (Zb g (Zd a*1)) λb=>Bc (b<0) (R (vi 53) F) (Ls F (Am j 5) λh=>Bc ((h.len:Int)<=b) (R (vi 53) F) (∃d,rdo prog (Instr.lookup 186 (.map (Y3 i)) (vi b) Y6) F (Za d)/\Bb (d) (R (vi 53) F) (aF prog (Instr.mapUpdate 186 (.map (Y3 i)) (vi b) (Za Y8)) F λ_ F=>l (i64.wrap (a+1)) F)))) (Ge k j i e f R F)
def z9 (p:Ω) (o q:Nat) (b:Sl) (R:VR) (a:Int) (F:PH):Prop:=Bc (a<(b.len:Int)) (Ix b a λd=>Lr F 4 (Zb d (Zd a*4)) λe=>Nb F (Y4 zL 69) λf F=>au F (Am f 0) 4 e λF=>Li F (Am f 1) λg=>Bc (g<0) (R (vi 53) F) (Li F (Am f 1) λh=>Bc (3<h) (R (vi 53) F) (Lr F 2 (Am f 2) λi=>Ls F (Am o 0) λj=>Cbo 143 #[Y9 i,(vi (j.len:Int))] F λk F=>Bb ((!k)) (R (vi 53) F) (Ls F (Am f 0) λl=>(∃(n:Nat->Ω) (m:Nat),n m 0 F/\∀m c F,n m c F-> z8 p (nx1 n m) o q b a l R c F))))) (Gc R F)
def Sd (c:Γ) (R:VR) (F:PH):Prop:=Nb F (Y4 c 37) λd F=>Nb F (.map #[] 0) λe F=>Ls F (Am d 7) λa=>Lp 0 F λN b F=>z9 N d e a R b F
theorem Wc {a:Γ} (h:Sd a R F):ν 93 #[Y9 a] F R:=Rx.Λ (.Y2 (.Y2 (.J Y6 [] (.Y2 (.L [(12,.int .i64)] (.Y2 (.Y2 (.J Y6 [] (.Y2 (.Y2 (.Y2 (.L [(36,.int .i64)] .N)))) .N))))) .N))) h
def Gf (R:VR) (F:PH):Prop:=R (vi 0) F
def fG (k:Ω) (_ h:Nat) (_:Sl) (i:Int) (a:Bool) (R:VR) (F:PH):Prop:=Bb ((!a)) (R (vi 53) F) (Li F (Am h 1) λb=>Bc (b≠0) (R (vi 53) F) (Li F (Am h 2) λc=>Bc (c≠0) (R (vi 53) F) (Li F (Am h 3) λd=>Bc (d≠0) (R (vi 53) F) (Li F (Am h 4) λe=>Bc (e≠0) (R (vi 53) F) (Li F (Am h 5) λf=>Bc (f≠0) (R (vi 53) F) (Ls F (Am h 6) λg=>Bc ((0:Int)<(g.len:Int)) (R (vi 53) F) (k (i64.wrap (i+1)) F)))))))
def kO (o:Ω) (k q p:Nat) (b:Sl) (c:Int) (a:Bool) (R:VR) (F:PH):Prop:=Bb (a) (Ls F (Am k 3) λl=>Li F (Am q 5) λe=>Ix l e λm=>Lr F 7 (Zb m (Zd e*7)) λn=>Cbo 150 #[Y9 n] F λf F=>Bb (f) (Ls F (Am k 3) λg=>Li F (Am q 5) λd=>Ix g d λh=>Lr F 7 (Zb h (Zd d*7)) λi=>Cbo 151 #[Y9 i] F λj F=>fG o k p b c (!j) R F) (fG o k p b c Y6 R F)) (fG o k p b c Y6 R F)
def wh (f:Ω) (c e:Nat) (g:Bool) (d:Nat) (a:Sl) (b h:Int) (i:Bool) (R:VR) (F:PH):Prop:=Bb (i) (sto F (Am d 4) (vi 0) λF=>sto F (Am d 6) (Y7 Zi) λF=>Bb (g) (Li F (Am e 4) λj=>Bc (0<=j) (Li F (Am e 4) λk=>Ls F (Am c 4) λl=>Bc (k<(l.len:Int)) (Lr F 9 (Am c 0) λm=>Ls F (Am e 6) λn=>Cbo 153 #[Y9 m,Y7 n,.func (.func 150) #[] #[]] F λo F=>fG f c d a b o R F) (fG f c d a b Y6 R F)) (fG f c d a b Y6 R F)) (fG f c d a b Y6 R F)) (Bc (h=5) (sto F (Am d 5) (vi 0) λF=>sto F (Am d 6) (Y7 Zi) λF=>Bb (g) (Lr F 9 (Am c 0) λp=>Ls F (Am e 6) λq=>Cbo 153 #[Y9 p,Y7 q,.func (.func 151) #[] #[]] F λr F=>Bb (r) (Li F (Am e 5) λs=>Bc (0<=s) (Li F (Am e 5) λt=>Ls F (Am c 3) λu=>kO f c e d a b (decide (t<(u.len:Int))) R F) (kO f c e d a b Y6 R F)) (kO f c e d a b Y6 R F)) (kO f c e d a b Y6 R F)) (fG f c d a b Y6 R F))
def wi (k:Ω) (f l:Nat) (d:Bool) (e:Nat) (b:Sl) (c a:Int) (g:Bool) (R:VR) (F:PH):Prop:=Bb (g) (sto F (Am e 1) (vi 0) λF=>sto F (Am e 2) (vi 0) λF=>sto F (Am e 3) (vi 0) λF=>Bb (d) (Lr F 9 (Am f 0) λh=>Lr F 9 (Am l 0) λi=>Cbo 152 #[Y9 h,Y9 i] F λj F=>fG k f e b c j R F) (fG k f e b c Y6 R F)) (Bc (a=3) (wh k f l d e b c a (decide (a=3)) R F) (wh k f l d e b c a (decide (a=4)) R F))
def Aa (m:Ω) (l:Nat) (c:Sl) (R:VR) (a:Int) (F:PH):Prop:=Bc (a<(c.len:Int)) (Ix c a λf=>Lr F 9 (Zb f (Zd a*9)) λg=>Nb F (Y4 zF 156) λe F=>au F (Am e 0) 9 g λF=>Lr F 2 (Am e 7) λh=>Ls F (Am l 0) λi=>Cbo 143 #[Y9 h,(vi (i.len:Int))] F λd F=>Lr F 9 (Am e 0) λj=>Nb F (Y4 zF 156) λk F=>au F (Am k 0) 9 j λF=>sto F (Am k 0) (vi 0) λF=>au F (Am k 7) 2 zD λF=>Li F (Am e 0) λb=>Bc (b=1) (wi m l e d k c a b (decide (b=1)) R F) (wi m l e d k c a b (decide (b=2)) R F)) (Gf R F)
def Se (c:Γ) (R:VR) (F:PH):Prop:=Nb F (Y4 c 37) λd F=>Ls F (Am d 8) λa=>Lp 0 F λN b F=>Aa N d a R b F
theorem Wd {a:Γ} (h:Se a R F):ν 94 #[Y9 a] F R:=Rx.Λ (.Y2 (.Y2 (.Y2 (.J Y6 [] (.Y2 (.L [(12,.int .i64)] (.Y2 (.Y2 (.T (.Y2 (.Y2 (.Y2 (.Y2 (.J Y6 [(7,.bool)] (.Y2 (.J Y6 [(28,.bool)] .N (.Y2 (.J Y6 [(40,.bool)] .N (.Y2 (.Y2 (.T (.Y2 (.J Y6 [(7,.bool)] .N .N)) .N))))))) .N))))) .N))))) .N)))) h
def Mz (a:Γ) (R:VR) (F:PH):Prop:=Nb F (Y4 a 55) λd F=>Ls F (Am d 2) λb=>Ls F (Am d 7) λc=>R (Za (decide ((16:Int)<(max (b.len:Int) (c.len:Int))))) F
theorem Sf {a:Γ} (h:Mz a R F):ν 140 #[Y9 a] F R:=Rx.Λ .N h
def MA (R:VR) (F:PH):Prop:=Nb F (.map #[] 0) λa F=>aF prog (Instr.mapUpdate 222 (.map (Y3 a)) (Zg ⟨#[]⟩) (Za Y8)) F λ_ F=>Nb F (Y4 (#[.map Y5]) 222) λb F=>sto F (Am b 0) (.map (Y3 a)) λF=>R (.func (.func 179) #[] #[(Pp b)]) F
theorem Sh (h:MA R F):ν 141 #[] F R:=Rx.Λ .N h
def Cg (a:ο) (R:VR) (F:PH):Prop:=R (Za (!(a.toList==(ByteArray.mk #[]).toList))) F
def pJ (b:Ω) (_:ο) (a:Int) (_:VR) (F:PH):Prop:=b (i64.wrap (a+1)) F
def fV (e:Ω) (d:ο) (c b:Int) (a:Bool) (R:VR) (F:PH):Prop:=Bb ((!a)) (Bc (c=0) (R (Za Y6) F) (Bc (b<48) (R (Za Y6) F) (Bc (57<b) (R (Za Y6) F) (pJ e d c R F)))) (pJ e d c R F)
def wj (d:Ω) (b:ο) (R:VR) (c:Int) (F:PH):Prop:=Bc (c<(b.size:Int)) (0<=c/\c<(b.size:Int)/\∃(hx:Zd c<b.size) (a:Int),a=((b[Zd c]'hx).toNat:Int)/\Bc (97<=a) (Bc (a<=(122:Int)) (fV d b c a Y8 R F) (Bc (65<=a) (Bc (a<=(90:Int)) (fV d b c a Y8 R F) (fV d b c a (decide (a=95)) R F)) (fV d b c a (decide (a=95)) R F))) (Bc (65<=a) (Bc (a<=(90:Int)) (fV d b c a Y8 R F) (fV d b c a (decide (a=95)) R F)) (fV d b c a (decide (a=95)) R F))) (Cg b R F)
def MB (a:ο) (R:VR) (F:PH):Prop:=Lp 0 F λN b F=>wj N a R b F
theorem Si {a:ο} (h:MB a R F):ν 142 #[Zg a] F R:=Rx.Λ (.Y2 (.J Y6 [] (.Y2 (.L [(8,.int .i64)] (.Y2 (.Y2 (.J Y6 [] (.Y2 (.Y2 (.J Y6 [(5,.bool)] .N .N))) .N))))) .N)) h
def MC (b:Γ) (c:Int) (R:VR) (F:PH):Prop:=Nb F (Y4 b 31) λg F=>Nb F (Y4 #[(vi c)] 3) λh F=>Lr F 2 (Am g 0) λd=>Ci 100 #[Y9 d] F λe F=>Bc (e≠0) (R (Za Y6) F) (Ls F (Am g 0) λf=>Cbo 180 #[Y7 f,.func (.func 181) #[] #[(Pp h)]] F λa F=>R (Za (!a)) F)
theorem Sj {a:Γ} {b:Int} (h:MC a b R F):ν 143 #[Y9 a,(vi b)] F R:=Rx.Λ .N h
def MD (b:Γ) (c:Θ) (R:VR) (F:PH):Prop:=Nb F (Y4 b 63) λg F=>∃a,c=Y3 a/\Lr F 9 a λd=>Lr F 2 (Am g 0) λe=>Cbo 147 #[Y9 d,Y9 e] F λf F=>R (Za (!f)) F
theorem Sk {a:Γ} {b:Θ} (h:MD a b R F):ν 146 #[Y9 a,Ze b] F R:=Rx.Λ .N h
def ME (k l:Γ) (R:VR) (F:PH):Prop:=Nb F (Y4 k 37) λm F=>Nb F (Y4 l 63) λb F=>Lb F (Am b 0) λn=>Bb ((!n)) (Li F (Am b 1) λo=>Bc (0<=o) (Li F (Am b 1) λc=>Ls F (Am m 4) λd=>R (Za (decide (c<(d.len:Int)))) F) (R (Za Y6) F)) (Li F (Am b 1) λe=>Bc (0<=e) (Li F (Am b 1) λf=>Ls F (Am m 3) λg=>Bc (f<(g.len:Int)) (Ls F (Am m 3) λh=>Li F (Am b 1) λa=>Ix h a λi=>Li F (Zb (Zb i (Zd a*7)) 1) λj=>R (Za (decide (j=0))) F) (R (Za Y6) F)) (R (Za Y6) F))
theorem Sn {a:Γ} {b:Γ} (h:ME a b R F):ν 147 #[Y9 a,Y9 b] F R:=Rx.Λ .N h
def Ch (a:Nat) (R:VR) (F:PH):Prop:=Lr F 5 (Am a 8) λj=>Nb F (Y4 (#[Za Y6,vi 0,vi 0,vi 0,vi 0]) 53) λi F=>au F (Am i 0) 5 j λF=>Li F (Am i 1) λk=>Li F (Am i 2) λl=>Cbo 189 #[(vi k),(vi l),(vi 1),(vi 7),(Pp a)] F λm F=>Bb ((!m)) (R (Za Y6) F) (Li F (Am i 3) λn=>Li F (Am i 4) λo=>Cbo 189 #[(vi n),(vi o),(vi 0),(vi 255),(Pp a)] F λp F=>Bb ((!p)) (R (Za Y6) F) (Lb F (Am a 5) λq=>Bb ((!q)) (R (Za Y8) F) (Ls F (Am a 2) λr=>Bc ((r.len:Int)≠3) (R (Za Y6) F) (Li F (Am a 6) λs=>Bc (s≠0) (R (Za Y6) F) (Ls F (Am a 7) λt=>Bc ((0:Int)<(t.len:Int)) (R (Za Y6) F) (Lr F 5 (Am i 0) λu=>∃c,(∀F,rdo prog (Op.equal 53 (Y9 u) (Y9 (#[Za Y6,vi 0,vi 0,vi 0,vi 0]:Γ))) F c)/\Bb ((!c)) (R (Za Y6) F) (Ls F (Am a 2) λv=>Ix v 0 λw=>Lb F (Zb w (Zd 0*2)) λx=>Bb (x) (Ls F (Am a 2) λy=>Ix y 1 λz=>Lr F 2 (Zb z (Zd 1*2)) λd=>Li F (Am a 1) λe=>∃b,(∀F,rdo prog (Op.equal 63 (Y9 d) (Y9 (#[Za Y6,(vi e)]:Γ))) F b)/\Bb (b) (Ls F (Am a 2) λf=>Ix f 2 λg=>Lb F (Zb g (Zd 2*2)) λh=>R (Za h) F) (R (Za Y6) F)) (R (Za Y6) F))))))))
def pK (b:Ω) (_:Nat) (_:Sl) (a:Int) (_:VR) (F:PH):Prop:=b (i64.wrap (a+1)) F
def wl (o:Ω) (d:Nat) (b:Sl) (R:VR) (a:Int) (F:PH):Prop:=Bc (a<(b.len:Int)) (Ix b a λe=>Lr F 3 (Zb e (Zd a*3)) λf=>Nb F (Y4 (#[vi 0,vi 0,vi 0]) 153) λc F=>au F (Am c 0) 3 f λF=>Li F (Am c 0) λg=>Bc (g<1) (R (Za Y6) F) (Li F (Am c 0) λh=>Bc (4<h) (R (Za Y6) F) (Li F (Am c 1) λi=>Cbo 188 #[(vi i),(Pp d)] F λj F=>Bb ((!j)) (R (Za Y6) F) (Li F (Am c 2) λk=>Cbo 188 #[(vi k),(Pp d)] F λl F=>Bb ((!l)) (R (Za Y6) F) (Li F (Am c 0) λm=>Bc (m=1) (Li F (Am c 2) λn=>Bc (n≠0) (R (Za Y6) F) (pK o d b a R F)) (pK o d b a R F)))))) (Ch d R F)
def MF (b:Γ) (R:VR) (F:PH):Prop:=Nb F (Y4 b 55) λd F=>Ls F (Am d 7) λc=>Lp 0 F λN a F=>wl N d c R a F
theorem So {a:Γ} (h:MF a R F):ν 149 #[Y9 a] F R:=Rx.Λ (.Y2 (.J Y6 [] (.Y2 (.L [(11,.int .i64)] (.Y2 (.Y2 (.J Y6 [] .N .N))))) .N)) h
def MH (a:Γ) (R:VR) (F:PH):Prop:=Nb F (Y4 a 146) λc F=>Li F (Am c 1) λb=>R (Za (decide (b=0))) F
theorem Sq {a:Γ} (h:MH a R F):ν 150 #[Y9 a] F R:=Rx.Λ .N h
def MI (a:Γ) (R:VR) (F:PH):Prop:=Nb F (Y4 a 146) λc F=>Lx F (Am c 2) λb=>R (Za (!(b.toList==(ByteArray.mk #[]).toList))) F
theorem Sr {a:Γ} (h:MI a R F):ν 151 #[Y9 a] F R:=Rx.Λ .N h
def MJ (v w:Γ) (R:VR) (F:PH):Prop:=Nb F (Y4 v 37) λu F=>Nb F (Y4 w 156) λa F=>Li F (Am a 1) λx=>Bc (x<0) (R (Za Y6) F) (Li F (Am a 1) λg=>Ls F (Am u 5) λh=>Bc ((h.len:Int)<=g) (R (Za Y6) F) (Li F (Am a 3) λi=>Bc (i<0) (R (Za Y6) F) (Li F (Am a 3) λj=>Ls F (Am u 5) λk=>Bc ((k.len:Int)<=j) (R (Za Y6) F) (Ls F (Am u 5) λl=>Li F (Am a 1) λb=>Ix l b λm=>Ls F (Zb (Zb m (Zd b*13)) 2) λc=>Li F (Am a 2) λn=>Bc (0<=n) (Li F (Am a 2) λo=>Bc (o<(c.len:Int)) (Li F (Am a 2) λd=>Ix c d λp=>Lr F 2 (Zb p (Zd d*2)) λq=>Ls F (Am u 5) λr=>Li F (Am a 3) λe=>Ix r e λs=>Li F (Zb (Zb s (Zd e*13)) 1) λt=>∃f,(∀F,rdo prog (Op.equal 63 (Y9 q) (Y9 (#[Za Y6,(vi t)]:Γ))) F f)/\R (Za f) F) (R (Za Y6) F)) (R (Za Y6) F)))))
theorem Ss {a:Γ} {b:Γ} (h:MJ a b R F):ν 152 #[Y9 a,Y9 b] F R:=Rx.Λ .N h
def Cj (a:Sl) (R:VR) (F:PH):Prop:=R (Za (decide ((0:Int)<(a.len:Int)))) F
def pL (c:Ω) (_:Sl) (_:ξ) (_:Nat) (a:Int) (_:VR) (F:PH):Prop:=c (i64.wrap (a+1)) F
def wm (u:Ω) (g:Sl) (b:ξ) (n:Nat) (R:VR) (a:Int) (F:PH):Prop:=Bc (a<(g.len:Int)) (Ix g a λo=>Li F (Zb o (Zd a*1)) λc=>Bc (c<0) (R (Za Y6) F) (Ls F (Am n 3) λp=>Bc ((p.len:Int)<=c) (R (Za Y6) F) (Bc (0<a) (Ix g (i64.wrap (a - 1)) λq=>∃k,F.cell (Zb q (Zd (i64.wrap (a - 1))*1))=Y3 (vi k)/\Bc (c<=k) (R (Za Y6) F) (Ls F (Am n 3) λr=>Ix r c λs=>Lr F 7 (Zb s (Zd c*7)) λt=>Fn b λm d e=>ai prog m (d++([(Y9 t)]).toArray++e) F λv F=>∃l,v=(Za l)/\Bb ((!l)) (R (Za Y6) F) (pL u g b n a R F))) (Ls F (Am n 3) λh=>Ix h c λi=>Lr F 7 (Zb i (Zd c*7)) λj=>Fn b λm d e=>ai prog m (d++([(Y9 j)]).toArray++e) F λv F=>∃f,v=(Za f)/\Bb ((!f)) (R (Za Y6) F) (pL u g b n a R F))))) (Cj g R F)
def MK (c:Γ) (d:Sl) (a:ξ) (R:VR) (F:PH):Prop:=Nb F (Y4 c 37) λe F=>Lp 0 F λN b F=>wm N d a e R b F
theorem Su {b:Γ} {c:Sl} {a:ξ} (h:MK b c a R F):ν 153 #[Y9 b,Y7 c,a] F R:=Rx.Λ (.Y2 (.J Y6 [] (.Y2 (.L [(11,.int .i64)] (.Y2 (.Y2 (.J Y6 [] .N .N))))) .N)) h
def ML (b:ο) (f:Θ) (R:VR) (F:PH):Prop:=∃a,f=Y3 a/\∃c:Option Nat,F.cell a=Y3 (.map c)/\∃d,rdo prog (Instr.lookup 222 (.map c) (Zg b) Y6) F (Za d)/\Bb (d) (R (Za Y6) F) (∃e:Option Nat,F.cell a=Y3 (.map e)/\aF prog (Instr.mapUpdate 222 (.map e) (Zg b) (Za Y8)) F λ_ F=>R (Za Y8) F)
theorem Sv {a:ο} {b:Θ} (h:ML a b R F):ν 179 #[Zg a,Ze b] F R:=Rx.Λ .N h
def MM (b:Γ) (c:Θ) (R:VR) (F:PH):Prop:=Nb F (Y4 b 124) λf F=>Li F (Am f 0) λd=>∃a,c=Y3 a/\Li F a λe=>R (Za (decide (e<=d))) F
theorem Sw {a:Γ} {b:Θ} (h:MM a b R F):ν 181 #[Y9 a,Ze b] F R:=Rx.Λ .N h
def MN (b:Int) (c:Θ) (R:VR) (F:PH):Prop:=Bc (0<=b) (∃a,c=Y3 a/\Ls F (Zb a 2) λd=>R (Za (decide (b<(d.len:Int)))) F) (R (Za Y6) F)
theorem SA {a:Int} {b:Θ} (h:MN a b R F):ν 188 #[(vi a),Ze b] F R:=Rx.Λ .N h
def MO (b a f d:Int) (j:Θ) (R:VR) (F:PH):Prop:=Bc (b=0) (R (Za (decide (a=0))) F) (Bc (0<b) (∃c,j=Y3 c/\Ls F (Zb c 2) λg=>Bc (b<=(g.len:Int)) (Ls F (Zb c 2) λh=>Ix h (i64.wrap (b - 1)) λi=>∃e,F.cell (Zb i (Zd (i64.wrap (b - 1))*2))=Y3 (Za e)/\Bb (e) (Bc (f<=a) (R (Za (decide (a<=d))) F) (R (Za Y6) F)) (R (Za Y6) F)) (R (Za Y6) F)) (R (Za Y6) F))
theorem SC {d:Int} {a:Int} {c:Int} {b:Int} {e:Θ} (h:MO d a c b e R F):ν 189 #[(vi d),(vi a),(vi c),(vi b),Ze e] F R:=Rx.Λ .N h
end
