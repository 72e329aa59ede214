/-
  The diagrams: restrictions.
-/
import Derived.Test.YtcemhghkipgdiaaGreatDoorEh
import Derived.Test.YtcemhghkipgdiaaGreatDoorGdiagram
namespace Go.Proofs.YtcemhghkipgdiaaGreatDoor
open Go Go.Proofs.Tryz Tr
set_option maxRecDepth 10000
def tI (t:Tr):List Tr:=leaf false::leaf true::aF t
theorem mV {t x:Tr} (h:inn (aF t) x):x∈tI t:=by
 unfold tI;cases x with
 |leaf b=>cases b<;>simp
 |node v l r=>simp [bV h rfl]
noncomputable def apL (o:Op3) (a b d:Tr):List Tr:=(tI a).flatMap λx=>(tI b).flatMap λy=>(tI d).map λz=>ap o x y z
theorem za (o:Op3) (a b d:Tr):(apL o a b d).length=((aF a).length+2)*(((aF b).length+2)*((aF d).length+2)):=by unfold apL;simp only [List.length_flatMap,T1,List.map_const',List.sum_replicate_nat];simp [tI]
theorem Mv {o:Op3} {a b d:Tr} (ha:a.ok) (hb:b.ok) (hd:d.ok):∀(n:Nat) (x y z:Tr) (S:List Tr),x.sz+y.sz+z.sz<=n->inn (aF a) x->inn (aF b) y->inn (aF d) z->Cl S->
  ∀u∈vis (ap o x y z) S,u∈S\/u∈apL o a b d:=by
 intro n;induction n with
 |zero=>intro x y z S hn;have:=j7 x;omega
 |succ n ih=>
  intro x y z S hn hx hy hz hS u hu;have kx:=(bi ha).inn_ok hx;have ky:=(bi hb).inn_ok hy;have kz:=(bi hd).inn_ok hz;have hmem:ap o x y z∈apL o a b d:=VB.2 ⟨x,mV hx,VB.2 ⟨y,mV hy,T3.2 ⟨z,mV hz,rfl⟩⟩⟩;by_cases hv:aY x y z<64
  ·have hst:=uy (o:=o) kx ky kz hv;have v1:aY x y z<=x.top:=by unfold aY;omega
   have v2:aY x y z<=y.top:=by unfold aY;omega
   have v3:aY x y z<=z.top:=by unfold aY;omega
   have hcase:aY x y z=x.top\/aY x y z=y.top\/aY x y z=z.top:=by unfold aY;omega
   generalize aY x y z=v at*;have nl:∀{t:Tr},v=t.top->t.isL=false:=λ{t} e=>by
    cases t with
    |leaf b=>simp only [top] at e;omega
    |node _ _ _=>rfl
   obtain ⟨al1,al2,al3,al4,al5⟩:=ce kx v1;obtain ⟨bl1,bl2,bl3,bl4,bl5⟩:=ce ky v2;obtain ⟨dl1,dl2,dl3,dl4,dl5⟩:=ce kz v3;obtain ⟨ah1,ah2,ah3,ah4,ah5⟩:=cf kx v1;obtain ⟨bh1,bh2,bh3,bh4,bh5⟩:=cf ky v2;obtain ⟨dh1,dh2,dh3,dh4,dh5⟩:=cf kz v3;have hsl:(lo v x).sz+(lo v y).sz+(lo v z).sz<=n:=by
    rcases hcase with e|e|e
    ·have:=al4 e.symm (nl e);omega
    ·have:=bl4 e.symm (nl e);omega
    ·have:=dl4 e.symm (nl e);omega
   have hsh:(hi v x).sz+(hi v y).sz+(hi v z).sz<=n:=by
    rcases hcase with e|e|e
    ·have:=ah4 e.symm (nl e);omega
    ·have:=bh4 e.symm (nl e);omega
    ·have:=dh4 e.symm (nl e);omega
   obtain ⟨l1,l2,l3⟩:=eZ (o:=o) al1 bl1 dl1;obtain ⟨g1,g2,g3⟩:=eZ (o:=o) ah1 bh1 dh1;have l2':v<(ap o (lo v x) (lo v y) (lo v z)).top:=by have:=al2 hv;have:=bl2 hv;have:=dl2 hv;unfold aY at l2;omega
   have g2':v<(ap o (hi v x) (hi v y) (hi v z)).top:=by have:=ah2 hv;have:=bh2 hv;have:=dh2 hv;unfold aY at g2;omega
   have hadd:=ln hS (v:=v) ⟨hv,l2',g2',l1,g1⟩;rw [<- hst] at hadd;rw [<- hadd] at hu;have c1:=(bj _ S l1 hS).1;have key:u∈vis (ap o (hi v x) (hi v y) (hi v z)) (vis (ap o (lo v x) (lo v y) (lo v z)) S)->u∈S\/u∈apL o a b d:=λhu=>by
    rcases ih _ _ _ _ hsh ((bi ha).inn_hi hx v) ((bi hb).inn_hi hy v) ((bi hd).inn_hi hz v) c1 u hu with h|h
    ·exact ih _ _ _ _ hsl ((bi ha).inn_lo hx v) ((bi hb).inn_lo hy v) ((bi hd).inn_lo hz v) hS u h
    ·exact .inr h
   unfold dk at hu;split at hu
   ·exact key hu
   ·rcases TR.1 hu with hu|hu
    ·exact key hu
    ·rw [TO.1 hu];exact .inr hmem
  ·have isl:∀{t:Tr},t.ok->64<=t.top->∃b,t=leaf b:=λ{t} ht h64=>fX ht h64;unfold aY at hv;obtain ⟨p,rfl⟩:=isl kx (by omega);obtain ⟨q,rfl⟩:=isl ky (by omega);obtain ⟨r,rfl⟩:=isl kz (by omega);rw [kS] at hu;exact .inl hu
theorem CO {o:Op3} {a b d:Tr} (ha:a.ok) (hb:b.ok) (hd:d.ok):(aF (ap o a b d)).length<=((aF a).length+2)*(((aF b).length+2)*((aF d).length+2)):=by
 rw [<- za o a b d];refine cT _ _ (bi (DA ha hb hd)).nodup λx hx=> ?_;rcases Mv ha hb hd _ a b d [] (TT _) (bx ha) (bx hb) (bx hd) .nil x hx with h|h
 ·cases h
 ·exact h
def lC {α:Type} (a b c:α):Nat->α
 |0=>a
 |1=>b
 |_=>c
theorem fO {F:PH} {b e1:Nat} {c4:Γ} {K:Γ->Ψ} {G:PH} {d:Dia} {cs:Γ} (hd:DV G cs d) (h4:F b=some (.cells c4 e1 (0,0))) (hc4:c4.size=2) (hk:K cs (F.set b (.cells cs e1))):
  cs.size=2/\(∀v∈cs.toList,al v)/\∃c e,F (Addr.mk b 0 none).block=some (.cells c e (0,0))/\(Addr.mk b 0 none).spot=none/\(Addr.mk b 0 none).off+2<=c.size/\
   atF (F.set (Addr.mk b 0 none).block (.cells (wr c (Addr.mk b 0 none).off cs.toList) e)) λF=>∃vres:Γ,vres.size=2/\F.row (Addr.mk b 0 none) vres/\K vres F:=
 stW h4 hd.size hc4 hd.st ⟨cs,hd.size,ac (ak _ _ _),hk⟩
theorem OpV.cells {F:PH} {v:Value} {o:Op3} (h:OpV F v o):v.cells= #[v]:=by obtain ⟨k,f,c,rfl,_⟩:=h;rfl
def dp (F:PH) (a:Nat):PH:=λx=>if x=a then none else F x
theorem Bt (F:PH) (a:Nat):(dp F a).le F:=λx o h=>by
 unfold dp at h;split at h
 ·cases h
 ·exact h
theorem dL {F:PH} {a x:Nat} (h:x≠a):dp F a x=F x:=by simp [dp,h]
theorem zc (F:PH) (a:Nat):dp F a a=none:=by simp [dp]
theorem dM {F G:PH} {a:Nat} (h:F.le G) (ha:F a=none):F.le (dp G a):=λx o hx=>by
 have h1:x≠a:=λe=>by rw [e,ha] at hx;cases hx
 rw [dL h1];exact h _ _ hx
theorem aj.avoid {P:Program} {f:FuncId} {args:Γ} {F:PH} {x:Nat} {o:Obj} {R:Value->Ψ} (h:aj P f args (dp F x) R) (hx:F x=some o):
  aj P f args F λv F'=>∃G,R v G/\G.le F'/\F' x=some o/\G x=none:=
 (h.upon (Bt F x)).mono λv F' ⟨G,hr,hl,hb⟩=>by obtain ⟨h1,h2⟩:=hb x o (zc F x) hx;exact ⟨G,hr,hl,h1,h2⟩
theorem gM {F G F':PH} {x:Nat} {o:Obj} (h:(dp F x).le G) (hl:G.le F') (hx:F' x=some o) (hF:F x=some o):F.le F':=λb ob hb=>by
 by_cases hbx:b=x
 ·subst hbx;rw [hF] at hb;rw [hx];exact hb
 ·exact hl _ _ (h _ _ (by rw [dL hbx];exact hb))
section
variable {F:PH} {s0 s1 s2:Sl} {t0 t1 t2:Tr} {opv:Value} {o:Op3}
theorem uX (h0:RdS F s0 3 (aV (dia t0).1)) (h1:RdS F s1 3 (aV (dia t1).1)) (h2:RdS F s2 3 (aV (dia t2).1)) (k0:t0.ok) (k1:t1.ok) (k2:t2.ok)
  (f0:Fit ((aF t0).length+2)) (f1:Fit ((aF t1).length+2)) (f2:Fit ((aF t2).length+2)) (hf:Fit ((aF (ap o t0 t1 t2)).length+4)) (hop:OpV F opv o):
  aj prog 127 #[.agg #[s0.v,vi (dia t0).2,s1.v,vi (dia t1).2,s2.v,vi (dia t2).2],opv] F λr F'=>∃w,r=.agg w/\DV F' w (dia (ap o t0 t1 t2))/\F.le F':=by
 refine Ov ?_;unfold JC;intro b2 hb2;refine atI ?_;have l2:=ae (.cells #[s0.v,vi (dia t0).2,s1.v,vi (dia t1).2,s2.v,vi (dia t2).2] 169) hb2;have q2:=ak F b2 (.cells #[s0.v,vi (dia t0).2,s1.v,vi (dia t1).2,s2.v,vi (dia t2).2] 169);generalize F.set b2 (.cells #[s0.v,vi (dia t0).2,s1.v,vi (dia t1).2,s2.v,vi (dia t2).2] 169)=F2 at*;refine ⟨hop.cells,λb3 hb3=> ?_⟩;refine atI ?_;have lx:=ae (.cells #[opv] 170) hb3;have q3:=ak F2 b3 (.cells #[opv] 170);replace q2:=lx _ _ q2;have l3:=l2.trans lx;clear lx;generalize F2.set b3 (.cells #[opv] 170)=F3 at*;intro b4 hb4;refine atI ?_;have f4:F b4=none:=aQ l3 hb4;have lx:=ae (.cells zD 31) hb4;have q4:=ak F3 b4 (.cells zD 31);replace q2:=lx _ _ q2;replace q3:=lx _ _ q3;have l4:=l3.trans lx;clear lx;generalize F3.set b4 (.cells zD 31)=F4 at*;refine (iB F4).mono ?_;rintro _ G ⟨bb,mm,rfl,hne,bd⟩;refine ⟨_,rfl,?_⟩;intro b5 hb5;refine atI ?_;refine st1 (ak _ _ _) (by simp) ?_;rw [aX,show (#[Value.pointer none].setIfInBounds (Addr.mk b5 0 none).off (Value.pointer (some ⟨bb,0,none⟩)):Γ)= #[Value.pointer (some ⟨bb,0,none⟩)] from rfl];have g5:F4 b5=none:=aQ bd.le hb5;have bd5:=bd.grow (F:=G.set b5 (.cells #[Value.pointer (some ⟨bb,0,none⟩)] 196)) (ae _ hb5) hb5 (ak _ _ _);have e5:=ak F4 b5 (.cells #[Value.pointer (some ⟨bb,0,none⟩)] 196);have l5:=ae (.cells #[Value.pointer (some ⟨bb,0,none⟩)] 196) g5;generalize F4.set b5 (.cells #[Value.pointer (some ⟨bb,0,none⟩)] 196)=E5 at*;generalize G.set b5 (.cells #[Value.pointer (some ⟨bb,0,none⟩)] 196)=G5 at*;intro b9 hb9;refine atI ?_;have bd9:=bd5.upto (ae (.map #[] 0) hb9);have g9:E5 b9=none:=aQ bd5.le hb9;have hmo:=d8.empty Ia;have e9:=ak G5 b9 (.map #[] 0);have hnm:mm≠b9:=by obtain ⟨om,hom,_⟩:=bd5.map;exact aE hb9 hom
 generalize G5.set b9 (.map #[] 0)=G9 at*;intro b6 hb6;refine atI ?_;refine st1 (ak _ _ _) (by simp) ?_;rw [aX,show (#[Value.map none].setIfInBounds (Addr.mk b6 0 none).off (Value.map (some b9)):Γ)= #[Value.map (some b9)] from rfl];intro b7 hb7;refine atI ?_;refine st1 (ak _ _ _) (by simp) ?_;rw [aX]
 let p:AP:=⟨b3,b6,b2,b7,b5,bb,mm,b9,opv,o,lC (dia t0) (dia t1) (dia t2),lC (aF t0) (aF t1) (aF t2)⟩
 have hs0:AS E5 G9 p []:=⟨bd9,g9,hnm,_,_,e9,hmo,λk v hkv=>by cases hkv⟩;have hs1:=hs0.grow (F:=G9.set b6 (.cells #[Value.map (some b9)] 213)) (ae _ hb6) hb6 (ak _ _ _);have hs2:=hs1.grow (F:=(G9.set b6 (.cells #[Value.map (some b9)] 213)).set b7 (.cells #[.func (.func 173) #[] p.caps] 214)) (ae _ hb7) hb7 (ak _ _ _);have g6:E5 b6=none:=aQ bd9.le hb6;have g7:(E5.set b6 (.cells #[Value.map (some b9)] 213)) b7=none:=aQ hs1.bd.le hb7;have l6:=ae (.cells #[Value.map (some b9)] 213) g6;have l7:=ae (.cells #[.func (.func 173) #[] p.caps] 214) g7;have e6:=l7 _ _ (ak E5 b6 (.cells #[Value.map (some b9)] 213));have e7:=ak (E5.set b6 (.cells #[Value.map (some b9)] 213)) b7 (.cells #[.func (.func 173) #[] p.caps] 214);have lE:F4.le ((E5.set b6 (.cells #[Value.map (some b9)] 213)).set b7 (.cells #[.func (.func 173) #[] p.caps] 214)):=l5.trans (l6.trans l7);replace e5:=(l6.trans l7) _ _ e5;rw [show (#[Value.nilFunc].setIfInBounds 0 (Value.func (.func 173) #[] #[.pointer (some ⟨b3,0,none⟩),.pointer (some ⟨b6,0,none⟩),.pointer (some ⟨b2,0,none⟩),.pointer (some ⟨b7,0,none⟩),.pointer (some ⟨b5,0,none⟩)]):Γ)= #[.func (.func 173) #[] p.caps] from rfl];generalize (E5.set b6 (.cells #[Value.map (some b9)] 213)).set b7 (.cells #[.func (.func 173) #[] p.caps] 214)=E7 at*;generalize (G9.set b6 (.cells #[Value.map (some b9)] 213)).set b7 (.cells #[.func (.func 173) #[] p.caps] 214)=G7 at*;have lF:=l4.trans lE;have he:AE E7 p:=by
  refine ⟨?_,?_,λi hi=> ?_,?_,?_,hop.le lF⟩
  ·show E7.cell ⟨b3,0,none⟩=some opv;rw [am (lE _ _ q3)];rfl
  ·show E7.cell ⟨b6,0,none⟩=some _;rw [am e6];rfl
  ·have row:∀(j:Nat) (s:Sl) (r:Int),(#[s0.v,vi (dia t0).2,s1.v,vi (dia t1).2,s2.v,vi (dia t2).2]:Γ)[j]? =some s.v->(#[s0.v,vi (dia t0).2,s1.v,vi (dia t1).2,s2.v,vi (dia t2).2]:Γ)[j+1]? =some (vi r)->
     E7.row ⟨b2,j,none⟩ #[s.v,vi r]:=λj s r h1 h2 i hi=>by
    simp only [aC];rw [am (lE _ _ q2)]
    match i,hi with
    |0,_=>simpa using h1
    |1,_=>simpa using h2
   match i,hi with
   |0,_=>exact ⟨_,row 0 s0 _ rfl rfl,s0,rfl,h0.le lF⟩
   |1,_=>exact ⟨_,row 2 s1 _ rfl rfl,s1,rfl,h1.le lF⟩
   |2,_=>exact ⟨_,row 4 s2 _ rfl rfl,s2,rfl,h2.le lF⟩
  ·show E7.cell ⟨b7,0,none⟩=some _;rw [am e7];rfl
  ·show E7.cell ⟨b5,0,none⟩=some _;rw [am e5];rfl
 have hfa:AF p:=by
  refine ⟨λi hi=> ?_,λi hi=> ?_,λi hi=> ?_⟩
  ·match i,hi with
   |0,_=>exact bi k0
   |1,_=>exact bi k1
   |2,_=>exact bi k2
  ·match i,hi with
   |0,_=>exact VC _
   |1,_=>exact VC _
   |2,_=>exact VC _
  ·match i,hi with
   |0,_=>show Fit ((brs (aF t0)).length+2);rw [aL];exact f0
   |1,_=>show Fit ((brs (aF t1)).length+2);rw [aL];exact f1
   |2,_=>show Fit ((brs (aF t2)).length+2);rw [aL];exact f2
 have q2':=hs2.bd.le _ _ (lE _ _ q2)
 refine ⟨_,aG hs2.bd.le he.c5,_,aG hs2.bd.le he.c7,by omega,by omega,(dia t0).2,by simp only [aC];rw [am q2'];rfl,by omega,by omega,(dia t1).2,by simp only [aC];rw [am q2'];rfl,
  by omega,by omega,(dia t2).2,by simp only [aC];rw [am q2'];rfl,_,_,_,rfl,FA,?_⟩
 have hres:p.res (lC t0 t1 t2)=ap o t0 t1 t2:=rfl;have hat:=Ip hfa _ (lC t0 t1 t2) (TT _) ⟨bx k0,bx k1,bx k2⟩ E7 G7 [] he hs2 (by rw [hres];exact hf);rw [hres] at hat;refine hat.mono ?_;rintro _ F5 ⟨rfl,hs3⟩;have q2'':=hs3.bd.le _ _ (lE _ _ q2);refine ⟨_,rfl,by simp only [aC];rw [am q2''];rfl,by simp only [aC];rw [am q2''];rfl,by simp only [aC];rw [am q2''];rfl,aG hs3.bd.le he.c5,?_⟩;have hkT:=DA (o:=o) k0 k1 k2;obtain ⟨_,hcl,_,_,⟨sb,hbb,hob,_⟩,_⟩:=hs3.bd;have hle3:=hs3.bd.le;clear hs3;have ev:vis (ap o t0 t1 t2) []=aF (ap o t0 t1 t2):=rfl;rw [ev] at*;have h45:=hle3 _ _ (lE _ _ q4);replace hbb:F5 bb=some (.cells #[sb.v,Value.map (some mm)] 199):=hbb;have nbb:bb≠b4:=λe=>by rw [e,h45] at hbb;simp at hbb
 have hob':bW (dp F5 b4) 124 3 sb (aV (brs (aF (ap o t0 t1 t2)))):=hob.keep λa ha=>by obtain ⟨cur,hcur⟩:=hob.elem ha;refine dL (λe=> ?_);rw [e,h45] at hcur;cases hcur
 refine (aj.avoid (ij (b:=bb) (F:=dp F5 b4) (ns:=sb) (by rw [am ((dL nbb).trans hbb)];rfl) hob'.rd hcl (bx hkT) hf) h45).mono ?_;rintro _ F6 ⟨G6,⟨w,rfl,hw,l6'⟩,lg,h46,hg4⟩;have l56:=gM l6' lg h46 h45;have q2f:=l56 _ _ q2'';refine ⟨_,rfl,by simp only [aC];rw [am q2f];rfl,by simp only [aC];rw [am q2f];rfl,by simp only [aC];rw [am q2f];rfl,?_⟩;exact fO (K:=λvres F'=>∃w,Value.agg vres=.agg w/\DV F' w (dia (ap o t0 t1 t2))/\F.le F') hw h46 rfl ⟨w,rfl,hw.le (av lg hg4),av (lF.trans (hle3.trans l56)) f4⟩
end
abbrev iC:Dia:=([],0)
abbrev DR:=Dia×Int
noncomputable def lH:List Dia->Int
 |[]=>0
 |d::r=>if chk d≠0 then chk d else lH r
open Classical in
noncomputable def tre (d:Dia):Tr:=if h:iD d then h.choose else leaf false
theorem fE {t:Tr} (h:t.ok):tre (dia t)=t:=by have hv:iD (dia t):=⟨t,h,rfl⟩;unfold tre;rw [dif_pos hv];exact (oP h hv.choose_spec.1 hv.choose_spec.2).symm
theorem Fq {d:Dia} (h:chk d=0):(tre d).ok/\d=dia (tre d)/\d.1.length<=4096:=by
 unfold chk at h;split at h
 ·cases h
 ·rename_i hl;split at h
  ·rename_i hv;unfold tre;rw [dif_pos hv];exact ⟨hv.choose_spec.1,hv.choose_spec.2,by omega⟩
  ·cases h
theorem uY {t:Tr} (h:t.ok) (hl:(aF t).length<=4096):chk (dia t)=0:=by unfold chk;rw [if_neg (by simp only [dia,aL];omega),if_pos ⟨t,h,rfl⟩]
theorem lI {d:Dia} (h:chk d=0):(aF (tre d)).length<=4096:=by obtain ⟨_,h2,h3⟩:=Fq h;rw [h2] at h3;simpa [dia,aL] using h3
def lim (d:Dia):DR:=if 4096<d.1.length then (iC,2) else (d,0)
abbrev Op2:=Bool->Bool->Bool
noncomputable def bin (o:Op2) (a b:Dia):DR:=if lH [a,b]≠0 then (iC,lH [a,b]) else lim (dia (ap (λx y _=>o x y) (tre a) (tre b) (leaf false)))
def DRV (F:PH) (v:Value) (x:DR):Prop:=∃w,v=.tuple #[.agg w,vi x.2]/\DV F w x.1
theorem DRV.le {F G:PH} {v:Value} {x:DR} (h:DRV F v x) (hl:F.le G):DRV G v x:=by obtain ⟨w,h1,h2⟩:=h;exact ⟨w,h1,h2.le hl⟩
theorem DV.none (F:PH):DV F zD iC:=⟨Sl.nil,rfl,RdS.nil F 3⟩
theorem xg {F:PH} {x:Nat} {dd:List Dia} {n:Nat} (hn:n=dd.length) (hs:n<=100) (h:∀i (hi:i<dd.length),∃w,F.row ⟨x,i*2,none⟩ w/\DV F w dd[i]):
  aj prog 95 #[(Sl.mk (some ⟨x,0,none⟩) n n).v] F λr F'=>r=vi (lH dd)/\F.le F':=by
 subst hn;refine Sh ?_;unfold Oo;refine ⟨λm i F'=>∃k:Nat,i=k/\k<=dd.length/\m=dd.length - k/\F.le F'/\lH dd=lH (dd.drop k),dd.length,⟨0,rfl,by omega,rfl,PH.le_rfl,rfl⟩,?_⟩;rintro m i F1 ⟨k,rfl,hk,rfl,hle,hch⟩;unfold Ea;refine ⟨λhlt=> ?_,λhge=> ?_⟩
 ·have hkd:k<dd.length:=by simpa using hlt
  obtain ⟨w,hr,hd⟩:=h k hkd;refine ⟨_,rfl,by omega,hlt,w,hd.size,by simpa using aW hle hr,?_⟩;intro b4 hb4;refine atI ?_;refine stW (ak _ _ _) hd.size rfl hd.st ?_;rw [aX];have l4:=ae (.cells w 31) hb4;refine ⟨w,hd.size,ac (ak _ _ _),?_⟩;refine (ik (hd.le (hle.trans l4))).mono ?_;rintro _ F2 ⟨rfl,l5⟩;rw [List.drop_eq_getElem_cons hkd] at hch;refine ⟨_,rfl,λhne=> ?_,λhe=> ?_⟩
  ·refine ⟨?_,(hle.trans l4).trans l5⟩;rw [hch];unfold lH;rw [if_pos hne]
  ·refine ⟨dd.length - (k+1),by omega,k+1,iL (by omega),by omega,rfl,(hle.trans l4).trans l5,?_⟩;rw [hch]
   conv=>lhs;unfold lH
   rw [if_neg he]
 ·unfold D9;have hk':k=dd.length:=by
   have:¬k<dd.length:=by simpa using hge
   omega
  refine ⟨?_,hle⟩;rw [hch,hk',UI];rfl
theorem lJ {F:PH} {v:Γ} {d:Dia} (hd:DV F v d):aj prog 126 #[.agg v] F λr F'=>DRV F' r (lim d)/\F.le F':=by
 have hd':=hd;obtain ⟨s,rfl,hr⟩:=hd;have hlen:=hr.blen;refine Ou ?_;unfold JB;intro b1 hb1;refine atI ?_;have l1:=ae (.cells #[s.v,vi d.2] 31) hb1;have h1:=ak F b1 (.cells #[s.v,vi d.2] 31);generalize F.set b1 (.cells #[s.v,vi d.2] 31)=F1 at*;intro b2 hb2;refine atI ?_;have l2:=l1.trans (ae (.cells zD 31) hb2);have n12:b1≠b2:=aE hb2 h1;have f2:F b2=none:=aQ l1 hb2;refine ⟨s,by rw [am ((au _ _ n12).trans h1)];rfl,λh=> ?_,λh=> ?_⟩
 ·refine fO (K:=λvres F'=>DRV F' (.tuple #[.agg vres,vi 2]) (lim d)/\F.le F') (DV.none F) (ak _ _ _) rfl ⟨?_,av l2 f2⟩;unfold lim;rw [if_pos (by omega)];exact ⟨_,rfl,DV.none _⟩
 ·refine ⟨#[s.v,vi d.2],rfl,ac ((au _ _ n12).trans h1),?_⟩;refine fO (K:=λvres F'=>DRV F' (.tuple #[.agg vres,vi 0]) (lim d)/\F.le F') hd' (ak _ _ _) rfl ⟨?_,av l2 f2⟩;unfold lim;rw [if_neg (by omega)];exact ⟨_,rfl,hd'.le (av l2 f2)⟩
def Ih (F0:PH) (v:Value) (o:Op2):Prop:=∃(k:Nat) (fst cap:Γ),v=.func (.func k) fst cap/\aB prog k=true/\
 ∀(x y:Bool) (F:PH),F0.le F->aj prog k (fst++[Value.bool x,Value.bool y].toArray++cap) F λr F'=>r=.bool (o x y)/\F.le F'
theorem PT:aB prog 128=true:=by kernel_rfl
theorem Ii {F0:PH} {b:Nat} {v:Value} {o:Op2} (hb:F0.cell ⟨b,0,none⟩=some v) (h:Ih F0 v o):OpV F0 (.func (.func 128) #[] #[.pointer (some ⟨b,0,none⟩)]) (λx y _=>o x y):=by refine ⟨128,#[],#[.pointer (some ⟨b,0,none⟩)],rfl,PT,λx y z F hle=> ?_⟩;obtain ⟨k,fst,cap,rfl,hcb,hsp⟩:=h;refine Ow ?_;unfold JD;refine ⟨_,rfl,_,aG hle hb,k,fst,cap,rfl,hcb,?_⟩;refine (hsp x y F hle).mono ?_;rintro _ F' ⟨rfl,hl⟩;exact ⟨_,rfl,rfl,hl⟩
theorem Fs {a b c:Nat} (ha:a<=4096) (hb:b<=4096) (hc:c<=4096):(a+2)*((b+2)*(c+2))<=68820189192:=by
 calc (a+2)*((b+2)*(c+2))<=4098*(4098*4098):=Nat.mul_le_mul (by omega) (Nat.mul_le_mul (by omega) (by omega))
  _<=68820189192:=by decide
theorem PU {a b:Dia} (h:¬lH [a,b]≠0):chk a=0/\chk b=0:=by
 unfold lH at h;split at h
 ·exact absurd (by assumption) h
 ·rename_i ha;unfold lH at h;split at h
  ·exact absurd (by assumption) h
  ·rename_i hb;omega
section
variable {F:PH} {v w:Γ} {a b:Dia} {opv:Value} {o:Op2}
theorem nZ (ha:DV F v a) (hb:DV F w b) (hop:Ih F opv o):aj prog 77 #[.agg v,.agg w,opv] F λr F'=>DRV F' r (bin o a b)/\F.le F':=by
 have ha':=ha;have hb':=hb;obtain ⟨s,rfl,hr⟩:=ha;obtain ⟨t,rfl,ht⟩:=hb;refine Sd ?_;unfold Ol;intro b3 hb3;refine atI ?_;have l3:=ae (.cells #[s.v,vi a.2] 31) hb3;have q3:=ak F b3 (.cells #[s.v,vi a.2] 31);generalize F.set b3 (.cells #[s.v,vi a.2] 31)=F3 at*;intro b4 hb4;refine atI ?_;have lx:=ae (.cells #[t.v,vi b.2] 31) hb4;have q4:=ak F3 b4 (.cells #[t.v,vi b.2] 31);replace q3:=lx _ _ q3;have l4:=l3.trans lx;clear lx;generalize F3.set b4 (.cells #[t.v,vi b.2] 31)=F4 at*;refine ⟨by obtain ⟨k,f,c,rfl,_⟩:=hop;rfl,λb5 hb5=> ?_⟩;refine atI ?_;have lx:=ae (.cells #[opv] 121) hb5;have q5:=ak F4 b5 (.cells #[opv] 121);replace q3:=lx _ _ q3;replace q4:=lx _ _ q4;have l5:=l4.trans lx;clear lx;generalize F4.set b5 (.cells #[opv] 121)=F5 at*;intro b6 hb6;refine atI ?_;have f6:F b6=none:=aQ l5 hb6;have n3:b3≠b6:=aE hb6 q3;have n4:b4≠b6:=aE hb6 q4;have n5:b5≠b6:=aE hb6 q5;have lx:=ae (.cells zD 31) hb6;have q6:=ak F5 b6 (.cells zD 31);replace q3:=lx _ _ q3;replace q4:=lx _ _ q4;replace q5:=lx _ _ q5;have l6:=l5.trans lx;clear lx;generalize F5.set b6 (.cells zD 31)=F6 at*;refine ⟨#[s.v,vi a.2],rfl,ac q3,#[t.v,vi b.2],rfl,ac q4,rfl,rfl,λb11 hb11=> ?_⟩;refine atI ?_;have e11:wr (wr (#[Value.slice none 0 0,vi 0,Value.slice none 0 0,vi 0]:Γ) 0 (#[s.v,vi a.2]:Γ).toList) 2 (#[t.v,vi b.2]:Γ).toList= #[s.v,vi a.2,t.v,vi b.2]:=rfl;rw [e11];have lx:=ae (.cells #[s.v,vi a.2,t.v,vi b.2] 31) hb11;have q11:=ak F6 b11 (.cells #[s.v,vi a.2,t.v,vi b.2] 31);replace q3:=lx _ _ q3;replace q4:=lx _ _ q4;replace q5:=lx _ _ q5;replace q6:=lx _ _ q6;have l11:=l6.trans lx;clear lx;generalize F6.set b11 (.cells #[s.v,vi a.2,t.v,vi b.2] 31)=F7 at*;refine (xg (F:=F7) (x:=b11) (dd:=[a,b]) (n:=2) rfl (by omega) (λi hi=> ?_)).mono ?_
 ·have row:∀(j:Nat) (s':Sl) (r:Int),(#[s.v,vi a.2,t.v,vi b.2]:Γ)[j]? =some s'.v->(#[s.v,vi a.2,t.v,vi b.2]:Γ)[j+1]? =some (vi r)->F7.row ⟨b11,j,none⟩ #[s'.v,vi r]:=λj s' r h1 h2 i hi=>by
   simp only [aC];rw [am q11]
   match i,hi with
   |0,_=>simpa using h1
   |1,_=>simpa using h2
  match i,hi with
  |0,_=>exact ⟨_,row 0 s _ rfl rfl,ha'.le l11⟩
  |1,_=>exact ⟨_,row 2 t _ rfl rfl,hb'.le l11⟩
 rintro _ F8 ⟨rfl,l8⟩;replace q3:=l8 _ _ q3;replace q4:=l8 _ _ q4;replace q5:=l8 _ _ q5;replace q6:=l8 _ _ q6;replace l8:=l11.trans l8;refine ⟨_,rfl,λh=> ?_,λh=> ?_⟩
 ·refine fO (K:=λvres F'=>DRV F' (.tuple #[.agg vres,vi (lH [a,b])]) (bin o a b)/\F.le F') (DV.none F) q6 rfl ⟨?_,av l8 f6⟩;unfold bin;rw [if_pos h];exact ⟨_,rfl,DV.none _⟩
 ·obtain ⟨hca,hcb⟩:=PU h;obtain ⟨ka,ea,la⟩:=Fq hca;obtain ⟨kb,eb,lb⟩:=Fq hcb;have sa:=lI hca;have sb:=lI hcb;have hlen:=CO (o:=λx y _=>o x y) ka kb (d:=leaf false) trivial;have hpf:=Fs sa sb (c:=(aF (leaf false)).length) (by simp [aF,vis]);refine ⟨#[s.v,vi a.2],rfl,ac q3,#[t.v,vi b.2],rfl,ac q4,rfl,rfl,rfl,?_⟩;have hbin:bin o a b=lim (dia (ap (λx y _=>o x y) (tre a) (tre b) (leaf false))):=by unfold bin;rw [if_neg h]
  rw [hbin];have ld:F.le (dp F8 b6):=dM l8 f6;have hc:=uX (F:=dp F8 b6) (s0:=s) (s1:=t) (s2:=Sl.nil) (t0:=tre a) (t1:=tre b) (t2:=leaf false) (opv:=.func (.func 128) #[] #[.pointer (some ⟨b5,0,none⟩)]) (o:=λx y _=>o x y)
   (by rw [<- ea];exact hr.le ld) (by rw [<- eb];exact ht.le ld) (RdS.nil _ _) ka kb trivial (by omega) (by omega) (by simp [aF,vis]) (by omega)
   (Ii (b:=b5) (v:=opv) (by rw [am ((dL n5).trans q5)];rfl) (by
    obtain ⟨k,f,c,h1,h2,h3⟩:=hop
    exact ⟨k,f,c,h1,h2,λx y G hG=>h3 x y G (ld.trans hG)⟩))
  rw [<- ea,<- eb] at hc;refine (aj.avoid hc q6).mono ?_;rintro _ F9 ⟨G,⟨w,rfl,hw,lg⟩,lG,q6',g6⟩;have l9:=gM lg lG q6' q6;refine ⟨_,rfl,?_⟩;have hw':DV (dp F9 b6) w (dia (ap (λx y _=>o x y) (tre a) (tre b) (leaf false))):=hw.le (λx ob hx=>by rw [dL (λe=>by rw [e,g6] at hx;cases hx)];exact lG _ _ hx);refine (aj.avoid (lJ hw') q6').mono ?_;rintro _ F10 ⟨G',⟨⟨w',rfl,hw''⟩,lg'⟩,lG',q6'',g6'⟩;have l10:=gM lg' lG' q6'' q6';refine ⟨_,_,rfl,?_⟩;exact fO (K:=λvres F'=>DRV F' (.tuple #[.agg vres,vi _]) (lim (dia (ap (λx y _=>o x y) (tre a) (tre b) (leaf false))))/\F.le F') hw'' q6'' rfl ⟨⟨_,rfl,hw''.le (av lG' g6')⟩,av (l8.trans (l9.trans l10)) f6⟩
end
theorem DV.beside {F G:PH} {x:Nat} {w:Γ} {d:Dia} (h:DV G w d) (hl:G.le F) (hx:G x=Option.none):DV (dp F x) w d:=
 h.le λy ob hy=>by rw [dL (λe=>by rw [e,hx] at hy;cases hy)];exact hl _ _ hy
theorem uZ {f:FuncId} {args:Γ} {F:PH} {x:Nat} {o:Obj} {y:DR} (h:aj prog f args (dp F x) λr F'=>DRV F' r y/\(dp F x).le F') (hx:F x=some o):
  aj prog f args F λr F'=>∃w,r=.tuple #[.agg w,vi y.2]/\(∃G,DV G w y.1/\G.le F'/\G x=none)/\F.le F'/\F' x=some o:=
 (aj.avoid h hx).mono λr _ ⟨G,⟨⟨w,hr,hw⟩,lg⟩,lG,q,g⟩=>⟨w,hr,⟨G,hw,lG,g⟩,gM lg lG q hx,q⟩
theorem gc {f:FuncId} {args:Γ} {F:PH} {x:Nat} {o:Obj} {d:Dia} (h:aj prog f args (dp F x) λr F'=>∃w,r=.agg w/\DV F' w d/\(dp F x).le F') (hx:F x=some o):
  aj prog f args F λr F'=>∃w,r=.agg w/\(∃G,DV G w d/\G.le F'/\G x=none)/\F.le F'/\F' x=some o:=
 (aj.avoid h hx).mono λr _ ⟨G,⟨w,hr,hw,lg⟩,lG,q,g⟩=>⟨w,hr,⟨G,hw,lG,g⟩,gM lg lG q hx,q⟩
theorem Ft {F G F0:PH} {b e1:Nat} {c4:Γ} {y:DR} {w:Γ} (hw:DV G w y.1) (hl:G.le F) (hg:G b=none) (h4:F b=some (.cells c4 e1 (0,0))) (hc4:c4.size=2) (h0:F0.le F) (hb:F0 b=none):
  w.size=2/\(∀v∈w.toList,al v)/\∃c e,F (Addr.mk b 0 none).block=some (.cells c e (0,0))/\(Addr.mk b 0 none).spot=none/\(Addr.mk b 0 none).off+2<=c.size/\
   atF (F.set (Addr.mk b 0 none).block (.cells (wr c (Addr.mk b 0 none).off w.toList) e)) λF=>∃vres:Γ,vres.size=2/\F.row (Addr.mk b 0 none) vres/\DRV F (.tuple #[.agg vres,vi y.2]) y/\F0.le F:=
 fO (K:=λvres F'=>DRV F' (.tuple #[.agg vres,vi y.2]) y/\F0.le F') hw h4 hc4 ⟨⟨_,rfl,hw.le (av hl hg)⟩,av h0 hb⟩
theorem zd {F F0:PH} {b e1:Nat} {c4:Γ} {er:Int} (h4:F b=some (.cells c4 e1 (0,0))) (hc4:c4.size=2) (h0:F0.le F) (hb:F0 b=none):
  (zD:Γ).size=2/\(∀v∈(zD:Γ).toList,al v)/\∃c e,F (Addr.mk b 0 none).block=some (.cells c e (0,0))/\(Addr.mk b 0 none).spot=none/\(Addr.mk b 0 none).off+2<=c.size/\
   atF (F.set (Addr.mk b 0 none).block (.cells (wr c (Addr.mk b 0 none).off (zD:Γ).toList) e)) λF=>∃vres:Γ,vres.size=2/\F.row (Addr.mk b 0 none) vres/\DRV F (.tuple #[.agg vres,vi er]) (iC,er)/\F0.le F:=
 fO (K:=λvres F'=>DRV F' (.tuple #[.agg vres,vi er]) (iC,er)/\F0.le F') (DV.none F) h4 hc4 ⟨⟨_,rfl,DV.none _⟩,av h0 hb⟩
abbrev be:Op2:=λx y=>x && y
abbrev oOr:Op2:=λx y=>x || y
abbrev kA:Op2:=λx y=> !(x==y)
theorem SI:aB prog 87=true:=by kernel_rfl
theorem SJ:aB prog 78=true:=by kernel_rfl
theorem SK (F0:PH):Ih F0 (.func (.func 87) #[] #[]) be:=⟨87,#[],#[],rfl,SI,λx y F _=>by
 refine Sf ?_;unfold On
 exact ⟨λh=>⟨by simp [h],PH.le_rfl⟩,λh=>⟨by simp [h],PH.le_rfl⟩⟩⟩
theorem SL (F0:PH):Ih F0 (.func (.func 78) #[] #[]) oOr:=⟨78,#[],#[],rfl,SJ,λx y F _=>by
 refine Se ?_;unfold Om
 exact ⟨λh=>⟨by simp [h],PH.le_rfl⟩,λh=>⟨by simp [h],PH.le_rfl⟩⟩⟩
section
variable {F:PH} {v w u:Γ} {a b c:Dia}
theorem Fu (ha:DV F v a) (hb:DV F w b):aj prog 35 #[.agg v,.agg w] F λr F'=>DRV F' r (bin be a b)/\F.le F':=by refine Sa ?_;unfold Oj;intro b2 hb2;refine atI ?_;have l2:=ae (.cells v 31) hb2;have q2:=ak F b2 (.cells v 31);generalize F.set b2 (.cells v 31)=F2 at*;intro b3 hb3;refine atI ?_;have lx:=ae (.cells w 31) hb3;have q3:=ak F2 b3 (.cells w 31);replace q2:=lx _ _ q2;have l3:=l2.trans lx;clear lx;generalize F2.set b3 (.cells w 31)=F3 at*;intro b4 hb4;refine atI ?_;have f4:F b4=none:=aQ l3 hb4;have lx:=ae (.cells zD 31) hb4;have q4:=ak F3 b4 (.cells zD 31);replace q2:=lx _ _ q2;replace q3:=lx _ _ q3;have l4:=l3.trans lx;clear lx;generalize F3.set b4 (.cells zD 31)=F4 at*;refine ⟨v,ha.size,ac q2,w,hb.size,ac q3,?_⟩;have ld:=dM l4 f4;refine (uZ (nZ (ha.le ld) (hb.le ld) (SK _)) q4).mono ?_;rintro _ F5 ⟨z,rfl,⟨G,hz,lG,gG⟩,l5,q5⟩;exact ⟨_,_,rfl,Ft hz lG gG q5 rfl (l4.trans l5) f4⟩
theorem Ij (ha:DV F v a) (hb:DV F w b):aj prog 28 #[.agg v,.agg w] F λr F'=>DRV F' r (bin oOr a b)/\F.le F':=by refine R8 ?_;unfold Oh;intro b2 hb2;refine atI ?_;have l2:=ae (.cells v 31) hb2;have q2:=ak F b2 (.cells v 31);generalize F.set b2 (.cells v 31)=F2 at*;intro b3 hb3;refine atI ?_;have lx:=ae (.cells w 31) hb3;have q3:=ak F2 b3 (.cells w 31);replace q2:=lx _ _ q2;have l3:=l2.trans lx;clear lx;generalize F2.set b3 (.cells w 31)=F3 at*;intro b4 hb4;refine atI ?_;have f4:F b4=none:=aQ l3 hb4;have lx:=ae (.cells zD 31) hb4;have q4:=ak F3 b4 (.cells zD 31);replace q2:=lx _ _ q2;replace q3:=lx _ _ q3;have l4:=l3.trans lx;clear lx;generalize F3.set b4 (.cells zD 31)=F4 at*;refine ⟨v,ha.size,ac q2,w,hb.size,ac q3,?_⟩;have ld:=dM l4 f4;refine (uZ (nZ (ha.le ld) (hb.le ld) (SL _)) q4).mono ?_;rintro _ F5 ⟨z,rfl,⟨G,hz,lG,gG⟩,l5,q5⟩;exact ⟨_,_,rfl,Ft hz lG gG q5 rfl (l4.trans l5) f4⟩
abbrev tv (v:Nat):Tr:=node v (leaf false) (leaf true)
theorem Mw (v:Nat):dia (tv v)=([⟨(v:Int),0,1⟩],2):=by
 have e:aF (tv v)=[tv v]:=by simp [aF,vis,tv]
 unfold dia;rw [e];simp [brs,br,num,tv]
theorem qM {v:Nat} (h:v<64):(tv v).ok:=⟨h,h,h,by simp,trivial,trivial⟩
theorem eX (x:Bool):aj prog 27 #[.bool x] F λr F'=>∃w,r=.agg w/\DV F' w (dia (leaf x))/\F.le F':=by
 refine R7 ?_;unfold Og;intro b2 hb2;refine atI ?_;have l2:=ae (.cells zD 31) hb2;have q2:=ak F b2 (.cells zD 31);refine ⟨λh=> ?_,λh=> ?_⟩
 ·subst h;have hd:∀G:PH,DV G #[Value.slice none 0 0,vi 1] (dia (leaf true)):=λG=>⟨Sl.nil,rfl,RdS.nil G 3⟩;exact fO (K:=λvres F'=>∃w,Value.agg vres=.agg w/\DV F' w (dia (leaf true))/\F.le F') (hd F) q2 rfl ⟨_,rfl,hd _,av l2 hb2⟩
 ·subst h;have hd:∀G:PH,DV G zD (dia (leaf false)):=λG=>⟨Sl.nil,rfl,RdS.nil G 3⟩;exact fO (K:=λvres F'=>∃w,Value.agg vres=.agg w/\DV F' w (dia (leaf false))/\F.le F') (hd F) q2 rfl ⟨_,rfl,hd _,av l2 hb2⟩
def sj (v:Int):DR:=if v<0\/63<v then (iC,1) else (dia (tv v.toNat),0)
end
theorem qN (c:Cf) {v w:Nat} (h:v≠w) (b:Bool):(c.set w b) v=c v:=by simp [Cf.set,h]
theorem Fv (w:Nat) (b:Bool):∀(t:Tr),t.ok->∃u:Tr,u.ok/\t.top<=u.top/\∀c,u.ev c=t.ev (c.set w b)
 |leaf x,_=>⟨leaf x,trivial,TT _,λ_=>rfl⟩
 |node v l h,⟨h0,h1,h2,h3,h4,h5⟩=>by
  obtain ⟨ul,l1,l2,l3⟩:=Fv w b l h4;obtain ⟨uh,g1,g2,g3⟩:=Fv w b h h5;by_cases hv:v=w
  ·subst hv;cases b with
   |true=>exact ⟨uh,g1,by show v<=uh.top;omega,λc=>by rw [g3];simp [Tr.ev,Cf.set]⟩
   |false=>exact ⟨ul,l1,by show v<=ul.top;omega,λc=>by rw [l3];simp [Tr.ev,Cf.set]⟩
  ·refine ⟨mk v ul uh,sW h0 (by omega) (by omega) l1 g1,(show v<=(mk v ul uh).top from Dz (by omega)),λc=> ?_⟩;rw [Au,l3,g3];simp only [Tr.ev,qN c hv b]
noncomputable def fx (w:Nat) (b:Bool) (t:Tr):Tr:=can λc=>t.ev (c.set w b)
theorem dq (w:Nat) (b:Bool) {t:Tr} (ht:t.ok):(fx w b t).ok/\t.top<=(fx w b t).top/\∀c,(fx w b t).ev c=t.ev (c.set w b):=by obtain ⟨u,h1,h2,h3⟩:=Fv w b t ht;have:fx w b t=u:=gW h1 h3;rw [this];exact ⟨h1,h2,h3⟩
theorem jE (w:Nat) (b x:Bool):fx w b (leaf x)=leaf x:=gW trivial λ_=>rfl
theorem u0 {w:Nat} {b:Bool} {v:Nat} {l h:Tr} (hk:(node v l h).ok):fx w b (node v l h)=if v=w then (if b=true then fx w b h else fx w b l) else mk v (fx w b l) (fx w b h):=by
 obtain ⟨h0,h1,h2,h3,h4,h5⟩:=hk;obtain ⟨l1,l2,l3⟩:=dq w b h4;obtain ⟨g1,g2,g3⟩:=dq w b h5;by_cases hv:v=w
 ·subst hv;rw [if_pos rfl];cases b with
  |true=>exact gW g1 λc=>by rw [if_pos rfl,g3];simp [Tr.ev,Cf.set]
  |false=>exact gW l1 λc=>by rw [if_neg (by simp),l3];simp [Tr.ev,Cf.set]
 ·rw [if_neg hv];refine gW (sW h0 (by omega) (by omega) l1 g1) λc=> ?_;rw [Au,l3,g3];simp only [Tr.ev,qN c hv b]
theorem BD.pin {F0 F:PH} {b m x:Nat} {c:Γ} {e:TypeId} {fr:Nat×Nat} {S:List Tr} (h:BD F0 F b m S) (hx:F x=some (.cells c e fr)) (h1:e≠199) (h2:e≠124):BD (F0.set x (.cells c e fr)) F b m S:=by
 obtain ⟨k1,k2,k3,k4,⟨s,k5,k6,k7⟩,o',k8,k9⟩:=h;refine ⟨λy oy hy=> ?_,k2,?_,?_,⟨s,k5,k6,λa ha=> ?_⟩,o',k8,k9⟩
 ·by_cases hyx:y=x
  ·subst hyx;rw [ak] at hy;rw [hx];exact hy
  ·rw [au _ _ hyx] at hy;exact k1 _ _ hy
 ·rw [au _ _ (λe'=>by rw [e',hx] at k5;simp at k5;exact h1 k5.2.1)];exact k3
 ·rw [au _ _ (λe'=>by
   obtain ⟨es,cl,L,rfl,_⟩:=k9
   rw [e',hx] at k8;simp at k8)];exact k4
 ·obtain ⟨cur,hcur⟩:=k6.elem ha;rw [au _ _ (λe'=>by rw [e',hx] at hcur;simp at hcur;exact h2 hcur.2.1)];exact k7 a ha
theorem BD.setCells {F0 F:PH} {b m x:Nat} {c:Γ} {e:TypeId} {fr:Nat×Nat} {o:Obj} {S:List Tr} (h:BD F0 F b m S) (h0:F0 x=none) (hx:F x=some (.cells c e fr)) (h1:e≠199) (h2:e≠124):BD F0 (F.set x o) b m S:=by
 obtain ⟨k1,k2,k3,k4,⟨s,k5,k6,k7⟩,o',k8,k9⟩:=h;refine ⟨av k1 h0,k2,k3,k4,⟨s,?_,k6.keep λa ha=>au _ _ (λe'=> ?_),k7⟩,o',?_,k9⟩
 ·rw [au _ _ (λe'=>by rw [e',hx] at k5;simp at k5;exact h1 k5.2.1)];exact k5
 ·obtain ⟨cur,hcur⟩:=k6.elem ha;rw [e',hx] at hcur;simp at hcur;exact h2 hcur.2.1
 ·rw [au _ _ (λe'=>by
   obtain ⟨es,cl,L,rfl,_⟩:=k9
   rw [e',hx] at k8;simp at k8)];exact k8
noncomputable def fxA (w:Nat) (b:Bool) (T S:List Tr) (k:Nat):Ξ:=(List.range (T.length+2)).map λj=>if j<k+2 then vi (num S (fx w b (tr T j))) else vi 0
theorem u6 {w:Nat} {b:Bool} {T S:List Tr} {k j:Nat} (h:j<k+2) (hk:k<=T.length):(fxA w b T S k)[j]? =some (vi (num S (fx w b (tr T j)))):=by unfold fxA;rw [T0,Ur (by omega)];simp [h]
theorem Fw (w:Nat) (b:Bool) (T:List Tr):(List.replicate (T.length+2) (vi 0)).set 1 (vi 1)=fxA w b T [] 0:=by
 apply UC;intro j;unfold fxA;rw [T0,UW];have h0:tr T 0=leaf false:=rfl;have h1:tr T 1=leaf true:=rfl;by_cases hj:j<T.length+2
 ·rw [Ur hj];simp only [Uv,List.length_replicate,List.getElem?_replicate]
  match j,hj with
  |0,_=>simp [h0,jE,num]
  |1,_=>simp [h1,jE,num]
  |j+2,hj=>rw [if_neg (by omega),if_pos hj,if_neg (by omega)]
 ·have e2:(List.range (T.length+2))[j]? =none:=by simp;omega
  rw [e2];simp only [List.getElem?_replicate,Option.map_none];rw [if_neg (by omega),if_neg (by omega)]
theorem Fx {w:Nat} {b:Bool} {T S S':List Tr} {k:Nat} (hk:k<T.length) (hn:∀j,j<k+2->num S' (fx w b (tr T j))=num S (fx w b (tr T j))):
  (fxA w b T S k).set (k+2) (vi (num S' (fx w b (tr T (k+2)))))=fxA w b T S' (k+1):=by
 apply UC;intro j;unfold fxA;rw [UW,T0,T0];by_cases hj:j<T.length+2
 ·rw [Ur hj];simp only [Uv,T1,Uq];by_cases h1:k+2=j
  ·subst h1;simp;omega
  ·rw [if_neg h1];by_cases h2:j<k+2
   ·rw [if_pos h2,if_pos (by omega),hn j h2]
   ·rw [if_neg h2,if_neg (by omega)]
 ·have e2:(List.range (T.length+2))[j]? =none:=by simp;omega
  rw [e2];simp only [Option.map_none];rw [if_neg (by omega)]
section
variable {F:PH} {v:Γ} {t:Tr}
theorem ze (hd:DV F v (dia t)) (ht:t.ok) (hl:(aF t).length<=4096) (w:Nat) (x:Bool):aj prog 157 #[.agg v,vi w,.bool x] F λr F'=>∃u,r=.agg u/\DV F' u (dia (fx w x t))/\F.le F':=by
 have hT:=bi ht;obtain ⟨s,rfl,hr⟩:=hd;have hr':RdS F s 3 (aV (brs (aF t))):=hr;have hlen:=hr'.blen;rw [aL] at hlen;refine Oz ?_;unfold JG;intro b3 hb3;refine atI ?_;have l3:=ae (.cells #[s.v,vi (dia t).2] 31) hb3;have q3:=ak F b3 (.cells #[s.v,vi (dia t).2] 31);generalize F.set b3 (.cells #[s.v,vi (dia t).2] 31)=F3 at*;intro b6 hb6;refine atI ?_;have f6:F b6=none:=aQ l3 hb6;have lx:=ae (.cells zD 31) hb6;have q6:=ak F3 b6 (.cells zD 31);replace q3:=lx _ _ q3;have l6:=l3.trans lx;clear lx;generalize F3.set b6 (.cells zD 31)=E at*;refine (iB E).mono ?_;rintro _ G ⟨bb,mm,rfl,hne,bd⟩;have hw2:IntKind.i64.wrap ((s.len:Int)+2)=(((aF t).length+2:Nat):Int):=by rw [hlen,aP (by omega) (by omega)];omega
 refine ⟨_,rfl,s,by rw [am (bd.le _ _ q3)];rfl,?_⟩;dsimp only;rw [hw2];refine cL underlying67 sz3 zr3 rfl (by omega) (VH _) (by omega) (by omega) ?_;intro g hg;rw [zc1 _ rfl,N5];have Eg:E g=none:=aQ bd.le hg;refine ⟨_,rfl,_,rfl,by omega,by simp only;omega,?_⟩;refine oz (b:=g) (o:=1) (by simp) (ak _ _ _) (by simp) ?_;rw [aX,List.setIfInBounds_toArray];rw [Fw w x (aF t)];have bd1:=(bd.upto (ae (.cells (fxA w x (aF t) [] 0).toArray 3) hg));have qg:=ak G g (.cells (fxA w x (aF t) [] 0).toArray 3);generalize G.set g (.cells (fxA w x (aF t) [] 0).toArray 3)=G1 at*;refine ⟨s,by rw [am (bd1.le _ _ q3)];rfl,?_⟩
 refine ⟨λm i F'=>∃(k:Nat) (S:List Tr),i=k/\k<=(aF t).length/\m=(aF t).length - k/\BD E F' bb mm S/\S.length<=k/\(∀j,j<k+2->inn S (fx w x (tr (aF t) j)))/\F' g=some (.cells (fxA w x (aF t) S k).toArray 3),(aF t).length,
  ⟨0,[],rfl,by omega,rfl,bd1,by simp,λj hj=> ?_,qg⟩,?_⟩
 ·match j,hj with
  |0,_=>show inn [] (fx w x (leaf false));rw [jE];exact eC _ _
  |1,_=>show inn [] (fx w x (leaf true));rw [jE];exact eC _ _
 rintro m i F1 ⟨k,S,rfl,hk,rfl,hbd,hSk,hin,hg1⟩;unfold AJ;refine ⟨λhlt=> ?_,λhge=> ?_⟩
 ·have hkT:k<(aF t).length:=by omega
  obtain ⟨hck,vv,lo',hi',hget,hlo,hhi,hok,_⟩:=zg hT k hkT;have hlo2:=dc hlo;have hhi2:=dc hhi;rw [<- lL hlo,T6] at hlo2;rw [<- lL hhi,T6] at hhi2;have inl:inn (aF t) lo':=by rw [<- U4 k (aF t)];exact bB hlo
  have inh:inn (aF t) hi':=by rw [<- U4 k (aF t)];exact bB hhi
  obtain ⟨a,ha,hrow,_⟩:=rdb (hr'.le (l6.trans hbd.le)) (gX hget);refine ⟨a,ha,by omega,hlt,aR (br (aF t) (node vv lo' hi')),rfl,by simpa using hrow,?_⟩;intro b10 hb10;refine atI ?_;refine stW (ak _ _ _) rfl rfl (f8 _) ?_;rw [aX];have hE10:E b10=none:=aQ hbd.le hb10;have bd2:=(hbd.grow (F:=F1.set b10 (.cells (aR (br (aF t) (node vv lo' hi'))) 124)) (ae _ hb10) hb10 (ak _ _ _));have n10:g≠b10:=aE hb10 hg1;have qg2:(F1.set b10 (.cells (aR (br (aF t) (node vv lo' hi'))) 124)) g=some (.cells (fxA w x (aF t) S k).toArray 3):=by rw [au _ _ n10];exact hg1
  have c10:∀G:PH,(F1.set b10 (.cells (aR (br (aF t) (node vv lo' hi'))) 124)).le G->G b10=some (.cells (aR (br (aF t) (node vv lo' hi'))) 124):=λG hG=>hG _ _ (ak _ _ _);have e10:=ak E b10 (.cells (aR (br (aF t) (node vv lo' hi'))) 124);have lE:E.le (E.set b10 (.cells (aR (br (aF t) (node vv lo' hi'))) 124)):=ae _ hE10;have Eg2:(E.set b10 (.cells (aR (br (aF t) (node vv lo' hi'))) 124)) g=none:=by rw [au _ _ n10];exact Eg
  generalize F1.set b10 (.cells (aR (br (aF t) (node vv lo' hi'))) 124)=F2 at*;generalize E.set b10 (.cells (aR (br (aF t) (node vv lo' hi'))) 124)=E2 at*;have h10:=bd2.le _ _ e10;have trl:=gm hT inl;have trh:=gm hT inh;have hnl:(fxA w x (aF t) S k)[num (aF t) lo']? =some (vi (num S (fx w x lo'))):=by rw [u6 (by omega) (by omega),trl]
  have hnh:(fxA w x (aF t) S k)[num (aF t) hi']? =some (vi (num S (fx w x hi'))):=by rw [u6 (by omega) (by omega),trh]
  have il:inn S (fx w x lo'):=by have:=hin (num (aF t) lo') (by omega);rwa [trl] at this
  have ih:inn S (fx w x hi'):=by have:=hin (num (aF t) hi') (by omega);rwa [trh] at this
  have hk2:tr (aF t) (k+2)=node vv lo' hi':=by unfold tr;rw [if_neg (by omega),if_neg (by omega),Nat.add_sub_cancel,Un,hget];rfl
  obtain ⟨o1,o2,o3,o4,o5,o6⟩:=hok;obtain ⟨p1,p2,_⟩:=dq w x o5;obtain ⟨r1,r2,_⟩:=dq w x o6;have hfx:=u0 (w:=w) (b:=x) (v:=vv) (l:=lo') (h:=hi') ⟨o1,o2,o3,o4,o5,o6⟩;have rest:∀A B:Tr,inn S A->inn S B->vv<A.top->vv<B.top->fx w x (node vv lo' hi')=mk vv A B->∀{R:Value->Ψ} {N:Ω},
    (∀F',(∃S',BD E F' bb mm S'/\S'.length<=k+1/\(∀j,j<k+1+2->inn S' (fx w x (tr (aF t) j)))/\F' g=some (.cells (fxA w x (aF t) S' (k+1)).toArray 3))->N ((k+1:Nat):Int) F')->
    lh N w x b3 b6 (some ⟨bb,0,none⟩) ⟨some ⟨g,0,none⟩,(aF t).length+2,(aF t).length+2⟩ k b10 s (num S A) (num S B) R F2:=by
   intro A B hA hB tA tB hAB R N hN;unfold lh;refine ⟨_,by rw [am h10];rfl,?_⟩;have bd3:=bd2.pin qg2 (by decide) (by decide);refine (nU bd3 hA hB ⟨o1,tA,tB⟩ (by omega)).mono ?_;rintro _ F3 ⟨rfl,bd4⟩;have qg4:=bd4.le _ _ (ak E2 g (.cells (fxA w x (aF t) S k).toArray 3));have bd5:BD E2 F3 bb mm (dk S (mk vv A B)):=bd4.weaken (av PH.le_rfl Eg2);have hw3:IntKind.i64.wrap ((k:Int)+2)=((k+2:Nat):Int):=by rw [aP (by omega) (by omega)];omega
   have hw4:IntKind.i64.wrap ((k:Int)+1)=((k+1:Nat):Int):=iL (by omega);rw [hw3,hw4];refine ⟨_,rfl,_,rfl,by omega,by simp only;omega,?_⟩;refine oz (b:=g) (o:=k+2) (by simp;omega) qg4 (by simp [fxA];omega) ?_;rw [List.setIfInBounds_toArray];have hnum:∀{u:Tr},inn S u->inn (dk S (mk vv A B)) u/\num (dk S (mk vv A B)) u=num S u:=λ{u} hu=>by
    unfold dk;split
    ·exact ⟨hu,rfl⟩
    ·exact ⟨bB hu,bG hu⟩
   have hinT:inn (dk S (mk vv A B)) (mk vv A B):=by
    unfold dk;split
    ·assumption
    ·exact .inr (by simp)
   have hst:=Fx (w:=w) (b:=x) (T:=aF t) (S:=S) (S':=dk S (mk vv A B)) hkT (λj hj=>(hnum (hin j hj)).2);rw [hk2,hfx,<- hfx,hAB] at hst;rw [hst];refine hN _ ⟨_,((bd5.weaken lE).setCells Eg qg4 (by decide) (by decide)),?_,λj hj=> ?_,ak _ _ _⟩
   ·unfold dk;split
    ·omega
    ·simp only [TQ,TY];omega
   ·by_cases hj2:j<k+2
    ·exact (hnum (hin j hj2)).1
    ·obtain rfl:j=k+2:=by omega
     rw [hk2,hAB];exact hinT
  have done:∀F':PH,(∃S',BD E F' bb mm S'/\S'.length<=k+1/\(∀j,j<k+1+2->inn S' (fx w x (tr (aF t) j)))/\F' g=some (.cells (fxA w x (aF t) S' (k+1)).toArray 3))->
    ∃m',m'<(aF t).length - k/\∃(k':Nat) (S:List Tr),((k+1:Nat):Int)=k'/\k'<=(aF t).length/\m'=(aF t).length - k'/\BD E F' bb mm S/\S.length<=k'/\(∀j,j<k'+2->inn S (fx w x (tr (aF t) j)))/\F' g=some (.cells (fxA w x (aF t) S k').toArray 3):=λF' ⟨S',h1,h2,h3,h4⟩=>
   ⟨(aF t).length - (k+1),by omega,k+1,S',rfl,by omega,rfl,h1,h2,h3,h4⟩
  refine ⟨_,by rw [am h10];rfl,_,rfl,by simp only [br];omega,by simp only [br];omega,vi (num S (fx w x lo')) |> λ_=>(num S (fx w x lo'):Int),by simp only [aC];rw [am qg2];simpa [br] using hnl,
   _,by rw [am h10];rfl,_,rfl,by simp only [br];omega,by simp only [br];omega,(num S (fx w x hi'):Int),by simp only [aC];rw [am qg2];simpa [br] using hnh,_,by rw [am h10];rfl,λhv=> ?_,λhv=> ?_⟩
  ·have hvw:vv=w:=by simp only [br] at hv;omega
   rw [if_pos hvw] at hfx;refine ⟨λhx=> ?_,λhx=> ?_⟩
   ·rw [if_pos hx] at hfx;exact rest (fx w x hi') (fx w x hi') ih ih (by omega) (by omega) (by rw [hfx];simp [mk]) done
   ·rw [if_neg (by simp [hx])] at hfx;exact rest (fx w x lo') (fx w x lo') il il (by omega) (by omega) (by rw [hfx];simp [mk]) done
  ·have hvw:¬vv=w:=by simp only [br] at hv;omega
   rw [if_neg hvw] at hfx;exact rest (fx w x lo') (fx w x hi') il ih (by omega) (by omega) hfx done
 ·obtain rfl:k=(aF t).length:=by omega
  unfold AI;have hni:=bx ht;have hnl:=dc hni;have hct:(fxA w x (aF t) S (aF t).length)[num (aF t) t]? =some (vi (num S (fx w x t))):=by rw [u6 (by omega) (by omega),gm hT hni]
  refine ⟨(num (aF t) t:Int),by rw [am (hbd.le _ _ q3)];rfl,_,rfl,by omega,by simp only;omega,(num S (fx w x t):Int),by simp only [aC];rw [am hg1];simpa using hct,?_⟩;have hinf:=hin (num (aF t) t) (by omega);rw [gm hT hni] at hinf;obtain ⟨_,hcl,_,_,⟨sb,hbb,hob,_⟩,_⟩:=id hbd;have h16:=hbd.le _ _ q6;have nbb:bb≠b6:=λe=>by rw [e,h16] at hbb;simp at hbb
  have hob':bW (dp F1 b6) 124 3 sb (aV (brs S)):=hob.keep λa ha=>by obtain ⟨cur,hcur⟩:=hob.elem ha;refine dL (λe=> ?_);rw [e,h16] at hcur;simp at hcur
  refine (gc (ij (b:=bb) (F:=dp F1 b6) (ns:=sb) (by rw [am ((dL nbb).trans hbb)];rfl) hob'.rd hcl hinf (by omega)) h16).mono ?_;rintro _ F2 ⟨u,rfl,⟨G',hu,lG,gG⟩,l2,q2⟩;refine ⟨_,rfl,?_⟩;exact fO (K:=λvres F'=>∃w',Value.agg vres=.agg w'/\DV F' w' (dia (fx w x t))/\F.le F') hu q2 rfl ⟨_,rfl,hu.le (av lG gG),av (l6.trans (hbd.le.trans l2)) f6⟩
end
end Go.Proofs.YtcemhghkipgdiaaGreatDoor
