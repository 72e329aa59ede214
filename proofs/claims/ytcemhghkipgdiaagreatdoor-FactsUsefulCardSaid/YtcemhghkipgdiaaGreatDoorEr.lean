/-
  The diagrams: Least.
-/
import Derived.Test.YtcemhghkipgdiaaGreatDoorEh
import Derived.Test.YtcemhghkipgdiaaGreatDoorGdiagram
namespace Go.Proofs.YtcemhghkipgdiaaGreatDoor
open Go Go.Proofs.Tryz Tr
set_option maxRecDepth 10000
def ti (t:Tr):List Tr:=leaf false::leaf true::aO t
theorem mK {t x:Tr} (h:inn (aO t) x):x∈ti t:=by
 unfold ti;cases x with
 |leaf b=>cases b<;>simp
 |node v l r=>simp [cC h rfl]
noncomputable def apL (o:Op3) (a b d:Tr):List Tr:=(ti a).flatMap λx=>(ti b).flatMap λy=>(ti d).map λz=>ap o x y z
theorem yy (o:Op3) (a b d:Tr):(apL o a b d).length=((aO a).length+2)*(((aO b).length+2)*((aO d).length+2)):=by unfold apL;simp only [List.length_flatMap,Tu,List.map_const',List.sum_replicate_nat];simp [ti]
theorem LC {o:Op3} {a b d:Tr} (ha:a.ok) (hb:b.ok) (hd:d.ok):∀(n:Nat) (x y z:Tr) (S:List Tr),x.sz+y.sz+z.sz<=n->inn (aO a) x->inn (aO b) y->inn (aO d) z->Cl S->
  ∀u∈vis (ap o x y z) S,u∈S\/u∈apL o a b d:=by
 intro n;induction n with
 |zero=>intro x y z S hn;have:=i6 x;omega
 |succ n ih=>
  intro x y z S hn hx hy hz hS u hu;have kx:=(bu ha).inn_ok hx;have ky:=(bu hb).inn_ok hy;have kz:=(bu hd).inn_ok hz;have hmem:ap o x y z∈apL o a b d:=U3.2 ⟨x,mK hx,U3.2 ⟨y,mK hy,Tw.2 ⟨z,mK hz,rfl⟩⟩⟩;by_cases hv:aV x y z<64
  ·have hst:=uq (o:=o) kx ky kz hv;have v1:aV x y z<=x.top:=by unfold aV;omega
   have v2:aV x y z<=y.top:=by unfold aV;omega
   have v3:aV x y z<=z.top:=by unfold aV;omega
   have hcase:aV x y z=x.top\/aV x y z=y.top\/aV x y z=z.top:=by unfold aV;omega
   generalize aV x y z=v at*;have nl:∀{t:Tr},v=t.top->t.isL=false:=λ{t} e=>by
    cases t with
    |leaf b=>simp only [top] at e;omega
    |node _ _ _=>rfl
   obtain ⟨al1,al2,al3,al4,al5⟩:=bF kx v1;obtain ⟨bl1,bl2,bl3,bl4,bl5⟩:=bF ky v2;obtain ⟨dl1,dl2,dl3,dl4,dl5⟩:=bF kz v3;obtain ⟨ah1,ah2,ah3,ah4,ah5⟩:=bG kx v1;obtain ⟨bh1,bh2,bh3,bh4,bh5⟩:=bG ky v2;obtain ⟨dh1,dh2,dh3,dh4,dh5⟩:=bG kz v3;have hsl:(lo v x).sz+(lo v y).sz+(lo v z).sz<=n:=by
    rcases hcase with e|e|e
    ·have:=al4 e.symm (nl e);omega
    ·have:=bl4 e.symm (nl e);omega
    ·have:=dl4 e.symm (nl e);omega
   have hsh:(hi v x).sz+(hi v y).sz+(hi v z).sz<=n:=by
    rcases hcase with e|e|e
    ·have:=ah4 e.symm (nl e);omega
    ·have:=bh4 e.symm (nl e);omega
    ·have:=dh4 e.symm (nl e);omega
   obtain ⟨l1,l2,l3⟩:=eV (o:=o) al1 bl1 dl1;obtain ⟨g1,g2,g3⟩:=eV (o:=o) ah1 bh1 dh1;have l2':v<(ap o (lo v x) (lo v y) (lo v z)).top:=by have:=al2 hv;have:=bl2 hv;have:=dl2 hv;unfold aV at l2;omega
   have g2':v<(ap o (hi v x) (hi v y) (hi v z)).top:=by have:=ah2 hv;have:=bh2 hv;have:=dh2 hv;unfold aV at g2;omega
   have hadd:=qE hS (v:=v) ⟨hv,l2',g2',l1,g1⟩;rw [<- hst] at hadd;rw [<- hadd] at hu;have c1:=(bo _ S l1 hS).1;have key:u∈vis (ap o (hi v x) (hi v y) (hi v z)) (vis (ap o (lo v x) (lo v y) (lo v z)) S)->u∈S\/u∈apL o a b d:=λhu=>by
    rcases ih _ _ _ _ hsh ((bu ha).inn_hi hx v) ((bu hb).inn_hi hy v) ((bu hd).inn_hi hz v) c1 u hu with h|h
    ·exact ih _ _ _ _ hsl ((bu ha).inn_lo hx v) ((bu hb).inn_lo hy v) ((bu hd).inn_lo hz v) hS u h
    ·exact .inr h
   unfold eY at hu;split at hu
   ·exact key hu
   ·rcases Tm.1 hu with hu|hu
    ·exact key hu
    ·rw [Ti.1 hu];exact .inr hmem
  ·have isl:∀{t:Tr},t.ok->64<=t.top->∃b,t=leaf b:=λ{t} ht h64=>fZ ht h64;unfold aV at hv;obtain ⟨p,rfl⟩:=isl kx (by omega);obtain ⟨q,rfl⟩:=isl ky (by omega);obtain ⟨r,rfl⟩:=isl kz (by omega);rw [kQ] at hu;exact .inl hu
theorem Cg {o:Op3} {a b d:Tr} (ha:a.ok) (hb:b.ok) (hd:d.ok):(aO (ap o a b d)).length<=((aO a).length+2)*(((aO b).length+2)*((aO d).length+2)):=by
 rw [<- yy o a b d];refine dx _ _ (bu (Df ha hb hd)).nodup λx hx=> ?_;rcases LC ha hb hd _ a b d [] (Tj _) (bH ha) (bH hb) (bH hd) .nil x hx with h|h
 ·cases h
 ·exact h
def lj {α:Type} (a b c:α):Nat->α
 |0=>a
 |1=>b
 |_=>c
theorem fV {F:PH} {b e1:Nat} {c4:Γ} {K:Γ->Ψ} {G:PH} {d:Dia} {cs:Γ} (hd:DV G cs d) (h4:F b=some (.cells c4 e1 (0,0))) (hc4:c4.size=2) (hk:K cs (F.set b (.cells cs e1))):
  cs.size=2/\(∀v∈cs.toList,al v)/\∃c e,F (Addr.mk b 0 none).block=some (.cells c e (0,0))/\(Addr.mk b 0 none).spot=none/\(Addr.mk b 0 none).off+2<=c.size/\
   atF (F.set (Addr.mk b 0 none).block (.cells (wr c (Addr.mk b 0 none).off cs.toList) e)) λF=>∃vres:Γ,vres.size=2/\F.row (Addr.mk b 0 none) vres/\K vres F:=
 stW h4 hd.size hc4 hd.st ⟨cs,hd.size,ac (ak _ _ _),hk⟩
theorem OpV.cells {F:PH} {v:Value} {o:Op3} (h:OpV F v o):v.cells= #[v]:=by obtain ⟨k,f,c,rfl,_⟩:=h;rfl
def dH (F:PH) (a:Nat):PH:=λx=>if x=a then none else F x
theorem AA (F:PH) (a:Nat):(dH F a).le F:=λx o h=>by
 unfold dH at h;split at h
 ·cases h
 ·exact h
theorem eT {F:PH} {a x:Nat} (h:x≠a):dH F a x=F x:=by simp [dH,h]
theorem yz (F:PH) (a:Nat):dH F a a=none:=by simp [dH]
theorem eC {F G:PH} {a:Nat} (h:F.le G) (ha:F a=none):F.le (dH G a):=λx o hx=>by
 have h1:x≠a:=λe=>by rw [e,ha] at hx;cases hx
 rw [eT h1];exact h _ _ hx
theorem aj.avoid {P:Program} {f:FuncId} {args:Γ} {F:PH} {x:Nat} {o:Obj} {R:Value->Ψ} (h:aj P f args (dH F x) R) (hx:F x=some o):
  aj P f args F λv F'=>∃G,R v G/\G.le F'/\F' x=some o/\G x=none:=
 (h.upon (AA F x)).mono λv F' ⟨G,hr,hl,hb⟩=>by obtain ⟨h1,h2⟩:=hb x o (yz F x) hx;exact ⟨G,hr,hl,h1,h2⟩
theorem gK {F G F':PH} {x:Nat} {o:Obj} (h:(dH F x).le G) (hl:G.le F') (hx:F' x=some o) (hF:F x=some o):F.le F':=λb ob hb=>by
 by_cases hbx:b=x
 ·subst hbx;rw [hF] at hb;rw [hx];exact hb
 ·exact hl _ _ (h _ _ (by rw [eT hbx];exact hb))
section
variable {F:PH} {s0 s1 s2:Sl} {t0 t1 t2:Tr} {opv:Value} {o:Op3}
theorem uI (h0:RdS F s0 3 (aW (dia t0).1)) (h1:RdS F s1 3 (aW (dia t1).1)) (h2:RdS F s2 3 (aW (dia t2).1)) (k0:t0.ok) (k1:t1.ok) (k2:t2.ok)
  (f0:Fit ((aO t0).length+2)) (f1:Fit ((aO t1).length+2)) (f2:Fit ((aO t2).length+2)) (hf:Fit ((aO (ap o t0 t1 t2)).length+4)) (hop:OpV F opv o):
  aj prog 127 #[.agg #[s0.v,vi (dia t0).2,s1.v,vi (dia t1).2,s2.v,vi (dia t2).2],opv] F λr F'=>∃w,r=.agg w/\DV F' w (dia (ap o t0 t1 t2))/\F.le F':=by
 refine N0 ?_;unfold Ja;intro b2 hb2;refine atI ?_;have l2:=ae (.cells #[s0.v,vi (dia t0).2,s1.v,vi (dia t1).2,s2.v,vi (dia t2).2] 169) hb2;have q2:=ak F b2 (.cells #[s0.v,vi (dia t0).2,s1.v,vi (dia t1).2,s2.v,vi (dia t2).2] 169);generalize F.set b2 (.cells #[s0.v,vi (dia t0).2,s1.v,vi (dia t1).2,s2.v,vi (dia t2).2] 169)=F2 at*;refine ⟨hop.cells,λb3 hb3=> ?_⟩;refine atI ?_;have lx:=ae (.cells #[opv] 170) hb3;have q3:=ak F2 b3 (.cells #[opv] 170);replace q2:=lx _ _ q2;have l3:=l2.trans lx;clear lx;generalize F2.set b3 (.cells #[opv] 170)=F3 at*;intro b4 hb4;refine atI ?_;have f4:F b4=none:=aS l3 hb4;have lx:=ae (.cells zD 31) hb4;have q4:=ak F3 b4 (.cells zD 31);replace q2:=lx _ _ q2;replace q3:=lx _ _ q3;have l4:=l3.trans lx;clear lx;generalize F3.set b4 (.cells zD 31)=F4 at*;refine (ox F4).mono ?_;rintro _ G ⟨bb,mm,rfl,hne,bd⟩;refine ⟨_,rfl,?_⟩;intro b5 hb5;refine atI ?_;refine st1 (ak _ _ _) (by simp) ?_;rw [ba,show (#[Value.pointer none].setIfInBounds (Addr.mk b5 0 none).off (Value.pointer (some ⟨bb,0,none⟩)):Γ)= #[Value.pointer (some ⟨bb,0,none⟩)] from rfl];have g5:F4 b5=none:=aS bd.le hb5;have bd5:=bd.grow (F:=G.set b5 (.cells #[Value.pointer (some ⟨bb,0,none⟩)] 196)) (ae _ hb5) hb5 (ak _ _ _);have e5:=ak F4 b5 (.cells #[Value.pointer (some ⟨bb,0,none⟩)] 196);have l5:=ae (.cells #[Value.pointer (some ⟨bb,0,none⟩)] 196) g5;generalize F4.set b5 (.cells #[Value.pointer (some ⟨bb,0,none⟩)] 196)=E5 at*;generalize G.set b5 (.cells #[Value.pointer (some ⟨bb,0,none⟩)] 196)=G5 at*;intro b9 hb9;refine atI ?_;have bd9:=bd5.upto (ae (.map #[] 0) hb9);have g9:E5 b9=none:=aS bd5.le hb9;have hmo:=dG.empty Ht;have e9:=ak G5 b9 (.map #[] 0);have hnm:mm≠b9:=by obtain ⟨om,hom,_⟩:=bd5.map;exact aE hb9 hom
 generalize G5.set b9 (.map #[] 0)=G9 at*;intro b6 hb6;refine atI ?_;refine st1 (ak _ _ _) (by simp) ?_;rw [ba,show (#[Value.map none].setIfInBounds (Addr.mk b6 0 none).off (Value.map (some b9)):Γ)= #[Value.map (some b9)] from rfl];intro b7 hb7;refine atI ?_;refine st1 (ak _ _ _) (by simp) ?_;rw [ba]
 let p:AP:=⟨b3,b6,b2,b7,b5,bb,mm,b9,opv,o,lj (dia t0) (dia t1) (dia t2),lj (aO t0) (aO t1) (aO t2)⟩
 have hs0:AS E5 G9 p []:=⟨bd9,g9,hnm,_,_,e9,hmo,λk v hkv=>by cases hkv⟩;have hs1:=hs0.grow (F:=G9.set b6 (.cells #[Value.map (some b9)] 213)) (ae _ hb6) hb6 (ak _ _ _);have hs2:=hs1.grow (F:=(G9.set b6 (.cells #[Value.map (some b9)] 213)).set b7 (.cells #[.func (.func 173) #[] p.caps] 214)) (ae _ hb7) hb7 (ak _ _ _);have g6:E5 b6=none:=aS bd9.le hb6;have g7:(E5.set b6 (.cells #[Value.map (some b9)] 213)) b7=none:=aS hs1.bd.le hb7;have l6:=ae (.cells #[Value.map (some b9)] 213) g6;have l7:=ae (.cells #[.func (.func 173) #[] p.caps] 214) g7;have e6:=l7 _ _ (ak E5 b6 (.cells #[Value.map (some b9)] 213));have e7:=ak (E5.set b6 (.cells #[Value.map (some b9)] 213)) b7 (.cells #[.func (.func 173) #[] p.caps] 214);have lE:F4.le ((E5.set b6 (.cells #[Value.map (some b9)] 213)).set b7 (.cells #[.func (.func 173) #[] p.caps] 214)):=l5.trans (l6.trans l7);replace e5:=(l6.trans l7) _ _ e5;rw [show (#[Value.nilFunc].setIfInBounds 0 (Value.func (.func 173) #[] #[.pointer (some ⟨b3,0,none⟩),.pointer (some ⟨b6,0,none⟩),.pointer (some ⟨b2,0,none⟩),.pointer (some ⟨b7,0,none⟩),.pointer (some ⟨b5,0,none⟩)]):Γ)= #[.func (.func 173) #[] p.caps] from rfl];generalize (E5.set b6 (.cells #[Value.map (some b9)] 213)).set b7 (.cells #[.func (.func 173) #[] p.caps] 214)=E7 at*;generalize (G9.set b6 (.cells #[Value.map (some b9)] 213)).set b7 (.cells #[.func (.func 173) #[] p.caps] 214)=G7 at*;have lF:=l4.trans lE;have he:AE E7 p:=by
  refine ⟨?_,?_,λi hi=> ?_,?_,?_,hop.le lF⟩
  ·show E7.cell ⟨b3,0,none⟩=some opv;rw [am (lE _ _ q3)];rfl
  ·show E7.cell ⟨b6,0,none⟩=some _;rw [am e6];rfl
  ·have row:∀(j:Nat) (s:Sl) (r:Int),(#[s0.v,vi (dia t0).2,s1.v,vi (dia t1).2,s2.v,vi (dia t2).2]:Γ)[j]? =some s.v->(#[s0.v,vi (dia t0).2,s1.v,vi (dia t1).2,s2.v,vi (dia t2).2]:Γ)[j+1]? =some (vi r)->
     E7.row ⟨b2,j,none⟩ #[s.v,vi r]:=λj s r h1 h2 i hi=>by
    simp only [aC];rw [am (lE _ _ q2)]
    match i,hi with
    |0,_=>simpa using h1
    |1,_=>simpa using h2
   match i,hi with
   |0,_=>exact ⟨_,row 0 s0 _ rfl rfl,s0,rfl,h0.le lF⟩
   |1,_=>exact ⟨_,row 2 s1 _ rfl rfl,s1,rfl,h1.le lF⟩
   |2,_=>exact ⟨_,row 4 s2 _ rfl rfl,s2,rfl,h2.le lF⟩
  ·show E7.cell ⟨b7,0,none⟩=some _;rw [am e7];rfl
  ·show E7.cell ⟨b5,0,none⟩=some _;rw [am e5];rfl
 have hfa:AF p:=by
  refine ⟨λi hi=> ?_,λi hi=> ?_,λi hi=> ?_⟩
  ·match i,hi with
   |0,_=>exact bu k0
   |1,_=>exact bu k1
   |2,_=>exact bu k2
  ·match i,hi with
   |0,_=>exact Uh _
   |1,_=>exact Uh _
   |2,_=>exact Uh _
  ·match i,hi with
   |0,_=>show Fit ((brs (aO t0)).length+2);rw [aL];exact f0
   |1,_=>show Fit ((brs (aO t1)).length+2);rw [aL];exact f1
   |2,_=>show Fit ((brs (aO t2)).length+2);rw [aL];exact f2
 have q2':=hs2.bd.le _ _ (lE _ _ q2)
 refine ⟨_,aG hs2.bd.le he.c5,_,aG hs2.bd.le he.c7,by omega,by omega,(dia t0).2,by simp only [aC];rw [am q2'];rfl,by omega,by omega,(dia t1).2,by simp only [aC];rw [am q2'];rfl,
  by omega,by omega,(dia t2).2,by simp only [aC];rw [am q2'];rfl,_,_,_,rfl,Ei,?_⟩
 have hres:p.res (lj t0 t1 t2)=ap o t0 t1 t2:=rfl;have hat:=Hq hfa _ (lj t0 t1 t2) (Tj _) ⟨bH k0,bH k1,bH k2⟩ E7 G7 [] he hs2 (by rw [hres];exact hf);rw [hres] at hat;refine hat.mono ?_;rintro _ F5 ⟨rfl,hs3⟩;have q2'':=hs3.bd.le _ _ (lE _ _ q2);refine ⟨_,rfl,by simp only [aC];rw [am q2''];rfl,by simp only [aC];rw [am q2''];rfl,by simp only [aC];rw [am q2''];rfl,aG hs3.bd.le he.c5,?_⟩;have hkT:=Df (o:=o) k0 k1 k2;obtain ⟨_,hcl,_,_,⟨sb,hbb,hob,_⟩,_⟩:=hs3.bd;have hle3:=hs3.bd.le;clear hs3;have ev:vis (ap o t0 t1 t2) []=aO (ap o t0 t1 t2):=rfl;rw [ev] at*;have h45:=hle3 _ _ (lE _ _ q4);replace hbb:F5 bb=some (.cells #[sb.v,Value.map (some mm)] 199):=hbb;have nbb:bb≠b4:=λe=>by rw [e,h45] at hbb;simp at hbb
 have hob':cf (dH F5 b4) 124 3 sb (aW (brs (aO (ap o t0 t1 t2)))):=hob.keep λa ha=>by obtain ⟨cur,hcur⟩:=hob.elem ha;refine eT (λe=> ?_);rw [e,h45] at hcur;cases hcur
 refine (aj.avoid (lr (b:=bb) (F:=dH F5 b4) (ns:=sb) (by rw [am ((eT nbb).trans hbb)];rfl) hob'.rd hcl (bH hkT) hf) h45).mono ?_;rintro _ F6 ⟨G6,⟨w,rfl,hw,l6'⟩,lg,h46,hg4⟩;have l56:=gK l6' lg h46 h45;have q2f:=l56 _ _ q2'';refine ⟨_,rfl,by simp only [aC];rw [am q2f];rfl,by simp only [aC];rw [am q2f];rfl,by simp only [aC];rw [am q2f];rfl,?_⟩;exact fV (K:=λvres F'=>∃w,Value.agg vres=.agg w/\DV F' w (dia (ap o t0 t1 t2))/\F.le F') hw h46 rfl ⟨w,rfl,hw.le (aw lg hg4),aw (lF.trans (hle3.trans l56)) f4⟩
end
abbrev nR:Dia:=([],0)
abbrev DR:=Dia×Int
noncomputable def km:List Dia->Int
 |[]=>0
 |d::r=>if chk d≠0 then chk d else km r
open Classical in
noncomputable def tre (d:Dia):Tr:=if h:iD d then h.choose else leaf false
theorem fD {t:Tr} (h:t.ok):tre (dia t)=t:=by have hv:iD (dia t):=⟨t,h,rfl⟩;unfold tre;rw [dif_pos hv];exact (oL h hv.choose_spec.1 hv.choose_spec.2).symm
theorem Ec {d:Dia} (h:chk d=0):(tre d).ok/\d=dia (tre d)/\d.1.length<=4096:=by
 unfold chk at h;split at h
 ·cases h
 ·rename_i hl;split at h
  ·rename_i hv;unfold tre;rw [dif_pos hv];exact ⟨hv.choose_spec.1,hv.choose_spec.2,by omega⟩
  ·cases h
theorem AB {t:Tr} (h:t.ok) (hl:(aO t).length<=4096):chk (dia t)=0:=by unfold chk;rw [if_neg (by simp only [dia,aL];omega),if_pos ⟨t,h,rfl⟩]
theorem ln {d:Dia} (h:chk d=0):(aO (tre d)).length<=4096:=by obtain ⟨_,h2,h3⟩:=Ec h;rw [h2] at h3;simpa [dia,aL] using h3
def lim (d:Dia):DR:=if 4096<d.1.length then (nR,2) else (d,0)
abbrev Op2:=Bool->Bool->Bool
noncomputable def bin (o:Op2) (a b:Dia):DR:=if km [a,b]≠0 then (nR,km [a,b]) else lim (dia (ap (λx y _=>o x y) (tre a) (tre b) (leaf false)))
def DRV (F:PH) (v:Value) (x:DR):Prop:=∃w,v=.tuple #[.agg w,vi x.2]/\DV F w x.1
theorem DRV.le {F G:PH} {v:Value} {x:DR} (h:DRV F v x) (hl:F.le G):DRV G v x:=by obtain ⟨w,h1,h2⟩:=h;exact ⟨w,h1,h2.le hl⟩
theorem DV.none (F:PH):DV F zD nR:=⟨Sl.nil,rfl,RdS.nil F 3⟩
theorem nS {F:PH} {x:Nat} {dd:List Dia} {n:Nat} (hn:n=dd.length) (hs:n<=100) (h:∀i (hi:i<dd.length),∃w,F.row ⟨x,i*2,none⟩ w/\DV F w dd[i]):
  aj prog 95 #[(Sl.mk (some ⟨x,0,none⟩) n n).v] F λr F'=>r=vi (km dd)/\F.le F':=by
 subst hn;refine RI ?_;unfold NW;refine ⟨λm i F'=>∃k:Nat,i=k/\k<=dd.length/\m=dd.length - k/\F.le F'/\km dd=km (dd.drop k),dd.length,⟨0,rfl,by omega,rfl,PH.le_rfl,rfl⟩,?_⟩;rintro m i F1 ⟨k,rfl,hk,rfl,hle,hch⟩;unfold DN;refine ⟨λhlt=> ?_,λhge=> ?_⟩
 ·have hkd:k<dd.length:=by simpa using hlt
  obtain ⟨w,hr,hd⟩:=h k hkd;refine ⟨_,rfl,by omega,hlt,w,hd.size,by simpa using aT hle hr,?_⟩;intro b4 hb4;refine atI ?_;refine stW (ak _ _ _) hd.size rfl hd.st ?_;rw [ba];have l4:=ae (.cells w 31) hb4;refine ⟨w,hd.size,ac (ak _ _ _),?_⟩;refine (qC (hd.le (hle.trans l4))).mono ?_;rintro _ F2 ⟨rfl,l5⟩;rw [List.drop_eq_getElem_cons hkd] at hch;refine ⟨_,rfl,λhne=> ?_,λhe=> ?_⟩
  ·refine ⟨?_,(hle.trans l4).trans l5⟩;rw [hch];unfold km;rw [if_pos hne]
  ·refine ⟨dd.length - (k+1),by omega,k+1,i9 (by omega),by omega,rfl,(hle.trans l4).trans l5,?_⟩;rw [hch]
   conv=>lhs;unfold km
   rw [if_neg he]
 ·unfold DM;have hk':k=dd.length:=by
   have:¬k<dd.length:=by simpa using hge
   omega
  refine ⟨?_,hle⟩;rw [hch,hk',Ue];rfl
theorem uJ {F:PH} {v:Γ} {d:Dia} (hd:DV F v d):aj prog 126 #[.agg v] F λr F'=>DRV F' r (lim d)/\F.le F':=by
 have hd':=hd;obtain ⟨s,rfl,hr⟩:=hd;have hlen:=hr.blen;refine NZ ?_;unfold I0;intro b1 hb1;refine atI ?_;have l1:=ae (.cells #[s.v,vi d.2] 31) hb1;have h1:=ak F b1 (.cells #[s.v,vi d.2] 31);generalize F.set b1 (.cells #[s.v,vi d.2] 31)=F1 at*;intro b2 hb2;refine atI ?_;have l2:=l1.trans (ae (.cells zD 31) hb2);have n12:b1≠b2:=aE hb2 h1;have f2:F b2=none:=aS l1 hb2;refine ⟨s,by rw [am ((au _ _ n12).trans h1)];rfl,λh=> ?_,λh=> ?_⟩
 ·refine fV (K:=λvres F'=>DRV F' (.tuple #[.agg vres,vi 2]) (lim d)/\F.le F') (DV.none F) (ak _ _ _) rfl ⟨?_,aw l2 f2⟩;unfold lim;rw [if_pos (by omega)];exact ⟨_,rfl,DV.none _⟩
 ·refine ⟨#[s.v,vi d.2],rfl,ac ((au _ _ n12).trans h1),?_⟩;refine fV (K:=λvres F'=>DRV F' (.tuple #[.agg vres,vi 0]) (lim d)/\F.le F') hd' (ak _ _ _) rfl ⟨?_,aw l2 f2⟩;unfold lim;rw [if_neg (by omega)];exact ⟨_,rfl,hd'.le (aw l2 f2)⟩
def Hi (F0:PH) (v:Value) (o:Op2):Prop:=∃(k:Nat) (fst cap:Γ),v=.func (.func k) fst cap/\aB prog k=true/\
 ∀(x y:Bool) (F:PH),F0.le F->aj prog k (fst++[Value.bool x,Value.bool y].toArray++cap) F λr F'=>r=.bool (o x y)/\F.le F'
theorem OG:aB prog 128=true:=by kernel_rfl
theorem Hj {F0:PH} {b:Nat} {v:Value} {o:Op2} (hb:F0.cell ⟨b,0,none⟩=some v) (h:Hi F0 v o):OpV F0 (.func (.func 128) #[] #[.pointer (some ⟨b,0,none⟩)]) (λx y _=>o x y):=by refine ⟨128,#[],#[.pointer (some ⟨b,0,none⟩)],rfl,OG,λx y z F hle=> ?_⟩;obtain ⟨k,fst,cap,rfl,hcb,hsp⟩:=h;refine N7 ?_;unfold Jb;refine ⟨_,rfl,_,aG hle hb,k,fst,cap,rfl,hcb,?_⟩;refine (hsp x y F hle).mono ?_;rintro _ F' ⟨rfl,hl⟩;exact ⟨_,rfl,rfl,hl⟩
theorem Ed {a b c:Nat} (ha:a<=4096) (hb:b<=4096) (hc:c<=4096):(a+2)*((b+2)*(c+2))<=68820189192:=by
 calc (a+2)*((b+2)*(c+2))<=4098*(4098*4098):=Nat.mul_le_mul (by omega) (Nat.mul_le_mul (by omega) (by omega))
  _<=68820189192:=by decide
theorem JB {a b:Dia} (h:¬km [a,b]≠0):chk a=0/\chk b=0:=by
 unfold km at h;split at h
 ·exact absurd (by assumption) h
 ·rename_i ha;unfold km at h;split at h
  ·exact absurd (by assumption) h
  ·rename_i hb;omega
section
variable {F:PH} {v w:Γ} {a b:Dia} {opv:Value} {o:Op2}
theorem nT (ha:DV F v a) (hb:DV F w b) (hop:Hi F opv o):aj prog 77 #[.agg v,.agg w,opv] F λr F'=>DRV F' r (bin o a b)/\F.le F':=by
 have ha':=ha;have hb':=hb;obtain ⟨s,rfl,hr⟩:=ha;obtain ⟨t,rfl,ht⟩:=hb;refine RA ?_;unfold NS;intro b3 hb3;refine atI ?_;have l3:=ae (.cells #[s.v,vi a.2] 31) hb3;have q3:=ak F b3 (.cells #[s.v,vi a.2] 31);generalize F.set b3 (.cells #[s.v,vi a.2] 31)=F3 at*;intro b4 hb4;refine atI ?_;have lx:=ae (.cells #[t.v,vi b.2] 31) hb4;have q4:=ak F3 b4 (.cells #[t.v,vi b.2] 31);replace q3:=lx _ _ q3;have l4:=l3.trans lx;clear lx;generalize F3.set b4 (.cells #[t.v,vi b.2] 31)=F4 at*;refine ⟨by obtain ⟨k,f,c,rfl,_⟩:=hop;rfl,λb5 hb5=> ?_⟩;refine atI ?_;have lx:=ae (.cells #[opv] 121) hb5;have q5:=ak F4 b5 (.cells #[opv] 121);replace q3:=lx _ _ q3;replace q4:=lx _ _ q4;have l5:=l4.trans lx;clear lx;generalize F4.set b5 (.cells #[opv] 121)=F5 at*;intro b6 hb6;refine atI ?_;have f6:F b6=none:=aS l5 hb6;have n3:b3≠b6:=aE hb6 q3;have n4:b4≠b6:=aE hb6 q4;have n5:b5≠b6:=aE hb6 q5;have lx:=ae (.cells zD 31) hb6;have q6:=ak F5 b6 (.cells zD 31);replace q3:=lx _ _ q3;replace q4:=lx _ _ q4;replace q5:=lx _ _ q5;have l6:=l5.trans lx;clear lx;generalize F5.set b6 (.cells zD 31)=F6 at*;refine ⟨#[s.v,vi a.2],rfl,ac q3,#[t.v,vi b.2],rfl,ac q4,rfl,rfl,λb11 hb11=> ?_⟩;refine atI ?_;have e11:wr (wr (#[Value.slice none 0 0,vi 0,Value.slice none 0 0,vi 0]:Γ) 0 (#[s.v,vi a.2]:Γ).toList) 2 (#[t.v,vi b.2]:Γ).toList= #[s.v,vi a.2,t.v,vi b.2]:=rfl;rw [e11];have lx:=ae (.cells #[s.v,vi a.2,t.v,vi b.2] 31) hb11;have q11:=ak F6 b11 (.cells #[s.v,vi a.2,t.v,vi b.2] 31);replace q3:=lx _ _ q3;replace q4:=lx _ _ q4;replace q5:=lx _ _ q5;replace q6:=lx _ _ q6;have l11:=l6.trans lx;clear lx;generalize F6.set b11 (.cells #[s.v,vi a.2,t.v,vi b.2] 31)=F7 at*;refine (nS (F:=F7) (x:=b11) (dd:=[a,b]) (n:=2) rfl (by omega) (λi hi=> ?_)).mono ?_
 ·have row:∀(j:Nat) (s':Sl) (r:Int),(#[s.v,vi a.2,t.v,vi b.2]:Γ)[j]? =some s'.v->(#[s.v,vi a.2,t.v,vi b.2]:Γ)[j+1]? =some (vi r)->F7.row ⟨b11,j,none⟩ #[s'.v,vi r]:=λj s' r h1 h2 i hi=>by
   simp only [aC];rw [am q11]
   match i,hi with
   |0,_=>simpa using h1
   |1,_=>simpa using h2
  match i,hi with
  |0,_=>exact ⟨_,row 0 s _ rfl rfl,ha'.le l11⟩
  |1,_=>exact ⟨_,row 2 t _ rfl rfl,hb'.le l11⟩
 rintro _ F8 ⟨rfl,l8⟩;replace q3:=l8 _ _ q3;replace q4:=l8 _ _ q4;replace q5:=l8 _ _ q5;replace q6:=l8 _ _ q6;replace l8:=l11.trans l8;refine ⟨_,rfl,λh=> ?_,λh=> ?_⟩
 ·refine fV (K:=λvres F'=>DRV F' (.tuple #[.agg vres,vi (km [a,b])]) (bin o a b)/\F.le F') (DV.none F) q6 rfl ⟨?_,aw l8 f6⟩;unfold bin;rw [if_pos h];exact ⟨_,rfl,DV.none _⟩
 ·obtain ⟨hca,hcb⟩:=JB h;obtain ⟨ka,ea,la⟩:=Ec hca;obtain ⟨kb,eb,lb⟩:=Ec hcb;have sa:=ln hca;have sb:=ln hcb;have hlen:=Cg (o:=λx y _=>o x y) ka kb (d:=leaf false) trivial;have hpf:=Ed sa sb (c:=(aO (leaf false)).length) (by simp [aO,vis]);refine ⟨#[s.v,vi a.2],rfl,ac q3,#[t.v,vi b.2],rfl,ac q4,rfl,rfl,rfl,?_⟩;have hbin:bin o a b=lim (dia (ap (λx y _=>o x y) (tre a) (tre b) (leaf false))):=by unfold bin;rw [if_neg h]
  rw [hbin];have ld:F.le (dH F8 b6):=eC l8 f6;have hc:=uI (F:=dH F8 b6) (s0:=s) (s1:=t) (s2:=Sl.nil) (t0:=tre a) (t1:=tre b) (t2:=leaf false) (opv:=.func (.func 128) #[] #[.pointer (some ⟨b5,0,none⟩)]) (o:=λx y _=>o x y)
   (by rw [<- ea];exact hr.le ld) (by rw [<- eb];exact ht.le ld) (RdS.nil _ _) ka kb trivial (by omega) (by omega) (by simp [aO,vis]) (by omega)
   (Hj (b:=b5) (v:=opv) (by rw [am ((eT n5).trans q5)];rfl) (by
    obtain ⟨k,f,c,h1,h2,h3⟩:=hop
    exact ⟨k,f,c,h1,h2,λx y G hG=>h3 x y G (ld.trans hG)⟩))
  rw [<- ea,<- eb] at hc;refine (aj.avoid hc q6).mono ?_;rintro _ F9 ⟨G,⟨w,rfl,hw,lg⟩,lG,q6',g6⟩;have l9:=gK lg lG q6' q6;refine ⟨_,rfl,?_⟩;have hw':DV (dH F9 b6) w (dia (ap (λx y _=>o x y) (tre a) (tre b) (leaf false))):=hw.le (λx ob hx=>by rw [eT (λe=>by rw [e,g6] at hx;cases hx)];exact lG _ _ hx);refine (aj.avoid (uJ hw') q6').mono ?_;rintro _ F10 ⟨G',⟨⟨w',rfl,hw''⟩,lg'⟩,lG',q6'',g6'⟩;have l10:=gK lg' lG' q6'' q6';refine ⟨_,_,rfl,?_⟩;exact fV (K:=λvres F'=>DRV F' (.tuple #[.agg vres,vi _]) (lim (dia (ap (λx y _=>o x y) (tre a) (tre b) (leaf false))))/\F.le F') hw'' q6'' rfl ⟨⟨_,rfl,hw''.le (aw lG' g6')⟩,aw (l8.trans (l9.trans l10)) f6⟩
end
theorem DV.beside {F G:PH} {x:Nat} {w:Γ} {d:Dia} (h:DV G w d) (hl:G.le F) (hx:G x=Option.none):DV (dH F x) w d:=
 h.le λy ob hy=>by rw [eT (λe=>by rw [e,hx] at hy;cases hy)];exact hl _ _ hy
theorem yA {f:FuncId} {args:Γ} {F:PH} {x:Nat} {o:Obj} {y:DR} (h:aj prog f args (dH F x) λr F'=>DRV F' r y/\(dH F x).le F') (hx:F x=some o):
  aj prog f args F λr F'=>∃w,r=.tuple #[.agg w,vi y.2]/\(∃G,DV G w y.1/\G.le F'/\G x=none)/\F.le F'/\F' x=some o:=
 (aj.avoid h hx).mono λr _ ⟨G,⟨⟨w,hr,hw⟩,lg⟩,lG,q,g⟩=>⟨w,hr,⟨G,hw,lG,g⟩,gK lg lG q hx,q⟩
theorem iC {f:FuncId} {args:Γ} {F:PH} {x:Nat} {o:Obj} {d:Dia} (h:aj prog f args (dH F x) λr F'=>∃w,r=.agg w/\DV F' w d/\(dH F x).le F') (hx:F x=some o):
  aj prog f args F λr F'=>∃w,r=.agg w/\(∃G,DV G w d/\G.le F'/\G x=none)/\F.le F'/\F' x=some o:=
 (aj.avoid h hx).mono λr _ ⟨G,⟨w,hr,hw,lg⟩,lG,q,g⟩=>⟨w,hr,⟨G,hw,lG,g⟩,gK lg lG q hx,q⟩
theorem JC {F G F0:PH} {b e1:Nat} {c4:Γ} {y:DR} {w:Γ} (hw:DV G w y.1) (hl:G.le F) (hg:G b=none) (h4:F b=some (.cells c4 e1 (0,0))) (hc4:c4.size=2) (h0:F0.le F) (hb:F0 b=none):
  w.size=2/\(∀v∈w.toList,al v)/\∃c e,F (Addr.mk b 0 none).block=some (.cells c e (0,0))/\(Addr.mk b 0 none).spot=none/\(Addr.mk b 0 none).off+2<=c.size/\
   atF (F.set (Addr.mk b 0 none).block (.cells (wr c (Addr.mk b 0 none).off w.toList) e)) λF=>∃vres:Γ,vres.size=2/\F.row (Addr.mk b 0 none) vres/\DRV F (.tuple #[.agg vres,vi y.2]) y/\F0.le F:=
 fV (K:=λvres F'=>DRV F' (.tuple #[.agg vres,vi y.2]) y/\F0.le F') hw h4 hc4 ⟨⟨_,rfl,hw.le (aw hl hg)⟩,aw h0 hb⟩
theorem LD {F F0:PH} {b e1:Nat} {c4:Γ} {er:Int} (h4:F b=some (.cells c4 e1 (0,0))) (hc4:c4.size=2) (h0:F0.le F) (hb:F0 b=none):
  (zD:Γ).size=2/\(∀v∈(zD:Γ).toList,al v)/\∃c e,F (Addr.mk b 0 none).block=some (.cells c e (0,0))/\(Addr.mk b 0 none).spot=none/\(Addr.mk b 0 none).off+2<=c.size/\
   atF (F.set (Addr.mk b 0 none).block (.cells (wr c (Addr.mk b 0 none).off (zD:Γ).toList) e)) λF=>∃vres:Γ,vres.size=2/\F.row (Addr.mk b 0 none) vres/\DRV F (.tuple #[.agg vres,vi er]) (nR,er)/\F0.le F:=
 fV (K:=λvres F'=>DRV F' (.tuple #[.agg vres,vi er]) (nR,er)/\F0.le F') (DV.none F) h4 hc4 ⟨⟨_,rfl,DV.none _⟩,aw h0 hb⟩
abbrev aX:Op2:=λx y=>x && y
abbrev oOr:Op2:=λx y=>x || y
abbrev ko:Op2:=λx y=> !(x==y)
theorem RT:aB prog 87=true:=by kernel_rfl
theorem RU:aB prog 78=true:=by kernel_rfl
theorem RV (F0:PH):Hi F0 (.func (.func 87) #[] #[]) aX:=⟨87,#[],#[],rfl,RT,λx y F _=>by
 refine RC ?_;unfold NU
 exact ⟨λh=>⟨by simp [h],PH.le_rfl⟩,λh=>⟨by simp [h],PH.le_rfl⟩⟩⟩
theorem RW (F0:PH):Hi F0 (.func (.func 78) #[] #[]) oOr:=⟨78,#[],#[],rfl,RU,λx y F _=>by
 refine RB ?_;unfold NT
 exact ⟨λh=>⟨by simp [h],PH.le_rfl⟩,λh=>⟨by simp [h],PH.le_rfl⟩⟩⟩
section
variable {F:PH} {v w u:Γ} {a b c:Dia}
theorem Ee (ha:DV F v a) (hb:DV F w b):aj prog 35 #[.agg v,.agg w] F λr F'=>DRV F' r (bin aX a b)/\F.le F':=by refine Ry ?_;unfold NQ;intro b2 hb2;refine atI ?_;have l2:=ae (.cells v 31) hb2;have q2:=ak F b2 (.cells v 31);generalize F.set b2 (.cells v 31)=F2 at*;intro b3 hb3;refine atI ?_;have lx:=ae (.cells w 31) hb3;have q3:=ak F2 b3 (.cells w 31);replace q2:=lx _ _ q2;have l3:=l2.trans lx;clear lx;generalize F2.set b3 (.cells w 31)=F3 at*;intro b4 hb4;refine atI ?_;have f4:F b4=none:=aS l3 hb4;have lx:=ae (.cells zD 31) hb4;have q4:=ak F3 b4 (.cells zD 31);replace q2:=lx _ _ q2;replace q3:=lx _ _ q3;have l4:=l3.trans lx;clear lx;generalize F3.set b4 (.cells zD 31)=F4 at*;refine ⟨v,ha.size,ac q2,w,hb.size,ac q3,?_⟩;have ld:=eC l4 f4;refine (yA (nT (ha.le ld) (hb.le ld) (RV _)) q4).mono ?_;rintro _ F5 ⟨z,rfl,⟨G,hz,lG,gG⟩,l5,q5⟩;exact ⟨_,_,rfl,JC hz lG gG q5 rfl (l4.trans l5) f4⟩
theorem Hk (ha:DV F v a) (hb:DV F w b):aj prog 28 #[.agg v,.agg w] F λr F'=>DRV F' r (bin oOr a b)/\F.le F':=by refine Rt ?_;unfold NO;intro b2 hb2;refine atI ?_;have l2:=ae (.cells v 31) hb2;have q2:=ak F b2 (.cells v 31);generalize F.set b2 (.cells v 31)=F2 at*;intro b3 hb3;refine atI ?_;have lx:=ae (.cells w 31) hb3;have q3:=ak F2 b3 (.cells w 31);replace q2:=lx _ _ q2;have l3:=l2.trans lx;clear lx;generalize F2.set b3 (.cells w 31)=F3 at*;intro b4 hb4;refine atI ?_;have f4:F b4=none:=aS l3 hb4;have lx:=ae (.cells zD 31) hb4;have q4:=ak F3 b4 (.cells zD 31);replace q2:=lx _ _ q2;replace q3:=lx _ _ q3;have l4:=l3.trans lx;clear lx;generalize F3.set b4 (.cells zD 31)=F4 at*;refine ⟨v,ha.size,ac q2,w,hb.size,ac q3,?_⟩;have ld:=eC l4 f4;refine (yA (nT (ha.le ld) (hb.le ld) (RW _)) q4).mono ?_;rintro _ F5 ⟨z,rfl,⟨G,hz,lG,gG⟩,l5,q5⟩;exact ⟨_,_,rfl,JC hz lG gG q5 rfl (l4.trans l5) f4⟩
abbrev tv (v:Nat):Tr:=node v (leaf false) (leaf true)
theorem LF (v:Nat):dia (tv v)=([⟨(v:Int),0,1⟩],2):=by
 have e:aO (tv v)=[tv v]:=by simp [aO,vis,tv]
 unfold dia;rw [e];simp [brs,br,num,tv]
theorem qA {v:Nat} (h:v<64):(tv v).ok:=⟨h,h,h,by simp,trivial,trivial⟩
theorem dI (x:Bool):aj prog 27 #[.bool x] F λr F'=>∃w,r=.agg w/\DV F' w (dia (leaf x))/\F.le F':=by
 refine Rs ?_;unfold NN;intro b2 hb2;refine atI ?_;have l2:=ae (.cells zD 31) hb2;have q2:=ak F b2 (.cells zD 31);refine ⟨λh=> ?_,λh=> ?_⟩
 ·subst h;have hd:∀G:PH,DV G #[Value.slice none 0 0,vi 1] (dia (leaf true)):=λG=>⟨Sl.nil,rfl,RdS.nil G 3⟩;exact fV (K:=λvres F'=>∃w,Value.agg vres=.agg w/\DV F' w (dia (leaf true))/\F.le F') (hd F) q2 rfl ⟨_,rfl,hd _,aw l2 hb2⟩
 ·subst h;have hd:∀G:PH,DV G zD (dia (leaf false)):=λG=>⟨Sl.nil,rfl,RdS.nil G 3⟩;exact fV (K:=λvres F'=>∃w,Value.agg vres=.agg w/\DV F' w (dia (leaf false))/\F.le F') (hd F) q2 rfl ⟨_,rfl,hd _,aw l2 hb2⟩
def sc (v:Int):DR:=if v<0\/63<v then (nR,1) else (dia (tv v.toNat),0)
end
section
end
section
variable {F:PH} {v:Γ} {a:Dia}
theorem AC {x:Int} (h1:0<=x) (h2:x<18446744073709551616):IntKind.u64.wrap x=x:=by unfold IntKind.wrap;simp only [IntKind.bits,IntKind.signed];simp only [Bool.false_and,TQ,if_false];omega
end
def lm (n:Nat):Δ:=if h:n=0 then [] else n % 4294967296::lm (n / 4294967296)
termination_by n
decreasing_by exact Nat.div_lt_self (by omega) (by decide)
abbrev RX (l:Δ):Ξ:=l.map λ(x:Nat)=>Value.int .u32 (x:Int)
def NV (F:PH) (s:Sl) (n:Nat):Prop:=RdS F s 1 (RX (lm n))
theorem NV.le {F G:PH} {s:Sl} {n:Nat} (h:NV F s n) (hl:F.le G):NV G s n:=RdS.le h hl
section
end
section
end
def dY (n:Nat):Tr->Prop
 |leaf _=>True
 |node v l h=>v<n/\dY n l/\dY n h
theorem mL {F G:PH} {x:Nat} (h:F.le G):(dH F x).le (dH G x):=λy o hy=>by
 have hne:y≠x:=λe=>by rw [e,yz] at hy;cases hy
 rw [eT hne] at hy ⊢;exact h _ _ hy
section
end
theorem qB {T:List Tr} (hT:Cl T) {n:Nat} (h:∀x∈T,x.top<n):∀(t:Tr),inn T t->dY n t
 |leaf _,_=>trivial
 |node v l r,ht=>by obtain ⟨il,ir⟩:=hT.inn_kids ht;exact ⟨h _ (cC ht rfl),qB hT h l il,qB hT h r ir⟩
section
end
section
end
end Go.Proofs.YtcemhghkipgdiaaGreatDoor
