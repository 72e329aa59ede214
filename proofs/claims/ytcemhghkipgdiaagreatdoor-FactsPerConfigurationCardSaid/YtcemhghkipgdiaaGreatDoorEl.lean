/-
  The diagrams: restrictions.
-/
import Derived.Test.YtcemhghkipgdiaaGreatDoorEh
import Derived.Test.YtcemhghkipgdiaaGreatDoorGdiagram
namespace Go.Proofs.YtcemhghkipgdiaaGreatDoor
open Go Go.Proofs.Tryz Tr
set_option maxRecDepth 10000
def ue (t:Tr):List Tr:=leaf false::leaf true::aL t
theorem nE {t x:Tr} (h:inn (aL t) x):x∈ue t:=by
 unfold ue;cases x with
 |leaf b=>cases b<;>simp
 |node v l r=>simp [cx h rfl]
noncomputable def apL (o:Op3) (a b d:Tr):List Tr:=(ue a).flatMap λx=>(ue b).flatMap λy=>(ue d).map λz=>ap o x y z
theorem zq (o:Op3) (a b d:Tr):(apL o a b d).length=((aL a).length+2)*(((aL b).length+2)*((aL d).length+2)):=by unfold apL;simp only [List.length_flatMap,U6,List.map_const',List.sum_replicate_nat];simp [ue]
theorem M2 {o:Op3} {a b d:Tr} (ha:a.ok) (hb:b.ok) (hd:d.ok):∀(n:Nat) (x y z:Tr) (S:List Tr),x.sz+y.sz+z.sz<=n->inn (aL a) x->inn (aL b) y->inn (aL d) z->Cl S->
  ∀u∈vis (ap o x y z) S,u∈S\/u∈apL o a b d:=by
 intro n;induction n with
 |zero=>intro x y z S hn;have:=kI x;omega
 |succ n ih=>
  intro x y z S hn hx hy hz hS u hu;have kx:=(bv ha).inn_ok hx;have ky:=(bv hb).inn_ok hy;have kz:=(bv hd).inn_ok hz;have hmem:ap o x y z∈apL o a b d:=WJ.2 ⟨x,nE hx,WJ.2 ⟨y,nE hy,U8.2 ⟨z,nE hz,rfl⟩⟩⟩;by_cases hv:aZ x y z<64
  ·have hst:=va (o:=o) kx ky kz hv;have v1:aZ x y z<=x.top:=by unfold aZ;omega
   have v2:aZ x y z<=y.top:=by unfold aZ;omega
   have v3:aZ x y z<=z.top:=by unfold aZ;omega
   have hcase:aZ x y z=x.top\/aZ x y z=y.top\/aZ x y z=z.top:=by unfold aZ;omega
   generalize aZ x y z=v at*;have nl:∀{t:Tr},v=t.top->t.isL=false:=λ{t} e=>by
    cases t with
    |leaf b=>simp only [top] at e;omega
    |node _ _ _=>rfl
   obtain ⟨al1,al2,al3,al4,al5⟩:=cq kx v1;obtain ⟨bl1,bl2,bl3,bl4,bl5⟩:=cq ky v2;obtain ⟨dl1,dl2,dl3,dl4,dl5⟩:=cq kz v3;obtain ⟨ah1,ah2,ah3,ah4,ah5⟩:=cu kx v1;obtain ⟨bh1,bh2,bh3,bh4,bh5⟩:=cu ky v2;obtain ⟨dh1,dh2,dh3,dh4,dh5⟩:=cu kz v3;have hsl:(lo v x).sz+(lo v y).sz+(lo v z).sz<=n:=by
    rcases hcase with e|e|e
    ·have:=al4 e.symm (nl e);omega
    ·have:=bl4 e.symm (nl e);omega
    ·have:=dl4 e.symm (nl e);omega
   have hsh:(hi v x).sz+(hi v y).sz+(hi v z).sz<=n:=by
    rcases hcase with e|e|e
    ·have:=ah4 e.symm (nl e);omega
    ·have:=bh4 e.symm (nl e);omega
    ·have:=dh4 e.symm (nl e);omega
   obtain ⟨l1,l2,l3⟩:=fq (o:=o) al1 bl1 dl1;obtain ⟨g1,g2,g3⟩:=fq (o:=o) ah1 bh1 dh1;have l2':v<(ap o (lo v x) (lo v y) (lo v z)).top:=by have:=al2 hv;have:=bl2 hv;have:=dl2 hv;unfold aZ at l2;omega
   have g2':v<(ap o (hi v x) (hi v y) (hi v z)).top:=by have:=ah2 hv;have:=bh2 hv;have:=dh2 hv;unfold aZ at g2;omega
   have hadd:=lT hS (v:=v) ⟨hv,l2',g2',l1,g1⟩;rw [<- hst] at hadd;rw [<- hadd] at hu;have c1:=(bo _ S l1 hS).1;have key:u∈vis (ap o (hi v x) (hi v y) (hi v z)) (vis (ap o (lo v x) (lo v y) (lo v z)) S)->u∈S\/u∈apL o a b d:=λhu=>by
    rcases ih _ _ _ _ hsh ((bv ha).inn_hi hx v) ((bv hb).inn_hi hy v) ((bv hd).inn_hi hz v) c1 u hu with h|h
    ·exact ih _ _ _ _ hsl ((bv ha).inn_lo hx v) ((bv hb).inn_lo hy v) ((bv hd).inn_lo hz v) hS u h
    ·exact .inr h
   unfold dv at hu;split at hu
   ·exact key hu
   ·rcases UX.1 hu with hu|hu
    ·exact key hu
    ·rw [UU.1 hu];exact .inr hmem
  ·have isl:∀{t:Tr},t.ok->64<=t.top->∃b,t=leaf b:=λ{t} ht h64=>gm ht h64;unfold aZ at hv;obtain ⟨p,rfl⟩:=isl kx (by omega);obtain ⟨q,rfl⟩:=isl ky (by omega);obtain ⟨r,rfl⟩:=isl kz (by omega);rw [lP] at hu;exact .inl hu
theorem Dd {o:Op3} {a b d:Tr} (ha:a.ok) (hb:b.ok) (hd:d.ok):(aL (ap o a b d)).length<=((aL a).length+2)*(((aL b).length+2)*((aL d).length+2)):=by
 rw [<- zq o a b d];refine cY _ _ (bv (EE ha hb hd)).nodup λx hx=> ?_;rcases M2 ha hb hd _ a b d [] (UW _) (bI ha) (bI hb) (bI hd) .nil x hx with h|h
 ·cases h
 ·exact h
def mb {α:Type} (a b c:α):Nat->α
 |0=>a
 |1=>b
 |_=>c
theorem f8 {F:PH} {b e1:Nat} {c4:Γ} {K:Γ->Ψ} {G:PH} {d:Dia} {cs:Γ} (hd:DV G cs d) (h4:F b=some (.cells c4 e1 (0,0))) (hc4:c4.size=2) (hk:K cs (F.set b (.cells cs e1))):
  cs.size=2/\(∀v∈cs.toList,ak v)/\∃c e,F (Addr.mk b 0 none).block=some (.cells c e (0,0))/\(Addr.mk b 0 none).spot=none/\(Addr.mk b 0 none).off+2<=c.size/\
   atF (F.set (Addr.mk b 0 none).block (.cells (wr c (Addr.mk b 0 none).off cs.toList) e)) λF=>∃vres:Γ,vres.size=2/\F.row (Addr.mk b 0 none) vres/\K vres F:=
 stW h4 hd.size hc4 hd.st ⟨cs,hd.size,ac (al _ _ _),hk⟩
theorem OpV.cells {F:PH} {v:Value} {o:Op3} (h:OpV F v o):v.cells= #[v]:=by obtain ⟨k,f,c,rfl,_⟩:=h;rfl
def dz (F:PH) (a:Nat):PH:=λx=>if x=a then none else F x
theorem BO (F:PH) (a:Nat):(dz F a).le F:=λx o h=>by
 unfold dz at h;split at h
 ·cases h
 ·exact h
theorem dX {F:PH} {a x:Nat} (h:x≠a):dz F a x=F x:=by simp [dz,h]
theorem zr (F:PH) (a:Nat):dz F a a=none:=by simp [dz]
theorem dY {F G:PH} {a:Nat} (h:F.le G) (ha:F a=none):F.le (dz G a):=λx o hx=>by
 have h1:x≠a:=λe=>by rw [e,ha] at hx;cases hx
 rw [dX h1];exact h _ _ hx
theorem ai.avoid {P:Program} {f:FuncId} {args:Γ} {F:PH} {x:Nat} {o:Obj} {R:Value->Ψ} (h:ai P f args (dz F x) R) (hx:F x=some o):
  ai P f args F λv F'=>∃G,R v G/\G.le F'/\F' x=some o/\G x=none:=
 (h.upon (BO F x)).mono λv F' ⟨G,hr,hl,hb⟩=>by obtain ⟨h1,h2⟩:=hb x o (zr F x) hx;exact ⟨G,hr,hl,h1,h2⟩
theorem gX {F G F':PH} {x:Nat} {o:Obj} (h:(dz F x).le G) (hl:G.le F') (hx:F' x=some o) (hF:F x=some o):F.le F':=λb ob hb=>by
 by_cases hbx:b=x
 ·subst hbx;rw [hF] at hb;rw [hx];exact hb
 ·exact hl _ _ (h _ _ (by rw [dX hbx];exact hb))
section
variable {F:PH} {s0 s1 s2:Sl} {t0 t1 t2:Tr} {opv:Value} {o:Op3}
theorem vx (h0:RdS F s0 3 (aY (dia t0).1)) (h1:RdS F s1 3 (aY (dia t1).1)) (h2:RdS F s2 3 (aY (dia t2).1)) (k0:t0.ok) (k1:t1.ok) (k2:t2.ok)
  (f0:Fit ((aL t0).length+2)) (f1:Fit ((aL t1).length+2)) (f2:Fit ((aL t2).length+2)) (hf:Fit ((aL (ap o t0 t1 t2)).length+4)) (hop:OpV F opv o):
  ai prog 127 #[.agg #[s0.v,vi (dia t0).2,s1.v,vi (dia t1).2,s2.v,vi (dia t2).2],opv] F λr F'=>∃w,r=.agg w/\DV F' w (dia (ap o t0 t1 t2))/\F.le F':=by
 refine O5 ?_;unfold J7;intro b2 hb2;refine atI ?_;have l2:=ae (.cells #[s0.v,vi (dia t0).2,s1.v,vi (dia t1).2,s2.v,vi (dia t2).2] 169) hb2;have q2:=al F b2 (.cells #[s0.v,vi (dia t0).2,s1.v,vi (dia t1).2,s2.v,vi (dia t2).2] 169);generalize F.set b2 (.cells #[s0.v,vi (dia t0).2,s1.v,vi (dia t1).2,s2.v,vi (dia t2).2] 169)=F2 at*;refine ⟨hop.cells,λb3 hb3=> ?_⟩;refine atI ?_;have lx:=ae (.cells #[opv] 170) hb3;have q3:=al F2 b3 (.cells #[opv] 170);replace q2:=lx _ _ q2;have l3:=l2.trans lx;clear lx;generalize F2.set b3 (.cells #[opv] 170)=F3 at*;intro b4 hb4;refine atI ?_;have f4:F b4=none:=aT l3 hb4;have lx:=ae (.cells zD 31) hb4;have q4:=al F3 b4 (.cells zD 31);replace q2:=lx _ _ q2;replace q3:=lx _ _ q3;have l4:=l3.trans lx;clear lx;generalize F3.set b4 (.cells zD 31)=F4 at*;refine (iS F4).mono ?_;rintro _ G ⟨bb,mm,rfl,hne,bd⟩;refine ⟨_,rfl,?_⟩;intro b5 hb5;refine atI ?_;refine st1 (al _ _ _) (by simp) ?_;rw [bh,show (#[Value.pointer none].setIfInBounds (Addr.mk b5 0 none).off (Value.pointer (some ⟨bb,0,none⟩)):Γ)= #[Value.pointer (some ⟨bb,0,none⟩)] from rfl];have g5:F4 b5=none:=aT bd.le hb5;have bd5:=bd.grow (F:=G.set b5 (.cells #[Value.pointer (some ⟨bb,0,none⟩)] 196)) (ae _ hb5) hb5 (al _ _ _);have e5:=al F4 b5 (.cells #[Value.pointer (some ⟨bb,0,none⟩)] 196);have l5:=ae (.cells #[Value.pointer (some ⟨bb,0,none⟩)] 196) g5;generalize F4.set b5 (.cells #[Value.pointer (some ⟨bb,0,none⟩)] 196)=E5 at*;generalize G.set b5 (.cells #[Value.pointer (some ⟨bb,0,none⟩)] 196)=G5 at*;intro b9 hb9;refine atI ?_;have bd9:=bd5.upto (ae (.map #[] 0) hb9);have g9:E5 b9=none:=aT bd5.le hb9;have hmo:=eH.empty ID;have e9:=al G5 b9 (.map #[] 0);have hnm:mm≠b9:=by obtain ⟨om,hom,_⟩:=bd5.map;exact aJ hb9 hom
 generalize G5.set b9 (.map #[] 0)=G9 at*;intro b6 hb6;refine atI ?_;refine st1 (al _ _ _) (by simp) ?_;rw [bh,show (#[Value.map none].setIfInBounds (Addr.mk b6 0 none).off (Value.map (some b9)):Γ)= #[Value.map (some b9)] from rfl];intro b7 hb7;refine atI ?_;refine st1 (al _ _ _) (by simp) ?_;rw [bh]
 let p:AP:=⟨b3,b6,b2,b7,b5,bb,mm,b9,opv,o,mb (dia t0) (dia t1) (dia t2),mb (aL t0) (aL t1) (aL t2)⟩
 have hs0:AS E5 G9 p []:=⟨bd9,g9,hnm,_,_,e9,hmo,λk v hkv=>by cases hkv⟩;have hs1:=hs0.grow (F:=G9.set b6 (.cells #[Value.map (some b9)] 213)) (ae _ hb6) hb6 (al _ _ _);have hs2:=hs1.grow (F:=(G9.set b6 (.cells #[Value.map (some b9)] 213)).set b7 (.cells #[.func (.func 173) #[] p.caps] 214)) (ae _ hb7) hb7 (al _ _ _);have g6:E5 b6=none:=aT bd9.le hb6;have g7:(E5.set b6 (.cells #[Value.map (some b9)] 213)) b7=none:=aT hs1.bd.le hb7;have l6:=ae (.cells #[Value.map (some b9)] 213) g6;have l7:=ae (.cells #[.func (.func 173) #[] p.caps] 214) g7;have e6:=l7 _ _ (al E5 b6 (.cells #[Value.map (some b9)] 213));have e7:=al (E5.set b6 (.cells #[Value.map (some b9)] 213)) b7 (.cells #[.func (.func 173) #[] p.caps] 214);have lE:F4.le ((E5.set b6 (.cells #[Value.map (some b9)] 213)).set b7 (.cells #[.func (.func 173) #[] p.caps] 214)):=l5.trans (l6.trans l7);replace e5:=(l6.trans l7) _ _ e5;rw [show (#[Value.nilFunc].setIfInBounds 0 (Value.func (.func 173) #[] #[.pointer (some ⟨b3,0,none⟩),.pointer (some ⟨b6,0,none⟩),.pointer (some ⟨b2,0,none⟩),.pointer (some ⟨b7,0,none⟩),.pointer (some ⟨b5,0,none⟩)]):Γ)= #[.func (.func 173) #[] p.caps] from rfl];generalize (E5.set b6 (.cells #[Value.map (some b9)] 213)).set b7 (.cells #[.func (.func 173) #[] p.caps] 214)=E7 at*;generalize (G9.set b6 (.cells #[Value.map (some b9)] 213)).set b7 (.cells #[.func (.func 173) #[] p.caps] 214)=G7 at*;have lF:=l4.trans lE;have he:AE E7 p:=by
  refine ⟨?_,?_,λi hi=> ?_,?_,?_,hop.le lF⟩
  ·show E7.cell ⟨b3,0,none⟩=some opv;rw [am (lE _ _ q3)];rfl
  ·show E7.cell ⟨b6,0,none⟩=some _;rw [am e6];rfl
  ·have row:∀(j:Nat) (s:Sl) (r:Int),(#[s0.v,vi (dia t0).2,s1.v,vi (dia t1).2,s2.v,vi (dia t2).2]:Γ)[j]? =some s.v->(#[s0.v,vi (dia t0).2,s1.v,vi (dia t1).2,s2.v,vi (dia t2).2]:Γ)[j+1]? =some (vi r)->
     E7.row ⟨b2,j,none⟩ #[s.v,vi r]:=λj s r h1 h2 i hi=>by
    simp only [aB];rw [am (lE _ _ q2)]
    match i,hi with
    |0,_=>simpa using h1
    |1,_=>simpa using h2
   match i,hi with
   |0,_=>exact ⟨_,row 0 s0 _ rfl rfl,s0,rfl,h0.le lF⟩
   |1,_=>exact ⟨_,row 2 s1 _ rfl rfl,s1,rfl,h1.le lF⟩
   |2,_=>exact ⟨_,row 4 s2 _ rfl rfl,s2,rfl,h2.le lF⟩
  ·show E7.cell ⟨b7,0,none⟩=some _;rw [am e7];rfl
  ·show E7.cell ⟨b5,0,none⟩=some _;rw [am e5];rfl
 have hfa:AF p:=by
  refine ⟨λi hi=> ?_,λi hi=> ?_,λi hi=> ?_⟩
  ·match i,hi with
   |0,_=>exact bv k0
   |1,_=>exact bv k1
   |2,_=>exact bv k2
  ·match i,hi with
   |0,_=>exact WL _
   |1,_=>exact WL _
   |2,_=>exact WL _
  ·match i,hi with
   |0,_=>show Fit ((brs (aL t0)).length+2);rw [aO];exact f0
   |1,_=>show Fit ((brs (aL t1)).length+2);rw [aO];exact f1
   |2,_=>show Fit ((brs (aL t2)).length+2);rw [aO];exact f2
 have q2':=hs2.bd.le _ _ (lE _ _ q2)
 refine ⟨_,aH hs2.bd.le he.c5,_,aH hs2.bd.le he.c7,by omega,by omega,(dia t0).2,by simp only [aB];rw [am q2'];rfl,by omega,by omega,(dia t1).2,by simp only [aB];rw [am q2'];rfl,
  by omega,by omega,(dia t2).2,by simp only [aB];rw [am q2'];rfl,_,_,_,rfl,FX,?_⟩
 have hres:p.res (mb t0 t1 t2)=ap o t0 t1 t2:=rfl;have hat:=IT hfa _ (mb t0 t1 t2) (UW _) ⟨bI k0,bI k1,bI k2⟩ E7 G7 [] he hs2 (by rw [hres];exact hf);rw [hres] at hat;refine hat.mono ?_;rintro _ F5 ⟨rfl,hs3⟩;have q2'':=hs3.bd.le _ _ (lE _ _ q2);refine ⟨_,rfl,by simp only [aB];rw [am q2''];rfl,by simp only [aB];rw [am q2''];rfl,by simp only [aB];rw [am q2''];rfl,aH hs3.bd.le he.c5,?_⟩;have hkT:=EE (o:=o) k0 k1 k2;obtain ⟨_,hcl,_,_,⟨sb,hbb,hob,_⟩,_⟩:=hs3.bd;have hle3:=hs3.bd.le;clear hs3;have ev:vis (ap o t0 t1 t2) []=aL (ap o t0 t1 t2):=rfl;rw [ev] at*;have h45:=hle3 _ _ (lE _ _ q4);replace hbb:F5 bb=some (.cells #[sb.v,Value.map (some mm)] 199):=hbb;have nbb:bb≠b4:=λe=>by rw [e,h45] at hbb;simp at hbb
 have hob':cf (dz F5 b4) 124 3 sb (aY (brs (aL (ap o t0 t1 t2)))):=hob.keep λa ha=>by obtain ⟨cur,hcur⟩:=hob.elem ha;refine dX (λe=> ?_);rw [e,h45] at hcur;cases hcur
 refine (ai.avoid (iE (b:=bb) (F:=dz F5 b4) (ns:=sb) (by rw [am ((dX nbb).trans hbb)];rfl) hob'.rd hcl (bI hkT) hf) h45).mono ?_;rintro _ F6 ⟨G6,⟨w,rfl,hw,l6'⟩,lg,h46,hg4⟩;have l56:=gX l6' lg h46 h45;have q2f:=l56 _ _ q2'';refine ⟨_,rfl,by simp only [aB];rw [am q2f];rfl,by simp only [aB];rw [am q2f];rfl,by simp only [aB];rw [am q2f];rfl,?_⟩;exact f8 (K:=λvres F'=>∃w,Value.agg vres=.agg w/\DV F' w (dia (ap o t0 t1 t2))/\F.le F') hw h46 rfl ⟨w,rfl,hw.le (aw lg hg4),aw (lF.trans (hle3.trans l56)) f4⟩
end
abbrev iT:Dia:=([],0)
abbrev DR:=Dia×Int
noncomputable def me:List Dia->Int
 |[]=>0
 |d::r=>if chk d≠0 then chk d else me r
open Classical in
noncomputable def tre (d:Dia):Tr:=if h:iU d then h.choose else leaf false
theorem dJ {t:Tr} (h:t.ok):tre (dia t)=t:=by have hv:iU (dia t):=⟨t,h,rfl⟩;unfold tre;rw [dif_pos hv];exact (pq h hv.choose_spec.1 hv.choose_spec.2).symm
theorem FO {d:Dia} (h:chk d=0):(tre d).ok/\d=dia (tre d)/\d.1.length<=4096:=by
 unfold chk at h;split at h
 ·cases h
 ·rename_i hl;split at h
  ·rename_i hv;unfold tre;rw [dif_pos hv];exact ⟨hv.choose_spec.1,hv.choose_spec.2,by omega⟩
  ·cases h
theorem pG {t:Tr} (h:t.ok) (hl:(aL t).length<=4096):chk (dia t)=0:=by unfold chk;rw [if_neg (by simp only [dia,aO];omega),if_pos ⟨t,h,rfl⟩]
theorem mh {d:Dia} (h:chk d=0):(aL (tre d)).length<=4096:=by obtain ⟨_,h2,h3⟩:=FO h;rw [h2] at h3;simpa [dia,aO] using h3
def lim (d:Dia):DR:=if 4096<d.1.length then (iT,2) else (d,0)
abbrev Op2:=Bool->Bool->Bool
noncomputable def bin (o:Op2) (a b:Dia):DR:=if me [a,b]≠0 then (iT,me [a,b]) else lim (dia (ap (λx y _=>o x y) (tre a) (tre b) (leaf false)))
def DRV (F:PH) (v:Value) (x:DR):Prop:=∃w,v=.tuple #[.agg w,vi x.2]/\DV F w x.1
theorem DRV.le {F G:PH} {v:Value} {x:DR} (h:DRV F v x) (hl:F.le G):DRV G v x:=by obtain ⟨w,h1,h2⟩:=h;exact ⟨w,h1,h2.le hl⟩
theorem DV.none (F:PH):DV F zD iT:=⟨Sl.nil,rfl,RdS.nil F 3⟩
theorem xN {F:PH} {x:Nat} {dd:List Dia} {n:Nat} (hn:n=dd.length) (hs:n<=100) (h:∀i (hi:i<dd.length),∃w,F.row ⟨x,i*2,none⟩ w/\DV F w dd[i]):
  ai prog 95 #[(Sl.mk (some ⟨x,0,none⟩) n n).v] F λr F'=>r=vi (me dd)/\F.le F':=by
 subst hn;refine Tu ?_;unfold O1;refine ⟨λm i F'=>∃k:Nat,i=k/\k<=dd.length/\m=dd.length - k/\F.le F'/\me dd=me (dd.drop k),dd.length,⟨0,rfl,by omega,rfl,PH.le_rfl,rfl⟩,?_⟩;rintro m i F1 ⟨k,rfl,hk,rfl,hle,hch⟩;unfold EP;refine ⟨λhlt=> ?_,λhge=> ?_⟩
 ·have hkd:k<dd.length:=by simpa using hlt
  obtain ⟨w,hr,hd⟩:=h k hkd;refine ⟨_,rfl,by omega,hlt,w,hd.size,by simpa using bJ hle hr,?_⟩;intro b4 hb4;refine atI ?_;refine stW (al _ _ _) hd.size rfl hd.st ?_;rw [bh];have l4:=ae (.cells w 31) hb4;refine ⟨w,hd.size,ac (al _ _ _),?_⟩;refine (iF (hd.le (hle.trans l4))).mono ?_;rintro _ F2 ⟨rfl,l5⟩;rw [List.drop_eq_getElem_cons hkd] at hch;refine ⟨_,rfl,λhne=> ?_,λhe=> ?_⟩
  ·refine ⟨?_,(hle.trans l4).trans l5⟩;rw [hch];unfold me;rw [if_pos hne]
  ·refine ⟨dd.length - (k+1),by omega,k+1,i6 (by omega),by omega,rfl,(hle.trans l4).trans l5,?_⟩;rw [hch]
   conv=>lhs;unfold me
   rw [if_neg he]
 ·unfold EO;have hk':k=dd.length:=by
   have:¬k<dd.length:=by simpa using hge
   omega
  refine ⟨?_,hle⟩;rw [hch,hk',VO];rfl
theorem mi {F:PH} {v:Γ} {d:Dia} (hd:DV F v d):ai prog 126 #[.agg v] F λr F'=>DRV F' r (lim d)/\F.le F':=by
 have hd':=hd;obtain ⟨s,rfl,hr⟩:=hd;have hlen:=hr.blen;refine O4 ?_;unfold J6;intro b1 hb1;refine atI ?_;have l1:=ae (.cells #[s.v,vi d.2] 31) hb1;have h1:=al F b1 (.cells #[s.v,vi d.2] 31);generalize F.set b1 (.cells #[s.v,vi d.2] 31)=F1 at*;intro b2 hb2;refine atI ?_;have l2:=l1.trans (ae (.cells zD 31) hb2);have n12:b1≠b2:=aJ hb2 h1;have f2:F b2=none:=aT l1 hb2;refine ⟨s,by rw [am ((av _ _ n12).trans h1)];rfl,λh=> ?_,λh=> ?_⟩
 ·refine f8 (K:=λvres F'=>DRV F' (.tuple #[.agg vres,vi 2]) (lim d)/\F.le F') (DV.none F) (al _ _ _) rfl ⟨?_,aw l2 f2⟩;unfold lim;rw [if_pos (by omega)];exact ⟨_,rfl,DV.none _⟩
 ·refine ⟨#[s.v,vi d.2],rfl,ac ((av _ _ n12).trans h1),?_⟩;refine f8 (K:=λvres F'=>DRV F' (.tuple #[.agg vres,vi 0]) (lim d)/\F.le F') hd' (al _ _ _) rfl ⟨?_,aw l2 f2⟩;unfold lim;rw [if_neg (by omega)];exact ⟨_,rfl,hd'.le (aw l2 f2)⟩
def IK (F0:PH) (v:Value) (o:Op2):Prop:=∃(k:Nat) (fst cap:Γ),v=.func (.func k) fst cap/\aE prog k=true/\
 ∀(x y:Bool) (F:PH),F0.le F->ai prog k (fst++[Value.bool x,Value.bool y].toArray++cap) F λr F'=>r=.bool (o x y)/\F.le F'
theorem Qu:aE prog 128=true:=by kernel_rfl
theorem IL {F0:PH} {b:Nat} {v:Value} {o:Op2} (hb:F0.cell ⟨b,0,none⟩=some v) (h:IK F0 v o):OpV F0 (.func (.func 128) #[] #[.pointer (some ⟨b,0,none⟩)]) (λx y _=>o x y):=by refine ⟨128,#[],#[.pointer (some ⟨b,0,none⟩)],rfl,Qu,λx y z F hle=> ?_⟩;obtain ⟨k,fst,cap,rfl,hcb,hsp⟩:=h;refine O6 ?_;unfold J8;refine ⟨_,rfl,_,aH hle hb,k,fst,cap,rfl,hcb,?_⟩;refine (hsp x y F hle).mono ?_;rintro _ F' ⟨rfl,hl⟩;exact ⟨_,rfl,rfl,hl⟩
theorem FP {a b c:Nat} (ha:a<=4096) (hb:b<=4096) (hc:c<=4096):(a+2)*((b+2)*(c+2))<=68820189192:=by
 calc (a+2)*((b+2)*(c+2))<=4098*(4098*4098):=Nat.mul_le_mul (by omega) (Nat.mul_le_mul (by omega) (by omega))
  _<=68820189192:=by decide
theorem Qv {a b:Dia} (h:¬me [a,b]≠0):chk a=0/\chk b=0:=by
 unfold me at h;split at h
 ·exact absurd (by assumption) h
 ·rename_i ha;unfold me at h;split at h
  ·exact absurd (by assumption) h
  ·rename_i hb;omega
section
variable {F:PH} {v w:Γ} {a b:Dia} {opv:Value} {o:Op2}
theorem oF (ha:DV F v a) (hb:DV F w b) (hop:IK F opv o):ai prog 77 #[.agg v,.agg w,opv] F λr F'=>DRV F' r (bin o a b)/\F.le F':=by
 have ha':=ha;have hb':=hb;obtain ⟨s,rfl,hr⟩:=ha;obtain ⟨t,rfl,ht⟩:=hb;refine Tq ?_;unfold OY;intro b3 hb3;refine atI ?_;have l3:=ae (.cells #[s.v,vi a.2] 31) hb3;have q3:=al F b3 (.cells #[s.v,vi a.2] 31);generalize F.set b3 (.cells #[s.v,vi a.2] 31)=F3 at*;intro b4 hb4;refine atI ?_;have lx:=ae (.cells #[t.v,vi b.2] 31) hb4;have q4:=al F3 b4 (.cells #[t.v,vi b.2] 31);replace q3:=lx _ _ q3;have l4:=l3.trans lx;clear lx;generalize F3.set b4 (.cells #[t.v,vi b.2] 31)=F4 at*;refine ⟨by obtain ⟨k,f,c,rfl,_⟩:=hop;rfl,λb5 hb5=> ?_⟩;refine atI ?_;have lx:=ae (.cells #[opv] 121) hb5;have q5:=al F4 b5 (.cells #[opv] 121);replace q3:=lx _ _ q3;replace q4:=lx _ _ q4;have l5:=l4.trans lx;clear lx;generalize F4.set b5 (.cells #[opv] 121)=F5 at*;intro b6 hb6;refine atI ?_;have f6:F b6=none:=aT l5 hb6;have n3:b3≠b6:=aJ hb6 q3;have n4:b4≠b6:=aJ hb6 q4;have n5:b5≠b6:=aJ hb6 q5;have lx:=ae (.cells zD 31) hb6;have q6:=al F5 b6 (.cells zD 31);replace q3:=lx _ _ q3;replace q4:=lx _ _ q4;replace q5:=lx _ _ q5;have l6:=l5.trans lx;clear lx;generalize F5.set b6 (.cells zD 31)=F6 at*;refine ⟨#[s.v,vi a.2],rfl,ac q3,#[t.v,vi b.2],rfl,ac q4,rfl,rfl,λb11 hb11=> ?_⟩;refine atI ?_;have e11:wr (wr (#[Value.slice none 0 0,vi 0,Value.slice none 0 0,vi 0]:Γ) 0 (#[s.v,vi a.2]:Γ).toList) 2 (#[t.v,vi b.2]:Γ).toList= #[s.v,vi a.2,t.v,vi b.2]:=rfl;rw [e11];have lx:=ae (.cells #[s.v,vi a.2,t.v,vi b.2] 31) hb11;have q11:=al F6 b11 (.cells #[s.v,vi a.2,t.v,vi b.2] 31);replace q3:=lx _ _ q3;replace q4:=lx _ _ q4;replace q5:=lx _ _ q5;replace q6:=lx _ _ q6;have l11:=l6.trans lx;clear lx;generalize F6.set b11 (.cells #[s.v,vi a.2,t.v,vi b.2] 31)=F7 at*;refine (xN (F:=F7) (x:=b11) (dd:=[a,b]) (n:=2) rfl (by omega) (λi hi=> ?_)).mono ?_
 ·have row:∀(j:Nat) (s':Sl) (r:Int),(#[s.v,vi a.2,t.v,vi b.2]:Γ)[j]? =some s'.v->(#[s.v,vi a.2,t.v,vi b.2]:Γ)[j+1]? =some (vi r)->F7.row ⟨b11,j,none⟩ #[s'.v,vi r]:=λj s' r h1 h2 i hi=>by
   simp only [aB];rw [am q11]
   match i,hi with
   |0,_=>simpa using h1
   |1,_=>simpa using h2
  match i,hi with
  |0,_=>exact ⟨_,row 0 s _ rfl rfl,ha'.le l11⟩
  |1,_=>exact ⟨_,row 2 t _ rfl rfl,hb'.le l11⟩
 rintro _ F8 ⟨rfl,l8⟩;replace q3:=l8 _ _ q3;replace q4:=l8 _ _ q4;replace q5:=l8 _ _ q5;replace q6:=l8 _ _ q6;replace l8:=l11.trans l8;refine ⟨_,rfl,λh=> ?_,λh=> ?_⟩
 ·refine f8 (K:=λvres F'=>DRV F' (.tuple #[.agg vres,vi (me [a,b])]) (bin o a b)/\F.le F') (DV.none F) q6 rfl ⟨?_,aw l8 f6⟩;unfold bin;rw [if_pos h];exact ⟨_,rfl,DV.none _⟩
 ·obtain ⟨hca,hcb⟩:=Qv h;obtain ⟨ka,ea,la⟩:=FO hca;obtain ⟨kb,eb,lb⟩:=FO hcb;have sa:=mh hca;have sb:=mh hcb;have hlen:=Dd (o:=λx y _=>o x y) ka kb (d:=leaf false) trivial;have hpf:=FP sa sb (c:=(aL (leaf false)).length) (by simp [aL,vis]);refine ⟨#[s.v,vi a.2],rfl,ac q3,#[t.v,vi b.2],rfl,ac q4,rfl,rfl,rfl,?_⟩;have hbin:bin o a b=lim (dia (ap (λx y _=>o x y) (tre a) (tre b) (leaf false))):=by unfold bin;rw [if_neg h]
  rw [hbin];have ld:F.le (dz F8 b6):=dY l8 f6;have hc:=vx (F:=dz F8 b6) (s0:=s) (s1:=t) (s2:=Sl.nil) (t0:=tre a) (t1:=tre b) (t2:=leaf false) (opv:=.func (.func 128) #[] #[.pointer (some ⟨b5,0,none⟩)]) (o:=λx y _=>o x y)
   (by rw [<- ea];exact hr.le ld) (by rw [<- eb];exact ht.le ld) (RdS.nil _ _) ka kb trivial (by omega) (by omega) (by simp [aL,vis]) (by omega)
   (IL (b:=b5) (v:=opv) (by rw [am ((dX n5).trans q5)];rfl) (by
    obtain ⟨k,f,c,h1,h2,h3⟩:=hop
    exact ⟨k,f,c,h1,h2,λx y G hG=>h3 x y G (ld.trans hG)⟩))
  rw [<- ea,<- eb] at hc;refine (ai.avoid hc q6).mono ?_;rintro _ F9 ⟨G,⟨w,rfl,hw,lg⟩,lG,q6',g6⟩;have l9:=gX lg lG q6' q6;refine ⟨_,rfl,?_⟩;have hw':DV (dz F9 b6) w (dia (ap (λx y _=>o x y) (tre a) (tre b) (leaf false))):=hw.le (λx ob hx=>by rw [dX (λe=>by rw [e,g6] at hx;cases hx)];exact lG _ _ hx);refine (ai.avoid (mi hw') q6').mono ?_;rintro _ F10 ⟨G',⟨⟨w',rfl,hw''⟩,lg'⟩,lG',q6'',g6'⟩;have l10:=gX lg' lG' q6'' q6';refine ⟨_,_,rfl,?_⟩;exact f8 (K:=λvres F'=>DRV F' (.tuple #[.agg vres,vi _]) (lim (dia (ap (λx y _=>o x y) (tre a) (tre b) (leaf false))))/\F.le F') hw'' q6'' rfl ⟨⟨_,rfl,hw''.le (aw lG' g6')⟩,aw (l8.trans (l9.trans l10)) f6⟩
end
theorem DV.beside {F G:PH} {x:Nat} {w:Γ} {d:Dia} (h:DV G w d) (hl:G.le F) (hx:G x=Option.none):DV (dz F x) w d:=
 h.le λy ob hy=>by rw [dX (λe=>by rw [e,hx] at hy;cases hy)];exact hl _ _ hy
theorem vy {f:FuncId} {args:Γ} {F:PH} {x:Nat} {o:Obj} {y:DR} (h:ai prog f args (dz F x) λr F'=>DRV F' r y/\(dz F x).le F') (hx:F x=some o):
  ai prog f args F λr F'=>∃w,r=.tuple #[.agg w,vi y.2]/\(∃G,DV G w y.1/\G.le F'/\G x=none)/\F.le F'/\F' x=some o:=
 (ai.avoid h hx).mono λr _ ⟨G,⟨⟨w,hr,hw⟩,lg⟩,lG,q,g⟩=>⟨w,hr,⟨G,hw,lG,g⟩,gX lg lG q hx,q⟩
theorem gr {f:FuncId} {args:Γ} {F:PH} {x:Nat} {o:Obj} {d:Dia} (h:ai prog f args (dz F x) λr F'=>∃w,r=.agg w/\DV F' w d/\(dz F x).le F') (hx:F x=some o):
  ai prog f args F λr F'=>∃w,r=.agg w/\(∃G,DV G w d/\G.le F'/\G x=none)/\F.le F'/\F' x=some o:=
 (ai.avoid h hx).mono λr _ ⟨G,⟨w,hr,hw,lg⟩,lG,q,g⟩=>⟨w,hr,⟨G,hw,lG,g⟩,gX lg lG q hx,q⟩
theorem FQ {F G F0:PH} {b e1:Nat} {c4:Γ} {y:DR} {w:Γ} (hw:DV G w y.1) (hl:G.le F) (hg:G b=none) (h4:F b=some (.cells c4 e1 (0,0))) (hc4:c4.size=2) (h0:F0.le F) (hb:F0 b=none):
  w.size=2/\(∀v∈w.toList,ak v)/\∃c e,F (Addr.mk b 0 none).block=some (.cells c e (0,0))/\(Addr.mk b 0 none).spot=none/\(Addr.mk b 0 none).off+2<=c.size/\
   atF (F.set (Addr.mk b 0 none).block (.cells (wr c (Addr.mk b 0 none).off w.toList) e)) λF=>∃vres:Γ,vres.size=2/\F.row (Addr.mk b 0 none) vres/\DRV F (.tuple #[.agg vres,vi y.2]) y/\F0.le F:=
 f8 (K:=λvres F'=>DRV F' (.tuple #[.agg vres,vi y.2]) y/\F0.le F') hw h4 hc4 ⟨⟨_,rfl,hw.le (aw hl hg)⟩,aw h0 hb⟩
theorem zt {F F0:PH} {b e1:Nat} {c4:Γ} {er:Int} (h4:F b=some (.cells c4 e1 (0,0))) (hc4:c4.size=2) (h0:F0.le F) (hb:F0 b=none):
  (zD:Γ).size=2/\(∀v∈(zD:Γ).toList,ak v)/\∃c e,F (Addr.mk b 0 none).block=some (.cells c e (0,0))/\(Addr.mk b 0 none).spot=none/\(Addr.mk b 0 none).off+2<=c.size/\
   atF (F.set (Addr.mk b 0 none).block (.cells (wr c (Addr.mk b 0 none).off (zD:Γ).toList) e)) λF=>∃vres:Γ,vres.size=2/\F.row (Addr.mk b 0 none) vres/\DRV F (.tuple #[.agg vres,vi er]) (iT,er)/\F0.le F:=
 f8 (K:=λvres F'=>DRV F' (.tuple #[.agg vres,vi er]) (iT,er)/\F0.le F') (DV.none F) h4 hc4 ⟨⟨_,rfl,DV.none _⟩,aw h0 hb⟩
abbrev bj:Op2:=λx y=>x && y
abbrev oOr:Op2:=λx y=>x || y
abbrev kQ:Op2:=λx y=> !(x==y)
theorem TN:aE prog 87=true:=by kernel_rfl
theorem TO:aE prog 78=true:=by kernel_rfl
theorem TQ (F0:PH):IK F0 (.func (.func 87) #[] #[]) bj:=⟨87,#[],#[],rfl,TN,λx y F _=>by
 refine Tt ?_;unfold O0
 exact ⟨λh=>⟨by simp [h],PH.le_rfl⟩,λh=>⟨by simp [h],PH.le_rfl⟩⟩⟩
theorem TR (F0:PH):IK F0 (.func (.func 78) #[] #[]) oOr:=⟨78,#[],#[],rfl,TO,λx y F _=>by
 refine Ts ?_;unfold OZ
 exact ⟨λh=>⟨by simp [h],PH.le_rfl⟩,λh=>⟨by simp [h],PH.le_rfl⟩⟩⟩
section
variable {F:PH} {v w u:Γ} {a b c:Dia}
theorem FR (ha:DV F v a) (hb:DV F w b):ai prog 35 #[.agg v,.agg w] F λr F'=>DRV F' r (bin bj a b)/\F.le F':=by refine To ?_;unfold OW;intro b2 hb2;refine atI ?_;have l2:=ae (.cells v 31) hb2;have q2:=al F b2 (.cells v 31);generalize F.set b2 (.cells v 31)=F2 at*;intro b3 hb3;refine atI ?_;have lx:=ae (.cells w 31) hb3;have q3:=al F2 b3 (.cells w 31);replace q2:=lx _ _ q2;have l3:=l2.trans lx;clear lx;generalize F2.set b3 (.cells w 31)=F3 at*;intro b4 hb4;refine atI ?_;have f4:F b4=none:=aT l3 hb4;have lx:=ae (.cells zD 31) hb4;have q4:=al F3 b4 (.cells zD 31);replace q2:=lx _ _ q2;replace q3:=lx _ _ q3;have l4:=l3.trans lx;clear lx;generalize F3.set b4 (.cells zD 31)=F4 at*;refine ⟨v,ha.size,ac q2,w,hb.size,ac q3,?_⟩;have ld:=dY l4 f4;refine (vy (oF (ha.le ld) (hb.le ld) (TQ _)) q4).mono ?_;rintro _ F5 ⟨z,rfl,⟨G,hz,lG,gG⟩,l5,q5⟩;exact ⟨_,_,rfl,FQ hz lG gG q5 rfl (l4.trans l5) f4⟩
theorem IM (ha:DV F v a) (hb:DV F w b):ai prog 28 #[.agg v,.agg w] F λr F'=>DRV F' r (bin oOr a b)/\F.le F':=by refine Tm ?_;unfold OU;intro b2 hb2;refine atI ?_;have l2:=ae (.cells v 31) hb2;have q2:=al F b2 (.cells v 31);generalize F.set b2 (.cells v 31)=F2 at*;intro b3 hb3;refine atI ?_;have lx:=ae (.cells w 31) hb3;have q3:=al F2 b3 (.cells w 31);replace q2:=lx _ _ q2;have l3:=l2.trans lx;clear lx;generalize F2.set b3 (.cells w 31)=F3 at*;intro b4 hb4;refine atI ?_;have f4:F b4=none:=aT l3 hb4;have lx:=ae (.cells zD 31) hb4;have q4:=al F3 b4 (.cells zD 31);replace q2:=lx _ _ q2;replace q3:=lx _ _ q3;have l4:=l3.trans lx;clear lx;generalize F3.set b4 (.cells zD 31)=F4 at*;refine ⟨v,ha.size,ac q2,w,hb.size,ac q3,?_⟩;have ld:=dY l4 f4;refine (vy (oF (ha.le ld) (hb.le ld) (TR _)) q4).mono ?_;rintro _ F5 ⟨z,rfl,⟨G,hz,lG,gG⟩,l5,q5⟩;exact ⟨_,_,rfl,FQ hz lG gG q5 rfl (l4.trans l5) f4⟩
abbrev tv (v:Nat):Tr:=node v (leaf false) (leaf true)
theorem M3 (v:Nat):dia (tv v)=([⟨(v:Int),0,1⟩],2):=by
 have e:aL (tv v)=[tv v]:=by simp [aL,vis,tv]
 unfold dia;rw [e];simp [brs,br,num,tv]
theorem rn {v:Nat} (h:v<64):(tv v).ok:=⟨h,h,h,by simp,trivial,trivial⟩
theorem di (x:Bool):ai prog 27 #[.bool x] F λr F'=>∃w,r=.agg w/\DV F' w (dia (leaf x))/\F.le F':=by
 refine Tj ?_;unfold OT;intro b2 hb2;refine atI ?_;have l2:=ae (.cells zD 31) hb2;have q2:=al F b2 (.cells zD 31);refine ⟨λh=> ?_,λh=> ?_⟩
 ·subst h;have hd:∀G:PH,DV G #[Value.slice none 0 0,vi 1] (dia (leaf true)):=λG=>⟨Sl.nil,rfl,RdS.nil G 3⟩;exact f8 (K:=λvres F'=>∃w,Value.agg vres=.agg w/\DV F' w (dia (leaf true))/\F.le F') (hd F) q2 rfl ⟨_,rfl,hd _,aw l2 hb2⟩
 ·subst h;have hd:∀G:PH,DV G zD (dia (leaf false)):=λG=>⟨Sl.nil,rfl,RdS.nil G 3⟩;exact f8 (K:=λvres F'=>∃w,Value.agg vres=.agg w/\DV F' w (dia (leaf false))/\F.le F') (hd F) q2 rfl ⟨_,rfl,hd _,aw l2 hb2⟩
def sU (v:Int):DR:=if v<0\/63<v then (iT,1) else (dia (tv v.toNat),0)
end
theorem ro (c:Cf) {v w:Nat} (h:v≠w) (b:Bool):(c.set w b) v=c v:=by simp [Cf.set,h]
theorem FS (w:Nat) (b:Bool):∀(t:Tr),t.ok->∃u:Tr,u.ok/\t.top<=u.top/\∀c,u.ev c=t.ev (c.set w b)
 |leaf x,_=>⟨leaf x,trivial,UW _,λ_=>rfl⟩
 |node v l h,⟨h0,h1,h2,h3,h4,h5⟩=>by
  obtain ⟨ul,l1,l2,l3⟩:=FS w b l h4;obtain ⟨uh,g1,g2,g3⟩:=FS w b h h5;by_cases hv:v=w
  ·subst hv;cases b with
   |true=>exact ⟨uh,g1,by show v<=uh.top;omega,λc=>by rw [g3];simp [Tr.ev,Cf.set]⟩
   |false=>exact ⟨ul,l1,by show v<=ul.top;omega,λc=>by rw [l3];simp [Tr.ev,Cf.set]⟩
  ·refine ⟨mk v ul uh,tY h0 (by omega) (by omega) l1 g1,(show v<=(mk v ul uh).top from ED (by omega)),λc=> ?_⟩;rw [Bh,l3,g3];simp only [Tr.ev,ro c hv b]
noncomputable def fx (w:Nat) (b:Bool) (t:Tr):Tr:=can λc=>t.ev (c.set w b)
theorem dC (w:Nat) (b:Bool) {t:Tr} (ht:t.ok):(fx w b t).ok/\t.top<=(fx w b t).top/\∀c,(fx w b t).ev c=t.ev (c.set w b):=by obtain ⟨u,h1,h2,h3⟩:=FS w b t ht;have:fx w b t=u:=iv h1 h3;rw [this];exact ⟨h1,h2,h3⟩
theorem jW (w:Nat) (b x:Bool):fx w b (leaf x)=leaf x:=iv trivial λ_=>rfl
theorem vz {w:Nat} {b:Bool} {v:Nat} {l h:Tr} (hk:(node v l h).ok):fx w b (node v l h)=if v=w then (if b=true then fx w b h else fx w b l) else mk v (fx w b l) (fx w b h):=by
 obtain ⟨h0,h1,h2,h3,h4,h5⟩:=hk;obtain ⟨l1,l2,l3⟩:=dC w b h4;obtain ⟨g1,g2,g3⟩:=dC w b h5;by_cases hv:v=w
 ·subst hv;rw [if_pos rfl];cases b with
  |true=>exact iv g1 λc=>by rw [if_pos rfl,g3];simp [Tr.ev,Cf.set]
  |false=>exact iv l1 λc=>by rw [if_neg (by simp),l3];simp [Tr.ev,Cf.set]
 ·rw [if_neg hv];refine iv (tY h0 (by omega) (by omega) l1 g1) λc=> ?_;rw [Bh,l3,g3];simp only [Tr.ev,ro c hv b]
theorem BD.pin {F0 F:PH} {b m x:Nat} {c:Γ} {e:TypeId} {fr:Nat×Nat} {S:List Tr} (h:BD F0 F b m S) (hx:F x=some (.cells c e fr)) (h1:e≠199) (h2:e≠124):BD (F0.set x (.cells c e fr)) F b m S:=by
 obtain ⟨k1,k2,k3,k4,⟨s,k5,k6,k7⟩,o',k8,k9⟩:=h;refine ⟨λy oy hy=> ?_,k2,?_,?_,⟨s,k5,k6,λa ha=> ?_⟩,o',k8,k9⟩
 ·by_cases hyx:y=x
  ·subst hyx;rw [al] at hy;rw [hx];exact hy
  ·rw [av _ _ hyx] at hy;exact k1 _ _ hy
 ·rw [av _ _ (λe'=>by rw [e',hx] at k5;simp at k5;exact h1 k5.2.1)];exact k3
 ·rw [av _ _ (λe'=>by
   obtain ⟨es,cl,L,rfl,_⟩:=k9
   rw [e',hx] at k8;simp at k8)];exact k4
 ·obtain ⟨cur,hcur⟩:=k6.elem ha;rw [av _ _ (λe'=>by rw [e',hx] at hcur;simp at hcur;exact h2 hcur.2.1)];exact k7 a ha
theorem BD.setCells {F0 F:PH} {b m x:Nat} {c:Γ} {e:TypeId} {fr:Nat×Nat} {o:Obj} {S:List Tr} (h:BD F0 F b m S) (h0:F0 x=none) (hx:F x=some (.cells c e fr)) (h1:e≠199) (h2:e≠124):BD F0 (F.set x o) b m S:=by
 obtain ⟨k1,k2,k3,k4,⟨s,k5,k6,k7⟩,o',k8,k9⟩:=h;refine ⟨aw k1 h0,k2,k3,k4,⟨s,?_,k6.keep λa ha=>av _ _ (λe'=> ?_),k7⟩,o',?_,k9⟩
 ·rw [av _ _ (λe'=>by rw [e',hx] at k5;simp at k5;exact h1 k5.2.1)];exact k5
 ·obtain ⟨cur,hcur⟩:=k6.elem ha;rw [e',hx] at hcur;simp at hcur;exact h2 hcur.2.1
 ·rw [av _ _ (λe'=>by
   obtain ⟨es,cl,L,rfl,_⟩:=k9
   rw [e',hx] at k8;simp at k8)];exact k8
noncomputable def fxA (w:Nat) (b:Bool) (T S:List Tr) (k:Nat):Ξ:=(List.range (T.length+2)).map λj=>if j<k+2 then vi (num S (fx w b (tr T j))) else vi 0
theorem vA {w:Nat} {b:Bool} {T S:List Tr} {k j:Nat} (h:j<k+2) (hk:k<=T.length):(fxA w b T S k)[j]? =some (vi (num S (fx w b (tr T j)))):=by unfold fxA;rw [U5,Vy (by omega)];simp [h]
theorem FT (w:Nat) (b:Bool) (T:List Tr):(List.replicate (T.length+2) (vi 0)).set 1 (vi 1)=fxA w b T [] 0:=by
 apply VI;intro j;unfold fxA;rw [U5,V6];have h0:tr T 0=leaf false:=rfl;have h1:tr T 1=leaf true:=rfl;by_cases hj:j<T.length+2
 ·rw [Vy hj];simp only [VD,List.length_replicate,List.getElem?_replicate]
  match j,hj with
  |0,_=>simp [h0,jW,num]
  |1,_=>simp [h1,jW,num]
  |j+2,hj=>rw [if_neg (by omega),if_pos hj,if_neg (by omega)]
 ·have e2:(List.range (T.length+2))[j]? =none:=by simp;omega
  rw [e2];simp only [List.getElem?_replicate,Option.map_none];rw [if_neg (by omega),if_neg (by omega)]
theorem FU {w:Nat} {b:Bool} {T S S':List Tr} {k:Nat} (hk:k<T.length) (hn:∀j,j<k+2->num S' (fx w b (tr T j))=num S (fx w b (tr T j))):
  (fxA w b T S k).set (k+2) (vi (num S' (fx w b (tr T (k+2)))))=fxA w b T S' (k+1):=by
 apply VI;intro j;unfold fxA;rw [V6,U5,U5];by_cases hj:j<T.length+2
 ·rw [Vy hj];simp only [VD,U6,Vw];by_cases h1:k+2=j
  ·subst h1;simp;omega
  ·rw [if_neg h1];by_cases h2:j<k+2
   ·rw [if_pos h2,if_pos (by omega),hn j h2]
   ·rw [if_neg h2,if_neg (by omega)]
 ·have e2:(List.range (T.length+2))[j]? =none:=by simp;omega
  rw [e2];simp only [Option.map_none];rw [if_neg (by omega)]
section
variable {F:PH} {v:Γ} {t:Tr}
theorem zv (hd:DV F v (dia t)) (ht:t.ok) (hl:(aL t).length<=4096) (w:Nat) (x:Bool):ai prog 157 #[.agg v,vi w,.bool x] F λr F'=>∃u,r=.agg u/\DV F' u (dia (fx w x t))/\F.le F':=by
 have hT:=bv ht;obtain ⟨s,rfl,hr⟩:=hd;have hr':RdS F s 3 (aY (brs (aL t))):=hr;have hlen:=hr'.blen;rw [aO] at hlen;refine O9 ?_;unfold Kb;intro b3 hb3;refine atI ?_;have l3:=ae (.cells #[s.v,vi (dia t).2] 31) hb3;have q3:=al F b3 (.cells #[s.v,vi (dia t).2] 31);generalize F.set b3 (.cells #[s.v,vi (dia t).2] 31)=F3 at*;intro b6 hb6;refine atI ?_;have f6:F b6=none:=aT l3 hb6;have lx:=ae (.cells zD 31) hb6;have q6:=al F3 b6 (.cells zD 31);replace q3:=lx _ _ q3;have l6:=l3.trans lx;clear lx;generalize F3.set b6 (.cells zD 31)=E at*;refine (iS E).mono ?_;rintro _ G ⟨bb,mm,rfl,hne,bd⟩;have hw2:IntKind.i64.wrap ((s.len:Int)+2)=(((aL t).length+2:Nat):Int):=by rw [hlen,aS (by omega) (by omega)];omega
 refine ⟨_,rfl,s,by rw [am (bd.le _ _ q3)];rfl,?_⟩;dsimp only;rw [hw2];refine cP underlying67 sz3 zr3 rfl (by omega) (WO _) (by omega) (by omega) ?_;intro g hg;rw [zc1 _ rfl,N4];have Eg:E g=none:=aT bd.le hg;refine ⟨_,rfl,_,rfl,by omega,by simp only;omega,?_⟩;refine oR (b:=g) (o:=1) (by simp) (al _ _ _) (by simp) ?_;rw [bh,List.setIfInBounds_toArray];rw [FT w x (aL t)];have bd1:=(bd.upto (ae (.cells (fxA w x (aL t) [] 0).toArray 3) hg));have qg:=al G g (.cells (fxA w x (aL t) [] 0).toArray 3);generalize G.set g (.cells (fxA w x (aL t) [] 0).toArray 3)=G1 at*;refine ⟨s,by rw [am (bd1.le _ _ q3)];rfl,?_⟩
 refine ⟨λm i F'=>∃(k:Nat) (S:List Tr),i=k/\k<=(aL t).length/\m=(aL t).length - k/\BD E F' bb mm S/\S.length<=k/\(∀j,j<k+2->inn S (fx w x (tr (aL t) j)))/\F' g=some (.cells (fxA w x (aL t) S k).toArray 3),(aL t).length,
  ⟨0,[],rfl,by omega,rfl,bd1,by simp,λj hj=> ?_,qg⟩,?_⟩
 ·match j,hj with
  |0,_=>show inn [] (fx w x (leaf false));rw [jW];exact eM _ _
  |1,_=>show inn [] (fx w x (leaf true));rw [jW];exact eM _ _
 rintro m i F1 ⟨k,S,rfl,hk,rfl,hbd,hSk,hin,hg1⟩;unfold Bn;refine ⟨λhlt=> ?_,λhge=> ?_⟩
 ·have hkT:k<(aL t).length:=by omega
  obtain ⟨hck,vv,lo',hi',hget,hlo,hhi,hok,_⟩:=zw hT k hkT;have hlo2:=dt hlo;have hhi2:=dt hhi;rw [<- ml hlo,Vb] at hlo2;rw [<- ml hhi,Vb] at hhi2;have inl:inn (aL t) lo':=by rw [<- Wb k (aL t)];exact bG hlo
  have inh:inn (aL t) hi':=by rw [<- Wb k (aL t)];exact bG hhi
  obtain ⟨a,ha,hrow,_⟩:=rdb (hr'.le (l6.trans hbd.le)) (jM hget);refine ⟨a,ha,by omega,hlt,aV (br (aL t) (node vv lo' hi')),rfl,by simpa using hrow,?_⟩;intro b10 hb10;refine atI ?_;refine stW (al _ _ _) rfl rfl (iA _) ?_;rw [bh];have hE10:E b10=none:=aT hbd.le hb10;have bd2:=(hbd.grow (F:=F1.set b10 (.cells (aV (br (aL t) (node vv lo' hi'))) 124)) (ae _ hb10) hb10 (al _ _ _));have n10:g≠b10:=aJ hb10 hg1;have qg2:(F1.set b10 (.cells (aV (br (aL t) (node vv lo' hi'))) 124)) g=some (.cells (fxA w x (aL t) S k).toArray 3):=by rw [av _ _ n10];exact hg1
  have c10:∀G:PH,(F1.set b10 (.cells (aV (br (aL t) (node vv lo' hi'))) 124)).le G->G b10=some (.cells (aV (br (aL t) (node vv lo' hi'))) 124):=λG hG=>hG _ _ (al _ _ _);have e10:=al E b10 (.cells (aV (br (aL t) (node vv lo' hi'))) 124);have lE:E.le (E.set b10 (.cells (aV (br (aL t) (node vv lo' hi'))) 124)):=ae _ hE10;have Eg2:(E.set b10 (.cells (aV (br (aL t) (node vv lo' hi'))) 124)) g=none:=by rw [av _ _ n10];exact Eg
  generalize F1.set b10 (.cells (aV (br (aL t) (node vv lo' hi'))) 124)=F2 at*;generalize E.set b10 (.cells (aV (br (aL t) (node vv lo' hi'))) 124)=E2 at*;have h10:=bd2.le _ _ e10;have trl:=gE hT inl;have trh:=gE hT inh;have hnl:(fxA w x (aL t) S k)[num (aL t) lo']? =some (vi (num S (fx w x lo'))):=by rw [vA (by omega) (by omega),trl]
  have hnh:(fxA w x (aL t) S k)[num (aL t) hi']? =some (vi (num S (fx w x hi'))):=by rw [vA (by omega) (by omega),trh]
  have il:inn S (fx w x lo'):=by have:=hin (num (aL t) lo') (by omega);rwa [trl] at this
  have ih:inn S (fx w x hi'):=by have:=hin (num (aL t) hi') (by omega);rwa [trh] at this
  have hk2:tr (aL t) (k+2)=node vv lo' hi':=by unfold tr;rw [if_neg (by omega),if_neg (by omega),Nat.add_sub_cancel,Vr,hget];rfl
  obtain ⟨o1,o2,o3,o4,o5,o6⟩:=hok;obtain ⟨p1,p2,_⟩:=dC w x o5;obtain ⟨r1,r2,_⟩:=dC w x o6;have hfx:=vz (w:=w) (b:=x) (v:=vv) (l:=lo') (h:=hi') ⟨o1,o2,o3,o4,o5,o6⟩;have rest:∀A B:Tr,inn S A->inn S B->vv<A.top->vv<B.top->fx w x (node vv lo' hi')=mk vv A B->∀{R:Value->Ψ} {N:Ω},
    (∀F',(∃S',BD E F' bb mm S'/\S'.length<=k+1/\(∀j,j<k+1+2->inn S' (fx w x (tr (aL t) j)))/\F' g=some (.cells (fxA w x (aL t) S' (k+1)).toArray 3))->N ((k+1:Nat):Int) F')->
    lQ N w x b3 b6 (some ⟨bb,0,none⟩) ⟨some ⟨g,0,none⟩,(aL t).length+2,(aL t).length+2⟩ k b10 s (num S A) (num S B) R F2:=by
   intro A B hA hB tA tB hAB R N hN;unfold lQ;refine ⟨_,by rw [am h10];rfl,?_⟩;have bd3:=bd2.pin qg2 (by decide) (by decide);refine (oA bd3 hA hB ⟨o1,tA,tB⟩ (by omega)).mono ?_;rintro _ F3 ⟨rfl,bd4⟩;have qg4:=bd4.le _ _ (al E2 g (.cells (fxA w x (aL t) S k).toArray 3));have bd5:BD E2 F3 bb mm (dv S (mk vv A B)):=bd4.weaken (aw PH.le_rfl Eg2);have hw3:IntKind.i64.wrap ((k:Int)+2)=((k+2:Nat):Int):=by rw [aS (by omega) (by omega)];omega
   have hw4:IntKind.i64.wrap ((k:Int)+1)=((k+1:Nat):Int):=i6 (by omega);rw [hw3,hw4];refine ⟨_,rfl,_,rfl,by omega,by simp only;omega,?_⟩;refine oR (b:=g) (o:=k+2) (by simp;omega) qg4 (by simp [fxA];omega) ?_;rw [List.setIfInBounds_toArray];have hnum:∀{u:Tr},inn S u->inn (dv S (mk vv A B)) u/\num (dv S (mk vv A B)) u=num S u:=λ{u} hu=>by
    unfold dv;split
    ·exact ⟨hu,rfl⟩
    ·exact ⟨bG hu,bN hu⟩
   have hinT:inn (dv S (mk vv A B)) (mk vv A B):=by
    unfold dv;split
    ·assumption
    ·exact .inr (by simp)
   have hst:=FU (w:=w) (b:=x) (T:=aL t) (S:=S) (S':=dv S (mk vv A B)) hkT (λj hj=>(hnum (hin j hj)).2);rw [hk2,hfx,<- hfx,hAB] at hst;rw [hst];refine hN _ ⟨_,((bd5.weaken lE).setCells Eg qg4 (by decide) (by decide)),?_,λj hj=> ?_,al _ _ _⟩
   ·unfold dv;split
    ·omega
    ·simp only [UV,Va];omega
   ·by_cases hj2:j<k+2
    ·exact (hnum (hin j hj2)).1
    ·obtain rfl:j=k+2:=by omega
     rw [hk2,hAB];exact hinT
  have done:∀F':PH,(∃S',BD E F' bb mm S'/\S'.length<=k+1/\(∀j,j<k+1+2->inn S' (fx w x (tr (aL t) j)))/\F' g=some (.cells (fxA w x (aL t) S' (k+1)).toArray 3))->
    ∃m',m'<(aL t).length - k/\∃(k':Nat) (S:List Tr),((k+1:Nat):Int)=k'/\k'<=(aL t).length/\m'=(aL t).length - k'/\BD E F' bb mm S/\S.length<=k'/\(∀j,j<k'+2->inn S (fx w x (tr (aL t) j)))/\F' g=some (.cells (fxA w x (aL t) S k').toArray 3):=λF' ⟨S',h1,h2,h3,h4⟩=>
   ⟨(aL t).length - (k+1),by omega,k+1,S',rfl,by omega,rfl,h1,h2,h3,h4⟩
  refine ⟨_,by rw [am h10];rfl,_,rfl,by simp only [br];omega,by simp only [br];omega,vi (num S (fx w x lo')) |> λ_=>(num S (fx w x lo'):Int),by simp only [aB];rw [am qg2];simpa [br] using hnl,
   _,by rw [am h10];rfl,_,rfl,by simp only [br];omega,by simp only [br];omega,(num S (fx w x hi'):Int),by simp only [aB];rw [am qg2];simpa [br] using hnh,_,by rw [am h10];rfl,λhv=> ?_,λhv=> ?_⟩
  ·have hvw:vv=w:=by simp only [br] at hv;omega
   rw [if_pos hvw] at hfx;refine ⟨λhx=> ?_,λhx=> ?_⟩
   ·rw [if_pos hx] at hfx;exact rest (fx w x hi') (fx w x hi') ih ih (by omega) (by omega) (by rw [hfx];simp [mk]) done
   ·rw [if_neg (by simp [hx])] at hfx;exact rest (fx w x lo') (fx w x lo') il il (by omega) (by omega) (by rw [hfx];simp [mk]) done
  ·have hvw:¬vv=w:=by simp only [br] at hv;omega
   rw [if_neg hvw] at hfx;exact rest (fx w x lo') (fx w x hi') il ih (by omega) (by omega) hfx done
 ·obtain rfl:k=(aL t).length:=by omega
  unfold Bm;have hni:=bI ht;have hnl:=dt hni;have hct:(fxA w x (aL t) S (aL t).length)[num (aL t) t]? =some (vi (num S (fx w x t))):=by rw [vA (by omega) (by omega),gE hT hni]
  refine ⟨(num (aL t) t:Int),by rw [am (hbd.le _ _ q3)];rfl,_,rfl,by omega,by simp only;omega,(num S (fx w x t):Int),by simp only [aB];rw [am hg1];simpa using hct,?_⟩;have hinf:=hin (num (aL t) t) (by omega);rw [gE hT hni] at hinf;obtain ⟨_,hcl,_,_,⟨sb,hbb,hob,_⟩,_⟩:=id hbd;have h16:=hbd.le _ _ q6;have nbb:bb≠b6:=λe=>by rw [e,h16] at hbb;simp at hbb
  have hob':cf (dz F1 b6) 124 3 sb (aY (brs S)):=hob.keep λa ha=>by obtain ⟨cur,hcur⟩:=hob.elem ha;refine dX (λe=> ?_);rw [e,h16] at hcur;simp at hcur
  refine (gr (iE (b:=bb) (F:=dz F1 b6) (ns:=sb) (by rw [am ((dX nbb).trans hbb)];rfl) hob'.rd hcl hinf (by omega)) h16).mono ?_;rintro _ F2 ⟨u,rfl,⟨G',hu,lG,gG⟩,l2,q2⟩;refine ⟨_,rfl,?_⟩;exact f8 (K:=λvres F'=>∃w',Value.agg vres=.agg w'/\DV F' w' (dia (fx w x t))/\F.le F') hu q2 rfl ⟨_,rfl,hu.le (aw lG gG),aw (l6.trans (hbd.le.trans l2)) f6⟩
end
end Go.Proofs.YtcemhghkipgdiaaGreatDoor
