/-
  The diagrams: complement, intersection, union, symmetric difference, choice; constants and conditions.
-/
import Derived.Test.YtenpmjhnhepfdaaGreatDoorEh
import Derived.Test.YtenpmjhnhepfdaaGreatDoorGslices
namespace Go.Proofs.YtenpmjhnhepfdaaGreatDoor
open Go Go.Proofs.Tryz Tr
set_option maxRecDepth 10000
def ri (t:Tr):List Tr:=leaf false::leaf true::aF t
theorem lD {t x:Tr} (h:inn (aF t) x):x∈ri t:=by
 unfold ri
 cases x with
 |leaf b=>cases b<;>simp
 |node v l r=>simp [bT h rfl]
noncomputable def apL (o:Op3) (a b d:Tr):List Tr:=(ri a).flatMap fun x=>(ri b).flatMap fun y=>(ri d).map fun z=>ap o x y z
theorem wB (o:Op3) (a b d:Tr):(apL o a b d).length=((aF a).length+2)*(((aF b).length+2)*((aF d).length+2)):=by
 unfold apL
 simp only [List.length_flatMap,List.length_map,List.map_const',List.sum_replicate_nat]
 simp [ri]
theorem Jd {o:Op3} {a b d:Tr} (ha:a.ok) (hb:b.ok) (hd:d.ok):∀(n:Nat) (x y z:Tr) (S:List Tr),x.sz+y.sz+z.sz≤n→inn (aF a) x→inn (aF b) y→inn (aF d) z→Cl S→
  ∀u∈vis (ap o x y z) S,u∈S∨u∈apL o a b d:=by
 intro n
 induction n with
 |zero=>intro x y z S hn;have:=jq x;omega
 |succ n ih=>
  intro x y z S hn hx hy hz hS u hu
  have kx:=(be ha).inn_ok hx
  have ky:=(be hb).inn_ok hy
  have kz:=(be hd).inn_ok hz
  have hmem:ap o x y z∈apL o a b d:=List.mem_flatMap.2 ⟨x,lD hx,List.mem_flatMap.2 ⟨y,lD hy,List.mem_map.2 ⟨z,lD hz,rfl⟩⟩⟩
  by_cases hv:aS x y z<64
  ·have hst:=sD (o:=o) kx ky kz hv
   have v1:aS x y z≤x.top:=by unfold aS;omega
   have v2:aS x y z≤y.top:=by unfold aS;omega
   have v3:aS x y z≤z.top:=by unfold aS;omega
   have hcase:aS x y z=x.top∨aS x y z=y.top∨aS x y z=z.top:=by unfold aS;omega
   generalize aS x y z=v at*
   have nl:∀{t:Tr},v=t.top→t.isL=false:=fun {t} e=>by
    cases t with
    |leaf b=>simp only [top] at e;omega
    |node _ _ _=>rfl
   obtain ⟨al1,al2,al3,al4,al5⟩:=bK kx v1
   obtain ⟨bl1,bl2,bl3,bl4,bl5⟩:=bK ky v2
   obtain ⟨dl1,dl2,dl3,dl4,dl5⟩:=bK kz v3
   obtain ⟨ah1,ah2,ah3,ah4,ah5⟩:=bL kx v1
   obtain ⟨bh1,bh2,bh3,bh4,bh5⟩:=bL ky v2
   obtain ⟨dh1,dh2,dh3,dh4,dh5⟩:=bL kz v3
   have hsl:(lo v x).sz+(lo v y).sz+(lo v z).sz≤n:=by
    rcases hcase with e|e|e
    ·have:=al4 e.symm (nl e);omega
    ·have:=bl4 e.symm (nl e);omega
    ·have:=dl4 e.symm (nl e);omega
   have hsh:(hi v x).sz+(hi v y).sz+(hi v z).sz≤n:=by
    rcases hcase with e|e|e
    ·have:=ah4 e.symm (nl e);omega
    ·have:=bh4 e.symm (nl e);omega
    ·have:=dh4 e.symm (nl e);omega
   obtain ⟨l1,l2,l3⟩:=eE (o:=o) al1 bl1 dl1
   obtain ⟨g1,g2,g3⟩:=eE (o:=o) ah1 bh1 dh1
   have l2':v<(ap o (lo v x) (lo v y) (lo v z)).top:=by have:=al2 hv;have:=bl2 hv;have:=dl2 hv;unfold aS at l2;omega
   have g2':v<(ap o (hi v x) (hi v y) (hi v z)).top:=by have:=ah2 hv;have:=bh2 hv;have:=dh2 hv;unfold aS at g2;omega
   have hadd:=ko hS (v:=v) ⟨hv,l2',g2',l1,g1⟩
   rw [← hst] at hadd
   rw [← hadd] at hu
   have c1:=(aX _ S l1 hS).1
   have key:u∈vis (ap o (hi v x) (hi v y) (hi v z)) (vis (ap o (lo v x) (lo v y) (lo v z)) S)→u∈S∨u∈apL o a b d:=fun hu=>by
    rcases ih _ _ _ _ hsh ((be ha).inn_hi hx v) ((be hb).inn_hi hy v) ((be hd).inn_hi hz v) c1 u hu with h|h
    ·exact ih _ _ _ _ hsl ((be ha).inn_lo hx v) ((be hb).inn_lo hy v) ((be hd).inn_lo hz v) hS u h
    ·exact .inr h
   unfold cM at hu
   split at hu
   ·exact key hu
   ·rcases List.mem_append.1 hu with hu|hu
    ·exact key hu
    ·rw [List.mem_singleton.1 hu]
     exact .inr hmem
  ·have isl:∀{t:Tr},t.ok→64≤t.top→∃b,t=leaf b:=fun {t} ht h64=>fj ht h64
   unfold aS at hv
   obtain ⟨p,rfl⟩:=isl kx (by omega)
   obtain ⟨q,rfl⟩:=isl ky (by omega)
   obtain ⟨r,rfl⟩:=isl kz (by omega)
   rw [jZ] at hu
   exact .inl hu
theorem Ak {o:Op3} {a b d:Tr} (ha:a.ok) (hb:b.ok) (hd:d.ok):(aF (ap o a b d)).length≤((aF a).length+2)*(((aF b).length+2)*((aF d).length+2)):=by
 rw [← wB o a b d]
 refine co _ _ (be (BF ha hb hd)).nodup fun x hx=> ?_
 rcases Jd ha hb hd _ a b d [] (Nat.le_refl _) (bu ha) (bu hb) (bu hd) .nil x hx with h|h
 ·cases h
 ·exact h
def kf {α:Type} (a b c:α):Nat→α
 |0=>a
 |1=>b
 |_=>c
theorem fc {F:PH} {b e1:Nat} {c4:Array Value} {K:Array Value→PH→Prop} {G:PH} {d:Dia} {cs:Array Value} (hd:DV G cs d) (h4:F b=some (.cells c4 e1 (0,0))) (hc4:c4.size=2) (hk:K cs (F.set b (.cells cs e1))):
  cs.size=2∧(∀v∈cs.toList,ak v)∧∃c e,F (Addr.mk b 0 none).block=some (.cells c e (0,0))∧(Addr.mk b 0 none).spot=none∧(Addr.mk b 0 none).off+2≤c.size∧
   atF (F.set (Addr.mk b 0 none).block (.cells (wr c (Addr.mk b 0 none).off cs.toList) e)) fun F=>∃vres:Array Value,vres.size=2∧F.row (Addr.mk b 0 none) vres∧K vres F:=
 stW h4 hd.size hc4 hd.st ⟨cs,hd.size,aj (am _ _ _),hk⟩
theorem OpV.cells {F:PH} {v:Value} {o:Op3} (h:OpV F v o):v.cells= #[v]:=by
 obtain ⟨k,f,c,rfl,_⟩:=h
 rfl
def cL (F:PH) (a:Nat):PH:=fun x=>if x=a then none else F x
theorem xZ (F:PH) (a:Nat):(cL F a).le F:=fun x o h=>by
 unfold cL at h
 split at h
 ·cases h
 ·exact h
theorem dq {F:PH} {a x:Nat} (h:x≠a):cL F a x=F x:=by simp [cL,h]
theorem wC (F:PH) (a:Nat):cL F a a=none:=by simp [cL]
theorem dN {F G:PH} {a:Nat} (h:F.le G) (ha:F a=none):F.le (cL G a):=fun x o hx=>by
 have h1:x≠a:=fun e=>by rw [e,ha] at hx;cases hx
 rw [dq h1]
 exact h _ _ hx
theorem ae.avoid {P:Program} {f:FuncId} {args:Array Value} {F:PH} {x:Nat} {o:Obj} {R:Value→PH→Prop} (h:ae P f args (cL F x) R) (hx:F x=some o):
  ae P f args F fun v F'=>∃G,R v G∧G.le F'∧F' x=some o∧G x=none:=
 (h.upon (xZ F x)).mono fun v F' ⟨G,hr,hl,hb⟩=>by
  obtain ⟨h1,h2⟩:=hb x o (wC F x) hx
  exact ⟨G,hr,hl,h1,h2⟩
theorem f7 {F G F':PH} {x:Nat} {o:Obj} (h:(cL F x).le G) (hl:G.le F') (hx:F' x=some o) (hF:F x=some o):F.le F':=fun b ob hb=>by
 by_cases hbx:b=x
 ·subst hbx
  rw [hF] at hb
  rw [hx]
  exact hb
 ·exact hl _ _ (h _ _ (by rw [dq hbx];exact hb))
section
variable {F:PH} {s0 s1 s2:Sl} {t0 t1 t2:Tr} {opv:Value} {o:Op3}
theorem sQ (h0:RdS F s0 3 (aQ (dia t0).1)) (h1:RdS F s1 3 (aQ (dia t1).1)) (h2:RdS F s2 3 (aQ (dia t2).1)) (k0:t0.ok) (k1:t1.ok) (k2:t2.ok)
  (f0:Fit ((aF t0).length+2)) (f1:Fit ((aF t1).length+2)) (f2:Fit ((aF t2).length+2)) (hf:Fit ((aF (ap o t0 t1 t2)).length+4)) (hop:OpV F opv o):
  ae prog 163 #[.agg #[s0.v,vi (dia t0).2,s1.v,vi (dia t1).2,s2.v,vi (dia t2).2],opv] F fun r F'=>∃w,r=.agg w∧DV F' w (dia (ap o t0 t1 t2))∧F.le F':=by
 refine L5 ?_
 unfold Gj
 intro b2 hb2
 refine atI ?_
 have l2:=ac (.cells #[s0.v,vi (dia t0).2,s1.v,vi (dia t1).2,s2.v,vi (dia t2).2] 220) hb2
 have q2:=am F b2 (.cells #[s0.v,vi (dia t0).2,s1.v,vi (dia t1).2,s2.v,vi (dia t2).2] 220)
 generalize F.set b2 (.cells #[s0.v,vi (dia t0).2,s1.v,vi (dia t1).2,s2.v,vi (dia t2).2] 220)=F2 at*
 refine ⟨hop.cells,fun b3 hb3=> ?_⟩
 refine atI ?_
 have lx:=ac (.cells #[opv] 221) hb3
 have q3:=am F2 b3 (.cells #[opv] 221)
 replace q2:=lx _ _ q2
 have l3:=l2.trans lx
 clear lx
 generalize F2.set b3 (.cells #[opv] 221)=F3 at*
 intro b4 hb4
 refine atI ?_
 have f4:F b4=none:=aM l3 hb4
 have lx:=ac (.cells #[Value.slice none 0 0,Value.int .i64 0] 33) hb4
 have q4:=am F3 b4 (.cells #[Value.slice none 0 0,Value.int .i64 0] 33)
 replace q2:=lx _ _ q2
 replace q3:=lx _ _ q3
 have l4:=l3.trans lx
 clear lx
 generalize F3.set b4 (.cells #[Value.slice none 0 0,Value.int .i64 0] 33)=F4 at*
 refine (gQ F4).mono ?_
 rintro _ G ⟨bb,mm,rfl,hne,bd⟩
 refine ⟨_,rfl,?_⟩
 intro b5 hb5
 refine atI ?_
 refine st1 (am _ _ _) (by simp) ?_
 rw [aV,show (#[Value.pointer none].setIfInBounds (Addr.mk b5 0 none).off (Value.pointer (some ⟨bb,0,none⟩)):Array Value)= #[Value.pointer (some ⟨bb,0,none⟩)] from rfl]
 have g5:F4 b5=none:=aM bd.le hb5
 have bd5:=bd.grow (F:=G.set b5 (.cells #[Value.pointer (some ⟨bb,0,none⟩)] 225)) (ac _ hb5) hb5 (am _ _ _)
 have e5:=am F4 b5 (.cells #[Value.pointer (some ⟨bb,0,none⟩)] 225)
 have l5:=ac (.cells #[Value.pointer (some ⟨bb,0,none⟩)] 225) g5
 generalize F4.set b5 (.cells #[Value.pointer (some ⟨bb,0,none⟩)] 225)=E5 at*
 generalize G.set b5 (.cells #[Value.pointer (some ⟨bb,0,none⟩)] 225)=G5 at*
 intro b9 hb9
 refine atI ?_
 have bd9:=bd5.upto (ac (.map #[] 0) hb9)
 have g9:E5 b9=none:=aM bd5.le hb9
 have hmo:=fe.empty EG
 have e9:=am G5 b9 (.map #[] 0)
 have hnm:mm≠b9:=by
  obtain ⟨om,hom,_⟩:=bd5.map
  exact aC hb9 hom
 generalize G5.set b9 (.map #[] 0)=G9 at*
 intro b6 hb6
 refine atI ?_
 refine st1 (am _ _ _) (by simp) ?_
 rw [aV,show (#[Value.map none].setIfInBounds (Addr.mk b6 0 none).off (Value.map (some b9)):Array Value)= #[Value.map (some b9)] from rfl]
 intro b7 hb7
 refine atI ?_
 refine st1 (am _ _ _) (by simp) ?_
 rw [aV]
 let p:AP:=⟨b3,b6,b2,b7,b5,bb,mm,b9,opv,o,kf (dia t0) (dia t1) (dia t2),kf (aF t0) (aF t1) (aF t2)⟩
 have hs0:AS E5 G9 p []:=⟨bd9,g9,hnm,_,_,e9,hmo,fun k v hkv=>by cases hkv⟩
 have hs1:=hs0.grow (F:=G9.set b6 (.cells #[Value.map (some b9)] 287)) (ac _ hb6) hb6 (am _ _ _)
 have hs2:=hs1.grow (F:=(G9.set b6 (.cells #[Value.map (some b9)] 287)).set b7 (.cells #[.func (.func 211) #[] p.caps] 288)) (ac _ hb7) hb7 (am _ _ _)
 have g6:E5 b6=none:=aM bd9.le hb6
 have g7:(E5.set b6 (.cells #[Value.map (some b9)] 287)) b7=none:=aM hs1.bd.le hb7
 have l6:=ac (.cells #[Value.map (some b9)] 287) g6
 have l7:=ac (.cells #[.func (.func 211) #[] p.caps] 288) g7
 have e6:=l7 _ _ (am E5 b6 (.cells #[Value.map (some b9)] 287))
 have e7:=am (E5.set b6 (.cells #[Value.map (some b9)] 287)) b7 (.cells #[.func (.func 211) #[] p.caps] 288)
 have lE:F4.le ((E5.set b6 (.cells #[Value.map (some b9)] 287)).set b7 (.cells #[.func (.func 211) #[] p.caps] 288)):=l5.trans (l6.trans l7)
 replace e5:=(l6.trans l7) _ _ e5
 rw [show (#[Value.nilFunc].setIfInBounds 0 (Value.func (.func 211) #[] #[.pointer (some ⟨b3,0,none⟩),.pointer (some ⟨b6,0,none⟩),.pointer (some ⟨b2,0,none⟩),.pointer (some ⟨b7,0,none⟩),.pointer (some ⟨b5,0,none⟩)]):Array Value)= #[.func (.func 211) #[] p.caps] from rfl]
 generalize (E5.set b6 (.cells #[Value.map (some b9)] 287)).set b7 (.cells #[.func (.func 211) #[] p.caps] 288)=E7 at*
 generalize (G9.set b6 (.cells #[Value.map (some b9)] 287)).set b7 (.cells #[.func (.func 211) #[] p.caps] 288)=G7 at*
 have lF:=l4.trans lE
 have he:AE E7 p:=by
  refine ⟨?_,?_,fun i hi=> ?_,?_,?_,hop.le lF⟩
  ·show E7.cell ⟨b3,0,none⟩=some opv
   rw [an (lE _ _ q3)];rfl
  ·show E7.cell ⟨b6,0,none⟩=some _
   rw [an e6];rfl
  ·have row:∀(j:Nat) (s:Sl) (r:Int),(#[s0.v,vi (dia t0).2,s1.v,vi (dia t1).2,s2.v,vi (dia t2).2]:Array Value)[j]? =some s.v→(#[s0.v,vi (dia t0).2,s1.v,vi (dia t1).2,s2.v,vi (dia t2).2]:Array Value)[j+1]? =some (vi r)→
     E7.row ⟨b2,j,none⟩ #[s.v,vi r]:=fun j s r h1 h2 i hi=>by
    simp only [aE]
    rw [an (lE _ _ q2)]
    match i,hi with
    |0,_=>simpa using h1
    |1,_=>simpa using h2
   match i,hi with
   |0,_=>exact ⟨_,row 0 s0 _ rfl rfl,s0,rfl,h0.le lF⟩
   |1,_=>exact ⟨_,row 2 s1 _ rfl rfl,s1,rfl,h1.le lF⟩
   |2,_=>exact ⟨_,row 4 s2 _ rfl rfl,s2,rfl,h2.le lF⟩
  ·show E7.cell ⟨b7,0,none⟩=some _
   rw [an e7];rfl
  ·show E7.cell ⟨b5,0,none⟩=some _
   rw [an e5];rfl
 have hfa:AF p:=by
  refine ⟨fun i hi=> ?_,fun i hi=> ?_,fun i hi=> ?_⟩
  ·match i,hi with
   |0,_=>exact be k0
   |1,_=>exact be k1
   |2,_=>exact be k2
  ·match i,hi with
   |0,_=>exact List.prefix_refl _
   |1,_=>exact List.prefix_refl _
   |2,_=>exact List.prefix_refl _
  ·match i,hi with
   |0,_=>show Fit ((brs (aF t0)).length+2);rw [aK];exact f0
   |1,_=>show Fit ((brs (aF t1)).length+2);rw [aK];exact f1
   |2,_=>show Fit ((brs (aF t2)).length+2);rw [aK];exact f2
 have q2':=hs2.bd.le _ _ (lE _ _ q2)
 refine ⟨_,aq hs2.bd.le he.c5,_,aq hs2.bd.le he.c7,by omega,by omega,(dia t0).2,by simp only [aE];rw [an q2'];rfl,by omega,by omega,(dia t1).2,by simp only [aE];rw [an q2'];rfl,
  by omega,by omega,(dia t2).2,by simp only [aE];rw [an q2'];rfl,_,_,_,rfl,Cr,?_⟩
 have hres:p.res (kf t0 t1 t2)=ap o t0 t1 t2:=rfl
 have hat:=EC hfa _ (kf t0 t1 t2) (Nat.le_refl _) ⟨bu k0,bu k1,bu k2⟩ E7 G7 [] he hs2 (by rw [hres];exact hf)
 rw [hres] at hat
 refine hat.mono ?_
 rintro _ F5 ⟨rfl,hs3⟩
 have q2'':=hs3.bd.le _ _ (lE _ _ q2)
 refine ⟨_,rfl,by simp only [aE];rw [an q2''];rfl,by simp only [aE];rw [an q2''];rfl,by simp only [aE];rw [an q2''];rfl,aq hs3.bd.le he.c5,?_⟩
 have hkT:=BF (o:=o) k0 k1 k2
 obtain ⟨_,hcl,_,_,⟨sb,hbb,hob,_⟩,_⟩:=hs3.bd
 have hle3:=hs3.bd.le
 clear hs3
 have ev:vis (ap o t0 t1 t2) []=aF (ap o t0 t1 t2):=rfl
 rw [ev] at*
 have h45:=hle3 _ _ (lE _ _ q4)
 replace hbb:F5 bb=some (.cells #[sb.v,Value.map (some mm)] 228):=hbb
 have nbb:bb≠b4:=fun e=>by rw [e,h45] at hbb;simp at hbb
 have hob':bJ (cL F5 b4) 103 3 sb (aQ (brs (aF (ap o t0 t1 t2)))):=hob.keep fun a ha=>by
  obtain ⟨cur,hcur⟩:=hob.elem ha
  refine dq (fun e=> ?_)
  rw [e,h45] at hcur
  cases hcur
 refine (ae.avoid (gH (b:=bb) (F:=cL F5 b4) (ns:=sb) (by rw [an ((dq nbb).trans hbb)];rfl) hob'.rd hcl (bu hkT) hf) h45).mono ?_
 rintro _ F6 ⟨G6,⟨w,rfl,hw,l6'⟩,lg,h46,hg4⟩
 have l56:=f7 l6' lg h46 h45
 have q2f:=l56 _ _ q2''
 refine ⟨_,rfl,by simp only [aE];rw [an q2f];rfl,by simp only [aE];rw [an q2f];rfl,by simp only [aE];rw [an q2f];rfl,?_⟩
 exact fc (K:=fun vres F'=>∃w,Value.agg vres=.agg w∧DV F' w (dia (ap o t0 t1 t2))∧F.le F') hw h46 rfl ⟨w,rfl,hw.le (au lg hg4),au (lF.trans (hle3.trans l56)) f4⟩
end
abbrev gO:Dia:=([],0)
abbrev DR:=Dia×Int
noncomputable def kg:List Dia→Int
 |[]=>0
 |d::r=>if chk d≠0 then chk d else kg r
open Classical in
noncomputable def tre (d:Dia):Tr:=if h:gP d then h.choose else leaf false
theorem ki {t:Tr} (h:t.ok):tre (dia t)=t:=by
 have hv:gP (dia t):=⟨t,h,rfl⟩
 unfold tre
 rw [dif_pos hv]
 exact (DU h hv.choose_spec.1 hv.choose_spec.2).symm
theorem Ew {d:Dia} (h:chk d=0):(tre d).ok∧d=dia (tre d)∧d.1.length≤4096:=by
 unfold chk at h
 split at h
 ·cases h
 ·rename_i hl
  split at h
  ·rename_i hv
   unfold tre
   rw [dif_pos hv]
   exact ⟨hv.choose_spec.1,hv.choose_spec.2,by omega⟩
  ·cases h
theorem sR {t:Tr} (h:t.ok) (hl:(aF t).length≤4096):chk (dia t)=0:=by
 unfold chk
 rw [if_neg (by simp only [dia,aK];omega),if_pos ⟨t,h,rfl⟩]
theorem pm {d:Dia} (h:chk d=0):(aF (tre d)).length≤4096:=by
 obtain ⟨_,h2,h3⟩:=Ew h
 rw [h2] at h3
 simpa [dia,aK] using h3
def lim (d:Dia):DR:=if 4096<d.1.length then (gO,2) else (d,0)
abbrev Op2:=Bool→Bool→Bool
noncomputable def bin (o:Op2) (a b:Dia):DR:=if kg [a,b]≠0 then (gO,kg [a,b]) else lim (dia (ap (fun x y _=>o x y) (tre a) (tre b) (leaf false)))
def DRV (F:PH) (v:Value) (x:DR):Prop:=∃w,v=.tuple #[.agg w,vi x.2]∧DV F w x.1
theorem DRV.le {F G:PH} {v:Value} {x:DR} (h:DRV F v x) (hl:F.le G):DRV G v x:=by
 obtain ⟨w,h1,h2⟩:=h
 exact ⟨w,h1,h2.le hl⟩
theorem DV.none (F:PH):DV F #[Value.slice none 0 0,Value.int .i64 0] gO:=⟨Sl.nil,rfl,RdS.nil F 3⟩
theorem uQ {F:PH} {x:Nat} {dd:List Dia} {n:Nat} (hn:n=dd.length) (hs:n≤100) (h:∀i (hi:i<dd.length),∃w,F.row ⟨x,i*2,none⟩ w∧DV F w dd[i]):
  ae prog 162 #[(Sl.mk (some ⟨x,0,none⟩) n n).v] F fun r F'=>r=vi (kg dd)∧F.le F':=by
 subst hn
 refine L4 ?_
 unfold Gi
 refine ⟨fun m i F'=>∃k:Nat,i=k∧k≤dd.length∧m=dd.length - k∧F.le F'∧kg dd=kg (dd.drop k),dd.length,⟨0,rfl,by omega,rfl,PH.le_rfl,rfl⟩,?_⟩
 rintro m i F1 ⟨k,rfl,hk,rfl,hle,hch⟩
 unfold yl
 refine ⟨fun hlt=> ?_,fun hge=> ?_⟩
 ·have hkd:k<dd.length:=by simpa using hlt
  obtain ⟨w,hr,hd⟩:=h k hkd
  refine ⟨_,rfl,by omega,hlt,w,hd.size,by simpa using eJ hle hr,?_⟩
  intro b4 hb4
  refine atI ?_
  refine stW (am _ _ _) hd.size rfl hd.st ?_
  rw [aV]
  have l4:=ac (.cells w 33) hb4
  refine ⟨w,hd.size,aj (am _ _ _),?_⟩
  refine (jy (hd.le (hle.trans l4))).mono ?_
  rintro _ F2 ⟨rfl,l5⟩
  rw [List.drop_eq_getElem_cons hkd] at hch
  refine ⟨_,rfl,fun hne=> ?_,fun he=> ?_⟩
  ·refine ⟨?_,(hle.trans l4).trans l5⟩
   rw [hch]
   unfold kg
   rw [if_pos hne]
  ·refine ⟨dd.length - (k+1),by omega,k+1,gR (by omega),by omega,rfl,(hle.trans l4).trans l5,?_⟩
   rw [hch]
   conv=>lhs;unfold kg
   rw [if_neg he]
 ·unfold yk
  have hk':k=dd.length:=by
   have:¬k<dd.length:=by simpa using hge
   omega
  refine ⟨?_,hle⟩
  rw [hch,hk',List.drop_length]
  rfl
theorem kj {F:PH} {v:Array Value} {d:Dia} (hd:DV F v d):ae prog 160 #[.agg v] F fun r F'=>DRV F' r (lim d)∧F.le F':=by
 have hd':=hd
 obtain ⟨s,rfl,hr⟩:=hd
 have hlen:=hr.blen
 refine L0 ?_
 unfold Gg
 intro b1 hb1
 refine atI ?_
 have l1:=ac (.cells #[s.v,vi d.2] 33) hb1
 have h1:=am F b1 (.cells #[s.v,vi d.2] 33)
 generalize F.set b1 (.cells #[s.v,vi d.2] 33)=F1 at*
 intro b2 hb2
 refine atI ?_
 have l2:=l1.trans (ac (.cells #[Value.slice none 0 0,Value.int .i64 0] 33) hb2)
 have n12:b1≠b2:=aC hb2 h1
 have f2:F b2=none:=aM l1 hb2
 refine ⟨s,by rw [an ((aw _ _ n12).trans h1)];rfl,fun h=> ?_,fun h=> ?_⟩
 ·refine fc (K:=fun vres F'=>DRV F' (.tuple #[.agg vres,vi 2]) (lim d)∧F.le F') (DV.none F) (am _ _ _) rfl ⟨?_,au l2 f2⟩
  unfold lim
  rw [if_pos (by omega)]
  exact ⟨_,rfl,DV.none _⟩
 ·refine ⟨#[s.v,vi d.2],rfl,aj ((aw _ _ n12).trans h1),?_⟩
  refine fc (K:=fun vres F'=>DRV F' (.tuple #[.agg vres,vi 0]) (lim d)∧F.le F') hd' (am _ _ _) rfl ⟨?_,au l2 f2⟩
  unfold lim
  rw [if_neg (by omega)]
  exact ⟨_,rfl,hd'.le (au l2 f2)⟩
def Je (F0:PH) (v:Value) (o:Op2):Prop:=∃(k:Nat) (fst cap:Array Value),v=.func (.func k) fst cap∧az prog k=true∧
 ∀(x y:Bool) (F:PH),F0.le F→ae prog k (fst++[Value.bool x,Value.bool y].toArray++cap) F fun r F'=>r=.bool (o x y)∧F.le F'
theorem La:az prog 164=true:=by kernel_rfl
theorem Ex {F0:PH} {b:Nat} {v:Value} {o:Op2} (hb:F0.cell ⟨b,0,none⟩=some v) (h:Je F0 v o):OpV F0 (.func (.func 164) #[] #[.pointer (some ⟨b,0,none⟩)]) (fun x y _=>o x y):=by
 refine ⟨164,#[],#[.pointer (some ⟨b,0,none⟩)],rfl,La,fun x y z F hle=> ?_⟩
 obtain ⟨k,fst,cap,rfl,hcb,hsp⟩:=h
 refine L6 ?_
 unfold Gk
 refine ⟨_,rfl,_,aq hle hb,k,fst,cap,rfl,hcb,?_⟩
 refine (hsp x y F hle).mono ?_
 rintro _ F' ⟨rfl,hl⟩
 exact ⟨_,rfl,rfl,hl⟩
theorem Cm {a b c:Nat} (ha:a≤4096) (hb:b≤4096) (hc:c≤4096):(a+2)*((b+2)*(c+2))≤68820189192:=by
 calc (a+2)*((b+2)*(c+2))≤4098*(4098*4098):=Nat.mul_le_mul (by omega) (Nat.mul_le_mul (by omega) (by omega))
  _≤68820189192:=by decide
theorem Lc {a b:Dia} (h:¬kg [a,b]≠0):chk a=0∧chk b=0:=by
 unfold kg at h
 split at h
 ·exact absurd (by assumption) h
 ·rename_i ha
  unfold kg at h
  split at h
  ·exact absurd (by assumption) h
  ·rename_i hb
   omega
section
variable {F:PH} {v w:Array Value} {a b:Dia} {opv:Value} {o:Op2}
theorem uR (ha:DV F v a) (hb:DV F w b) (hop:Je F opv o):ae prog 94 #[.agg v,.agg w,opv] F fun r F'=>DRV F' r (bin o a b)∧F.le F':=by
 have ha':=ha
 have hb':=hb
 obtain ⟨s,rfl,hr⟩:=ha
 obtain ⟨t,rfl,ht⟩:=hb
 refine Ph ?_
 unfold LW
 intro b3 hb3
 refine atI ?_
 have l3:=ac (.cells #[s.v,vi a.2] 33) hb3
 have q3:=am F b3 (.cells #[s.v,vi a.2] 33)
 generalize F.set b3 (.cells #[s.v,vi a.2] 33)=F3 at*
 intro b4 hb4
 refine atI ?_
 have lx:=ac (.cells #[t.v,vi b.2] 33) hb4
 have q4:=am F3 b4 (.cells #[t.v,vi b.2] 33)
 replace q3:=lx _ _ q3
 have l4:=l3.trans lx
 clear lx
 generalize F3.set b4 (.cells #[t.v,vi b.2] 33)=F4 at*
 refine ⟨by obtain ⟨k,f,c,rfl,_⟩:=hop;rfl,fun b5 hb5=> ?_⟩
 refine atI ?_
 have lx:=ac (.cells #[opv] 160) hb5
 have q5:=am F4 b5 (.cells #[opv] 160)
 replace q3:=lx _ _ q3
 replace q4:=lx _ _ q4
 have l5:=l4.trans lx
 clear lx
 generalize F4.set b5 (.cells #[opv] 160)=F5 at*
 intro b6 hb6
 refine atI ?_
 have f6:F b6=none:=aM l5 hb6
 have n3:b3≠b6:=aC hb6 q3
 have n4:b4≠b6:=aC hb6 q4
 have n5:b5≠b6:=aC hb6 q5
 have lx:=ac (.cells #[Value.slice none 0 0,Value.int .i64 0] 33) hb6
 have q6:=am F5 b6 (.cells #[Value.slice none 0 0,Value.int .i64 0] 33)
 replace q3:=lx _ _ q3
 replace q4:=lx _ _ q4
 replace q5:=lx _ _ q5
 have l6:=l5.trans lx
 clear lx
 generalize F5.set b6 (.cells #[Value.slice none 0 0,Value.int .i64 0] 33)=F6 at*
 refine ⟨#[s.v,vi a.2],rfl,aj q3,#[t.v,vi b.2],rfl,aj q4,rfl,rfl,fun b11 hb11=> ?_⟩
 refine atI ?_
 have e11:wr (wr (#[Value.slice none 0 0,Value.int .i64 0,Value.slice none 0 0,Value.int .i64 0]:Array Value) 0 (#[s.v,vi a.2]:Array Value).toList) 2 (#[t.v,vi b.2]:Array Value).toList= #[s.v,vi a.2,t.v,vi b.2]:=rfl
 rw [e11]
 have lx:=ac (.cells #[s.v,vi a.2,t.v,vi b.2] 33) hb11
 have q11:=am F6 b11 (.cells #[s.v,vi a.2,t.v,vi b.2] 33)
 replace q3:=lx _ _ q3
 replace q4:=lx _ _ q4
 replace q5:=lx _ _ q5
 replace q6:=lx _ _ q6
 have l11:=l6.trans lx
 clear lx
 generalize F6.set b11 (.cells #[s.v,vi a.2,t.v,vi b.2] 33)=F7 at*
 refine (uQ (F:=F7) (x:=b11) (dd:=[a,b]) (n:=2) rfl (by omega) (fun i hi=> ?_)).mono ?_
 ·have row:∀(j:Nat) (s':Sl) (r:Int),(#[s.v,vi a.2,t.v,vi b.2]:Array Value)[j]? =some s'.v→(#[s.v,vi a.2,t.v,vi b.2]:Array Value)[j+1]? =some (vi r)→F7.row ⟨b11,j,none⟩ #[s'.v,vi r]:=fun j s' r h1 h2 i hi=>by
   simp only [aE]
   rw [an q11]
   match i,hi with
   |0,_=>simpa using h1
   |1,_=>simpa using h2
  match i,hi with
  |0,_=>exact ⟨_,row 0 s _ rfl rfl,ha'.le l11⟩
  |1,_=>exact ⟨_,row 2 t _ rfl rfl,hb'.le l11⟩
 rintro _ F8 ⟨rfl,l8⟩
 replace q3:=l8 _ _ q3
 replace q4:=l8 _ _ q4
 replace q5:=l8 _ _ q5
 replace q6:=l8 _ _ q6
 replace l8:=l11.trans l8
 refine ⟨_,rfl,fun h=> ?_,fun h=> ?_⟩
 ·refine fc (K:=fun vres F'=>DRV F' (.tuple #[.agg vres,vi (kg [a,b])]) (bin o a b)∧F.le F') (DV.none F) q6 rfl ⟨?_,au l8 f6⟩
  unfold bin
  rw [if_pos h]
  exact ⟨_,rfl,DV.none _⟩
 ·obtain ⟨hca,hcb⟩:=Lc h
  obtain ⟨ka,ea,la⟩:=Ew hca
  obtain ⟨kb,eb,lb⟩:=Ew hcb
  have sa:=pm hca
  have sb:=pm hcb
  have hlen:=Ak (o:=fun x y _=>o x y) ka kb (d:=leaf false) trivial
  have hpf:=Cm sa sb (c:=(aF (leaf false)).length) (by simp [aF,vis])
  refine ⟨#[s.v,vi a.2],rfl,aj q3,#[t.v,vi b.2],rfl,aj q4,rfl,rfl,rfl,?_⟩
  have hbin:bin o a b=lim (dia (ap (fun x y _=>o x y) (tre a) (tre b) (leaf false))):=by unfold bin;rw [if_neg h]
  rw [hbin]
  have ld:F.le (cL F8 b6):=dN l8 f6
  have hc:=sQ (F:=cL F8 b6) (s0:=s) (s1:=t) (s2:=Sl.nil) (t0:=tre a) (t1:=tre b) (t2:=leaf false) (opv:=.func (.func 164) #[] #[.pointer (some ⟨b5,0,none⟩)]) (o:=fun x y _=>o x y)
   (by rw [← ea];exact hr.le ld) (by rw [← eb];exact ht.le ld) (RdS.nil _ _) ka kb trivial (by omega) (by omega) (by simp [aF,vis]) (by omega)
   (Ex (b:=b5) (v:=opv) (by rw [an ((dq n5).trans q5)];rfl) (by
    obtain ⟨k,f,c,h1,h2,h3⟩:=hop
    exact ⟨k,f,c,h1,h2,fun x y G hG=>h3 x y G (ld.trans hG)⟩))
  rw [← ea,← eb] at hc
  refine (ae.avoid hc q6).mono ?_
  rintro _ F9 ⟨G,⟨w,rfl,hw,lg⟩,lG,q6',g6⟩
  have l9:=f7 lg lG q6' q6
  refine ⟨_,rfl,?_⟩
  have hw':DV (cL F9 b6) w (dia (ap (fun x y _=>o x y) (tre a) (tre b) (leaf false))):=hw.le (fun x ob hx=>by rw [dq (fun e=>by rw [e,g6] at hx;cases hx)];exact lG _ _ hx)
  refine (ae.avoid (kj hw') q6').mono ?_
  rintro _ F10 ⟨G',⟨⟨w',rfl,hw''⟩,lg'⟩,lG',q6'',g6'⟩
  have l10:=f7 lg' lG' q6'' q6'
  refine ⟨_,_,rfl,?_⟩
  exact fc (K:=fun vres F'=>DRV F' (.tuple #[.agg vres,vi _]) (lim (dia (ap (fun x y _=>o x y) (tre a) (tre b) (leaf false))))∧F.le F') hw'' q6'' rfl ⟨⟨_,rfl,hw''.le (au lG' g6')⟩,au (l8.trans (l9.trans l10)) f6⟩
end
theorem DV.beside {F G:PH} {x:Nat} {w:Array Value} {d:Dia} (h:DV G w d) (hl:G.le F) (hx:G x=Option.none):DV (cL F x) w d:=
 h.le fun y ob hy=>by
  rw [dq (fun e=>by rw [e,hx] at hy;cases hy)]
  exact hl _ _ hy
theorem wD {f:FuncId} {args:Array Value} {F:PH} {x:Nat} {o:Obj} {y:DR} (h:ae prog f args (cL F x) fun r F'=>DRV F' r y∧(cL F x).le F') (hx:F x=some o):
  ae prog f args F fun r F'=>∃w,r=.tuple #[.agg w,vi y.2]∧(∃G,DV G w y.1∧G.le F'∧G x=none)∧F.le F'∧F' x=some o:=
 (ae.avoid h hx).mono fun r F' ⟨G,⟨⟨w,hr,hw⟩,lg⟩,lG,q,g⟩=>⟨w,hr,⟨G,hw,lG,g⟩,f7 lg lG q hx,q⟩
theorem fk {f:FuncId} {args:Array Value} {F:PH} {x:Nat} {o:Obj} {d:Dia} (h:ae prog f args (cL F x) fun r F'=>∃w,r=.agg w∧DV F' w d∧(cL F x).le F') (hx:F x=some o):
  ae prog f args F fun r F'=>∃w,r=.agg w∧(∃G,DV G w d∧G.le F'∧G x=none)∧F.le F'∧F' x=some o:=
 (ae.avoid h hx).mono fun r F' ⟨G,⟨w,hr,hw,lg⟩,lG,q,g⟩=>⟨w,hr,⟨G,hw,lG,g⟩,f7 lg lG q hx,q⟩
theorem FV {F G F0:PH} {b e1:Nat} {c4:Array Value} {y:DR} {w:Array Value} (hw:DV G w y.1) (hl:G.le F) (hg:G b=none) (h4:F b=some (.cells c4 e1 (0,0))) (hc4:c4.size=2) (h0:F0.le F) (hb:F0 b=none):
  w.size=2∧(∀v∈w.toList,ak v)∧∃c e,F (Addr.mk b 0 none).block=some (.cells c e (0,0))∧(Addr.mk b 0 none).spot=none∧(Addr.mk b 0 none).off+2≤c.size∧
   atF (F.set (Addr.mk b 0 none).block (.cells (wr c (Addr.mk b 0 none).off w.toList) e)) fun F=>∃vres:Array Value,vres.size=2∧F.row (Addr.mk b 0 none) vres∧DRV F (.tuple #[.agg vres,vi y.2]) y∧F0.le F:=
 fc (K:=fun vres F'=>DRV F' (.tuple #[.agg vres,vi y.2]) y∧F0.le F') hw h4 hc4 ⟨⟨_,rfl,hw.le (au hl hg)⟩,au h0 hb⟩
theorem wE {F F0:PH} {b e1:Nat} {c4:Array Value} {er:Int} (h4:F b=some (.cells c4 e1 (0,0))) (hc4:c4.size=2) (h0:F0.le F) (hb:F0 b=none):
  (#[Value.slice none 0 0,Value.int .i64 0]:Array Value).size=2∧(∀v∈(#[Value.slice none 0 0,Value.int .i64 0]:Array Value).toList,ak v)∧∃c e,F (Addr.mk b 0 none).block=some (.cells c e (0,0))∧(Addr.mk b 0 none).spot=none∧(Addr.mk b 0 none).off+2≤c.size∧
   atF (F.set (Addr.mk b 0 none).block (.cells (wr c (Addr.mk b 0 none).off (#[Value.slice none 0 0,Value.int .i64 0]:Array Value).toList) e)) fun F=>∃vres:Array Value,vres.size=2∧F.row (Addr.mk b 0 none) vres∧DRV F (.tuple #[.agg vres,vi er]) (gO,er)∧F0.le F:=
 fc (K:=fun vres F'=>DRV F' (.tuple #[.agg vres,vi er]) (gO,er)∧F0.le F') (DV.none F) h4 hc4 ⟨⟨_,rfl,DV.none _⟩,au h0 hb⟩
abbrev fL:Op2:=fun x y=>x && y
abbrev oOr:Op2:=fun x y=>x || y
abbrev iv:Op2:=fun x y=> !(x==y)
theorem O3:az prog 95=true:=by kernel_rfl
theorem O4 (F0:PH):Je F0 (.func (.func 95) #[] #[]) fL:=⟨95,#[],#[],rfl,O3,fun x y F _=>by
 refine Pi ?_
 unfold LX
 exact ⟨fun h=>⟨by simp [h],PH.le_rfl⟩,fun h=>⟨by simp [h],PH.le_rfl⟩⟩⟩
section
variable {F:PH} {v w u:Array Value} {a b c:Dia}
theorem Co (ha:DV F v a) (hb:DV F w b):ae prog 27 #[.agg v,.agg w] F fun r F'=>DRV F' r (bin fL a b)∧F.le F':=by
 refine Pd ?_
 unfold LP
 intro b2 hb2
 refine atI ?_
 have l2:=ac (.cells v 33) hb2
 have q2:=am F b2 (.cells v 33)
 generalize F.set b2 (.cells v 33)=F2 at*
 intro b3 hb3
 refine atI ?_
 have lx:=ac (.cells w 33) hb3
 have q3:=am F2 b3 (.cells w 33)
 replace q2:=lx _ _ q2
 have l3:=l2.trans lx
 clear lx
 generalize F2.set b3 (.cells w 33)=F3 at*
 intro b4 hb4
 refine atI ?_
 have f4:F b4=none:=aM l3 hb4
 have lx:=ac (.cells #[Value.slice none 0 0,Value.int .i64 0] 33) hb4
 have q4:=am F3 b4 (.cells #[Value.slice none 0 0,Value.int .i64 0] 33)
 replace q2:=lx _ _ q2
 replace q3:=lx _ _ q3
 have l4:=l3.trans lx
 clear lx
 generalize F3.set b4 (.cells #[Value.slice none 0 0,Value.int .i64 0] 33)=F4 at*
 refine ⟨v,ha.size,aj q2,w,hb.size,aj q3,?_⟩
 have ld:=dN l4 f4
 refine (wD (uR (ha.le ld) (hb.le ld) (O4 _)) q4).mono ?_
 rintro _ F5 ⟨z,rfl,⟨G,hz,lG,gG⟩,l5,q5⟩
 exact ⟨_,_,rfl,FV hz lG gG q5 rfl (l4.trans l5) f4⟩
abbrev tv (v:Nat):Tr:=node v (leaf false) (leaf true)
theorem Jf (v:Nat):dia (tv v)=([⟨(v:Int),0,1⟩],2):=by
 have e:aF (tv v)=[tv v]:=by simp [aF,vis,tv]
 unfold dia
 rw [e]
 simp [brs,br,num,tv]
theorem Ld {v:Nat} (h:v<64):(tv v).ok:=⟨h,h,h,by simp,trivial,trivial⟩
theorem je (x:Bool):ae prog 30 #[.bool x] F fun r F'=>∃w,r=.agg w∧DV F' w (dia (leaf x))∧F.le F':=by
 refine Pf ?_
 unfold LU
 intro b2 hb2
 refine atI ?_
 have l2:=ac (.cells #[Value.slice none 0 0,Value.int .i64 0] 33) hb2
 have q2:=am F b2 (.cells #[Value.slice none 0 0,Value.int .i64 0] 33)
 refine ⟨fun h=> ?_,fun h=> ?_⟩
 ·subst h
  have hd:∀G:PH,DV G #[Value.slice none 0 0,Value.int .i64 1] (dia (leaf true)):=fun G=>⟨Sl.nil,rfl,RdS.nil G 3⟩
  exact fc (K:=fun vres F'=>∃w,Value.agg vres=.agg w∧DV F' w (dia (leaf true))∧F.le F') (hd F) q2 rfl ⟨_,rfl,hd _,au l2 hb2⟩
 ·subst h
  have hd:∀G:PH,DV G #[Value.slice none 0 0,Value.int .i64 0] (dia (leaf false)):=fun G=>⟨Sl.nil,rfl,RdS.nil G 3⟩
  exact fc (K:=fun vres F'=>∃w,Value.agg vres=.agg w∧DV F' w (dia (leaf false))∧F.le F') (hd F) q2 rfl ⟨_,rfl,hd _,au l2 hb2⟩
def qp (v:Int):DR:=if v<0∨63<v then (gO,1) else (dia (tv v.toNat),0)
end
end Go.Proofs.YtenpmjhnhepfdaaGreatDoor
