/-
  FactsDerivations: the walk.
-/
import Derived.Test.YtcemhghkipgdiaaGreatDoorAb
import Derived.Test.YtcemhghkipgdiaaGreatDoorDh
import Derived.Test.YtcemhghkipgdiaaGreatDoorAm
namespace Go.Proofs.YtcemhghkipgdiaaGreatDoor
open Go Go.Proofs.Tryz Tr
set_option maxRecDepth 10000
section
end
section
end
theorem xk:∀(n:Nat) (c:Nat->Bool),∃m,m<2 ^ n/\∀i,i<n->m.testBit i=c i
 |0,c=>⟨0,by decide,λi h=>by omega⟩
 |n+1,c=>by
  obtain ⟨m,h1,h2⟩:=xk n λi=>c (i+1);have hb:=Bool.toNat_le (c 0);refine ⟨2*m+(c 0).toNat,by rw [Vj];omega,λi hi=> ?_⟩;cases i with
  |zero=>
   rw [Nat.testBit_zero];cases c 0
   ·rw [Bool.toNat_false];exact decide_eq_false (by omega)
   ·rw [Bool.toNat_true];exact decide_eq_true (by omega)
  |succ i=>rw [Nat.testBit_succ,show (2*m+(c 0).toNat) / 2=m by omega];exact h2 i (by omega)
theorem FE {g:Gr} {i m:Nat} (h:(jM g)[i]? =some m):m<2 ^ g.conds.length/\(tre g.fam).ev (cfg (m:Nat))=true:=by have:=TU h;unfold jM at this;obtain ⟨h1,h2⟩:=UZ.1 this;exact ⟨Uu.1 h1,h2⟩
theorem rz {g:Gr} (hc:g.conds.length<=3):(jM g).length<=8:=by unfold jM;refine UE (List.length_filter_le _ _) ?_;rw [Uq];exact UE (Um (by decide) hc) (by decide)
theorem FF {g:Gr} (hk:OkK g g.conds.length):0<(jM g).length:=by
 refine UO λe=>hk.fam0 ?_;refine eB hk.fam.1.1 trivial λc=> ?_;obtain ⟨m,h1,h2⟩:=xk g.conds.length c;cases he:(tre g.fam).ev c with
 |false=>rfl
 |true=>
  have:(tre g.fam).ev (cfg (m:Nat))=true:=by rw [<- he];exact kJ hk.fam.1.2 λi hi=>by rw [<- h2 i hi];simp [cfg]
  have hm:m∈jM g:=UZ.2 ⟨Uu.2 h1,this⟩;rw [T4 e] at hm;cases hm
theorem FG {g:Gr} (hk:OkG g) (hc:g.conds.length<=3):nG g 16=(jM g,true):=by have:=rz hc;unfold nG;rw [if_neg (by rw [oI.2 hk];decide),TV (by show _<=16;omega),decide_eq_true (by omega)]
theorem jG {F:PH} {v:Γ} {k:Nat} {t:Tr} {c:Int} (hk:k<=6) (ht:Sx k t) (hd:DV F v (dia t)) (c0:0<=c) (c1:c<18446744073709551616):aj prog 41 #[.agg v,.int .u64 c] F λr F'=>r=.bool (t.ev (cfg c))/\F.le F':=by rw [<- Fp (ht.small hk) c];exact y9 hd c0 c1
theorem FH {S:Int×Int->Tr} {nt n:Nat} {i:Int} (h0:0<=i) (h1:i<nt):(mv S nt n)[i.toNat]? =some (dia (S ((n:Int),i))):=by unfold mv;rw [T0,Ur (by omega),Uv,Int.toNat_of_nonneg h0]
theorem tJ {S:Int×Int->Tr} {nt n i:Nat} (h1:i<n):(jj S nt n)[i]? =some (mv S nt i):=by unfold jj;rw [T0,Ur h1];rfl
theorem Iq {g:Gr} {k:Nat} (hk:OkK g k) {c:Cf} {n t:Int} (f:Fst g.prods (aI g) c n t):0<=t/\t<g.toks.length:=by obtain ⟨x,hx,s,hs,hst,rfl⟩:=f.tok_mem;obtain ⟨h0,_,h4⟩:=(hk.prod hx).2.2.2 s hs;obtain ⟨tk,htk,_⟩:=h4 hst;have hlt:=(N6.1 htk).1;exact ⟨h0,by omega⟩
section
variable {F G F1:PH} {k:Nat}
theorem MB {w:Γ} {g:Gr} {U:Nat->Tr} {b4 nn kn:Nat} {cc:Int} {s us su:Sl} {ts:Φ} {ul:Δ} (lF:F.le G) (q6:G b4=some (.cells w 37)) (hg:GV G w g) (hk:OkK g k) (hst:g.start=0) (hkx:Int.tmod (IntKind.i64.wrap (nn:Int)) (s.len:Int)=kn)
  (hf:(tre g.fam).ev (cfg cc)=true) (c0:0<=cc) (c1:cc<18446744073709551616) (hus:RdS G us 1 (ul.map λi:Nat=>vi i)) (hul:ul.length<=40) (hY:Yl g.prods (aI g) (cfg cc) [⟨false,kn⟩] ts ul)
  (hU:KJ k g.prods (aI g) (tre g.fam) g.start U) (hsu:RL G su (xv U g.prods.length)) (h:St G F1 []):kH true b4 nn s cc us su (RT6 F) F1:=by
 have eus:=hus.len;rw [T1,Uh] at eus;obtain ⟨o1,o2,o3,o4⟩:=d6 hk.ok;unfold kH;refine bD (z6 · true b4 nn s cc us su _) ul.length (λi F'=>∃G':PH,G.le G'/\St G' F' []) ⟨G,aq _,h⟩ ?_;rintro i F2 N hi ⟨G2,l2,h⟩ next;have fin:vY true (RT6 F) F2:=by unfold vY;exact ⟨rfl,aa lF (aa l2 h.le)⟩
 unfold z6;refine ⟨λhlt=> ?_,λ_=>fin⟩;have hlt:i<ul.length:=by omega
 have e0:F2.cell (Addr.mk b4 6 none)=some (vi 0):=by obtain ⟨c,n,t,s,p,l,f,rfl,_⟩:=id hg;have:=bQ (ac (h.le _ _ (l2 _ _ q6))) (i:=6) (v:=vi g.start) rfl;rw [hst] at this;exact this
 refine ⟨0,e0,λhe=> ?_,λ_=>fin⟩;rw [hkx] at he;have hkn:kn=0:=by omega
 subst hkn;obtain ⟨pn,hpn⟩:∃pn,ul[i]? =some pn:=⟨_,N4 hlt⟩;obtain ⟨a,e1,e2,e3,e4⟩:=(hus.le (aa l2 h.le)).at6 (i:=i) (v:=vi pn) (by rw [T0,hpn];rfl);refine ⟨a,e1,e2,e3,(pn:Int),e4,?_⟩
 have hu:=hY.use (fam:=tre g.fam) (start:=g.start) (λs hs _=>by
  rw [TO.1 hs];have:=Rch.start (l:=g.prods) (P:=aI g) (start:=g.start) hf;rw [hst] at this ⊢
  exact this) pn (TU hpn)
 have hpl:pn<g.prods.length:=by obtain ⟨x,hx,_⟩:=id hu;exact (N6.1 hx).1
 have esu:=hsu.len (by decide);rw [xw] at esu;refine ixc (hsu.le l2) (by decide) (by omega) (by omega) λa2 y d hd hrow hy=> ?_;rw [N5,FN hpl] at hd;cases hd;refine ⟨y,Mem.len hy,aW h.le hrow,?_⟩;refine h.runv (jG hk.le (hU.sx pn) (show DV G2 y _ from hy) c0 c1) λG3 F3 l3 h=>⟨_,rfl,λhn=> ?_,λ_=> ?_⟩
 ·rw [(hU.iff pn _ hpl).2 hu] at hn;cases hn
 rw [aH hlt (by omega)];exact next _ hlt ⟨G3,aa l2 l3,h⟩
theorem nc {r0 r1 r2 r3 r4:Value} {x:Rw} {sm sl:Sl} {more:List Ln} {nn q:Nat} {bs:Δ} (hT:Tab F) (hx:wa F #[r0,r1,r2,r3,r4] x) (hm:RL F sm more) (hn:nn<256) (hq:q<256) (hl:RdS F sl 1 (bs.map vB)) (hb:∀b∈bs,b<256):
  aj prog 10 #[.agg #[r0,r1,r2,r3,r4,sm.v,vB nn,vB q,sl.v]] F (RT6 F):=by
 refine TG ?_;unfold Ri;refine (St.start F).newG λb1 G1 F1 l1 q1 _ h=> ?_;refine h.runv (ID (hT.le l1)) λG2 F2 l2 h=>⟨_,rfl,#[r0,r1,r2,r3,r4],rfl,kq (h.le _ _ (l2 _ _ q1)) rfl,sm,ld (h.le _ _ (l2 _ _ q1)) rfl,?_⟩;have l02:=aa l1 l2;refine h.run (P:=λr G'=>∃w,r=.agg w/\GV G' w (fQ x more)) (zt (hx.le l02) (hm.le l02)) λ_ G3 F3 hr l3 h=> ?_;obtain ⟨w,rfl,hg⟩:=hr;have l03:=aa l02 l3;refine ⟨w,rfl,?_⟩;have lg:=FK x more;have hok:=lg.ok (by omega);have hz:=lg.mg.sz lg.bd;have hrl:=lg.rl;have hst:=lg.mg.start;have hn0:=lg.bd.n0;have hc3:=lg.bd.c;generalize fQ x more=g at*;clear lg hm hx;obtain ⟨o1,o2,o3,o4⟩:=d6 hok.ok;have hk:=hok.le;refine h.var hg.st (λb4 G4 F4 l4 q6 h=> ?_) rfl hg.size;replace hg:=hg.le l4;have l04:=aa l03 l4;have q14:G4 b1=_:=l4 _ _ (l3 _ _ (l2 _ _ q1));have r6:∀{G' F':PH} {As:List (Ψ)},G4.le G'->St G' F' As->F'.row (Addr.mk b4 0 none) w:=λl h=>ac (h.le _ _ (l _ _ q6));refine ⟨(nn:Int),ld (h.le _ _ q14) rfl,?_⟩;have hg4:=hg;obtain ⟨c,n,t,s,p,l,f,rfl,hs⟩:=hg;have es:=hs.s.len (by decide);have ep:=hs.p.len (by decide);refine ⟨s,ld (h.le _ _ q6) rfl,by omega,_,rfl,r6 (aq _) h,?_⟩;have hkl:nn % g.nons.length<g.nons.length:=UF _ (UO hn0);have hkx:Int.tmod (IntKind.i64.wrap (nn:Int)) (s.len:Int)=((nn % g.nons.length:Nat):Int):=by rw [es,aP (by omega) (by omega),eM]
 rw [hkx];generalize nn % g.nons.length=kn at*;refine h.run (um (hT.le l04) hg4 hz (by omega) 16) λ_ G5 F5 hr l5 h=> ?_;obtain ⟨sc,rfl,hsc⟩:=hr;rw [FG hok.ok hc3] at hsc ⊢;have hcp:=FF hok;have hcs:=rz hc3;have esc:=hsc.len;rw [T1,Uh] at esc;have esc:(jM g).length=sc.len:=esc;refine ⟨sc,true,rfl,λh0=>absurd h0 (by omega),λ_=>⟨(q:Int),ld (h.le _ _ (l5 _ _ q14)) rfl,by omega,?_⟩⟩;have hqx:Int.tmod (IntKind.i64.wrap (q:Int)) (sc.len:Int)=((q % sc.len:Nat):Int):=by rw [aP (by omega) (by omega),eM]
 rw [hqx];have hql:q % sc.len<(jM g).length:=by rw [esc];exact UF _ (by omega)
 generalize q % sc.len=m at*;obtain ⟨cc,hcc⟩:∃cc,(jM g)[m]? =some cc:=⟨_,N4 hql⟩;obtain ⟨hclt,hf⟩:=FE hcc;have c1:cc<18446744073709551616:=Vn hclt (UE (Um (by decide) hc3) (by decide));obtain ⟨a49,e1,e2,e3,e4⟩:=(hsc.le h.le).at6 (i:=m) (v:=vC cc) (by rw [T0];rw [show (jM g,true).1=jM g from rfl,hcc];rfl);refine ⟨a49,e1,e2,e3,(cc:Int),e4,_,rfl,r6 l5 h,sl,ld (h.le _ _ (l5 _ _ q14)) rfl,?_⟩;have c0':(0:Int)<=(cc:Int):=by omega
 have c1':(cc:Int)<18446744073709551616:=by omega
 have l05:=aa l04 l5;refine h.run (xq (hg4.le l5) hok hf c0' c1' (hl.le l05) hb) λ_ G6 F6 hr l6 h=> ?_;obtain ⟨tk,us,ended,rfl,hres⟩:=hr;have l46:=aa l5 l6;have l06:=aa l04 l46;refine ⟨tk,us,ended,rfl,λ_=>⟨rfl,aa l06 h.le⟩,λhe=> ?_⟩;obtain ⟨ts,ul,hts,hus,htl,hul,hY⟩:=hres (by simpa using he);have ets:=hts.len;rw [T1,Uh] at ets;refine ⟨_,rfl,r6 l46 h,?_⟩;refine h.run (mj (hT.le l06) (hg4.le l46) hz hok hrl (by omega) (by omega)) λ_ G7 F7 hr l7 h=> ?_;obtain ⟨sn,N,rfl,hN,hsn⟩:=hr;have l47:=aa l46 l7;have l07:=aa l04 l47;refine ⟨sn,_,rfl,_,rfl,r6 l47 h,?_⟩;refine h.run (jf (hT.le l07) (hg4.le l47) hz hok hrl (by omega) (by omega)) λ_ G8 F8 hr l8 h=> ?_;obtain ⟨sd,D,rfl,hD,hsd⟩:=hr;have l48:=aa l47 l8;have l08:=aa l04 l48;refine ⟨sd,_,rfl,_,rfl,r6 l48 h,?_⟩;refine h.run (tY (hT.le l08) (hg4.le l48) hz hok hrl (by omega) (by omega) (by omega)) λ_ G9 F9 hr l9 h=> ?_;obtain ⟨sf,_,rfl,⟨S,hS,rfl⟩,hsf⟩:=hr;have l49:=aa l48 l9;have l09:=aa l04 l49;refine ⟨sf,_,rfl,_,rfl,r6 l49 h,?_⟩;refine h.run (rC (hT.le l09) (hg4.le l49) hz hok hrl (by omega)) λ_ G10 F10 hr l10 h=> ?_;obtain ⟨su,_,rfl,⟨U,hU,rfl⟩,hsu⟩:=hr;have l410:=aa l49 l10;have l010:=aa l04 l410;have l610:=aa l7 (aa l8 (aa l9 l10));replace hsn:=hsn.le (aa l8 (aa l9 l10));replace hsd:=hsd.le (aa l9 l10);replace hsf:=hsf.le l10;have en:=hsn.len (by decide);have ed:=hsd.len (by decide);have ef:=hsf.len (by decide);have eu:=hsu.len (by decide);rw [FL] at en ed;rw [tW] at ef;rw [xw] at eu;obtain ⟨y1,y2,y3⟩:=hY.one;refine ⟨su,_,rfl,λhle=>absurd hle (by omega),λ_=>⟨λhle=>absurd hle (by omega),λ_=>⟨λhle=>absurd hle (by omega),λ_=>⟨p,ld (h.le _ _ (l410 _ _ q6)) rfl,λhne=>absurd (by rw [eu,ep]) hne,λ_=> ?_⟩⟩⟩⟩;refine ixc hsd (by decide) (by omega) (by omega) λa111 c111 d hd hrow111 hc111=>⟨c111,Mem.len hc111,aW h.le hrow111,?_⟩;rw [xp (by omega) (by omega)] at hd;cases hd;refine h.runv (jG hk (hD.sx _) (show DV G10 c111 _ from hc111) c0' c1') λG11 F11 l11 h=>⟨_,rfl,λhn=> ?_,λ_=> ?_⟩
 ·rw [(hD.iff _ _).2 y1] at hn;cases hn
 have l411:=aa l410 l11;have l011:=aa l04 l411;have fin:∀{G' F':PH},G11.le G'->St G' F' []->kH true b4 nn s cc us su (RT6 F) F':=λ{G' F'} l h=>
  MB (aa l011 l) (l _ _ (l411 _ _ q6)) (hg4.le (aa l411 l)) hok hst hkx hf c0' c1' (hus.le (aa (aa l610 l11) l)) hul hY hU (hsu.le (aa l11 l)) h
 refine ⟨λhz0=> ?_,λhnz=> ?_⟩
 ·have e:ts=[]:=T4 (by omega);refine ixc (hsn.le l11) (by decide) (by omega) (by omega) λa123 c123 d hd hrow123 hc123=>⟨c123,Mem.len hc123,aW h.le hrow123,?_⟩;rw [xp (by omega) (by omega)] at hd;cases hd;refine h.runv (jG hk (hN.sx _) (show DV G11 c123 _ from hc123) c0' c1') λG12 F12 l12 h=>⟨_,rfl,λhn=> ?_,λ_=>⟨λhlt=>absurd hlt (by omega),λ_=>fin l12 h⟩⟩;rw [(hN.iff _ _).2 (y2 e)] at hn;cases hn
 ·refine ⟨λhpos=> ?_,λhnp=>absurd (by omega) hnp⟩;cases ts with
  |nil=>exact absurd hpos (by rw [<- ets];simp)
  |cons t0 ts'=>
  have hF:=y3 t0 ts' rfl;obtain ⟨t00,t01⟩:=Iq hok hF;have hsf11:=hsf.le l11;refine ixc hsf11 (by decide) (by omega) (by omega) λa136 c136 row hrw hrow136 hc136=> ?_;rw [N5,tJ hkl] at hrw;cases hrw;obtain ⟨sr,rfl,hsr⟩:=hc136;have esr:=hsr.len (by decide);have erl:(mv S g.toks.length kn).length=g.toks.length:=by unfold mv;rw [T1,Uq]
  rw [erl] at esr;obtain ⟨a140,f1,f2,f3,f4⟩:=((hts.le (aa l610 l11)).le h.le).at6 (i:=0) (v:=vi t0) rfl;refine ⟨sr,aS (aW h.le hrow136) rfl,a140,f1,f2,f3,t0,f4,λhle=>absurd hle (by omega),λ_=> ?_⟩;refine ixc hsf11 (by decide) (by omega) (by omega) λa146 c146 row hrw hrow146 hc146=> ?_;rw [N5,tJ hkl] at hrw;cases hrw;obtain ⟨sr',rfl,hsr'⟩:=hc146;have esr':=hsr'.len (by decide);rw [erl] at esr';refine ⟨sr',aS (aW h.le hrow146) rfl,a140,f1,f2,f3,t0,f4,?_⟩;refine ixc hsr' (by decide) t00 (by omega) λa151 c151 d hd hrow151 hc151=>⟨c151,Mem.len hc151,aW h.le hrow151,?_⟩;rw [FH t00 t01] at hd;cases hd;refine h.runv (jG hk (hS.sx _) (show DV G11 c151 _ from hc151) c0' c1') λG12 F12 l12 h=> ?_;obtain ⟨a140',g1,g2,g3,g4⟩:=((hts.le (aa l610 (aa l11 l12))).le h.le).at6 (i:=0) (v:=vi t0) rfl;rw [f1] at g1;cases g1;refine ⟨_,rfl,g4,aS (aW (aa l12 h.le) hrow146) rfl,g4,aS (aW (aa l12 h.le) hrow136) rfl,λhn=> ?_,λ_=>fin l12 h⟩;rw [(hS.iff _ _).2 hF] at hn;cases hn
end
end Go.Proofs.YtcemhghkipgdiaaGreatDoor
