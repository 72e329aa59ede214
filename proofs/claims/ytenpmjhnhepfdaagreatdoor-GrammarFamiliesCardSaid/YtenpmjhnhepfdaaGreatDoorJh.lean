/-
  Families: the numbers of configurations, and the walk.
-/
import Derived.Test.YtenpmjhnhepfdaaGreatDoorEq
import Derived.Test.YtenpmjhnhepfdaaGreatDoorEs
import Derived.Test.YtenpmjhnhepfdaaGreatDoorTopj
namespace Go.Proofs.YtenpmjhnhepfdaaGreatDoor
open Go Go.Proofs.Tryz Tr
def cN:Nat→Nat→(Cf→Bool)→Cf→Nat
 |0,_,f,c=>if f c then 1 else 0
 |m+1,i,f,c=>cN m (i+1) f (c.set i false)+cN m (i+1) f (c.set i true)
theorem ip {f g:Cf→Bool}:∀(m i:Nat) (c:Cf),(∀d:Cf,(∀j,j<i→d j=c j)→f d=g d)→cN m i f c=cN m i g c
 |0,i,c,h=>by simp only [cN];rw [h c fun j _=>rfl]
 |m+1,i,c,h=>by
  simp only [cN]
  have key:∀b,cN m (i+1) f (c.set i b)=cN m (i+1) g (c.set i b):=fun b=>ip m (i+1) _ fun d hd=>h d fun j hj=>by
   rw [hd j (by omega)]
   unfold Cf.set
   rw [if_neg (by omega)]
  rw [key,key]
theorem kD {n:Nat} (hn:n≤64):∀(m i:Nat) (t:Tr) (c:Cf),t.ok→bi n t→i≤t.top→i+m=n→cN m i t.ev c=cv n t*2 ^ (min n t.top - i)
 |0,i,t,c,hok,hb,hi,hm=>by
  have e:t=leaf (t.ev c):=by
   cases t with
   |leaf b=>rfl
   |node v l h=>obtain ⟨h1,_⟩:=hb;simp only [top] at hi;omega
  rw [e]
  have:min n (leaf (t.ev c)).top - i=0:=by omega
  rw [this]
  rcases Bool.eq_false_or_eq_true (t.ev c) with h|h<;>simp [cN,cv,Tr.ev,h]
 |m+1,i,t,c,hok,hb,hi,hm=>by
  by_cases hit:i+1≤t.top
  ·simp only [cN]
   rw [kD hn m (i+1) t _ hok hb hit (by omega),kD hn m (i+1) t _ hok hb hit (by omega)]
   have e:min n t.top - i=(min n t.top - (i+1))+1:=by omega
   rw [e,Nat.pow_succ]
   generalize 2 ^ (min n t.top - (i+1))=q
   rw [← Nat.mul_assoc,Nat.mul_two]
  ·cases t with
   |leaf b=>simp only [top] at hi hit;omega
   |node v l h=>
    simp only [top] at hi hit
    obtain rfl:i=v:=by omega
    obtain ⟨h0,h1,h2,h3,h4,h5⟩:=hok
    obtain ⟨b0,b1,b2⟩:=hb
    simp only [cN]
    have el:cN m (i+1) (node i l h).ev (c.set i false)=cN m (i+1) l.ev (c.set i false):=ip _ _ _ fun d hd=>by
     have:d i=false:=by rw [hd i (by omega)];unfold Cf.set;simp
     simp only [Tr.ev,this,Bool.false_eq_true,if_false]
    have eh:cN m (i+1) (node i l h).ev (c.set i true)=cN m (i+1) h.ev (c.set i true):=ip _ _ _ fun d hd=>by
     have:d i=true:=by rw [hd i (by omega)];unfold Cf.set;simp
     simp only [Tr.ev,this,if_true]
    rw [el,eh,kD hn m (i+1) l _ h4 b1 (by omega) (by omega),kD hn m (i+1) h _ h5 b2 (by omega) (by omega)]
    have e:min n (node i l h).top - i=0:=by simp only [top];omega
    rw [e]
    simp only [cv]
    omega
theorem iU {n:Nat} (hn:n≤64) {t:Tr} (hok:t.ok) (hb:bi n t) (c:Cf):gr n t=cN n 0 t.ev c:=by
 rw [kD hn n 0 t c hok hb (Nat.zero_le _) (Nat.zero_add n)]
 rfl
set_option maxRecDepth 10000
theorem sW {f:Cf→Bool}:∀(m i:Nat) (c:Cf),cN (m+1) i f c=cN m i (fun x=>f (x.set (i+m) false)) c+cN m i (fun x=>f (x.set (i+m) true)) c
 |0,i,c=>by simp only [cN];rfl
 |m+1,i,c=>by
  show cN (m+1) (i+1) f (c.set i false)+cN (m+1) (i+1) f (c.set i true)=_
  rw [sW m (i+1),sW m (i+1),show i+1+m=i+(m+1) by omega]
  simp only [cN]
  omega
theorem iq:∀(n:Nat),n≤30→∀(t:Tr) (a:Nat),t.ok→bi n t→gr n t=(dg n t a).length
 |0,_,t,a,hk,hb=>by
  rw [iU (by omega) hk hb fun _=>false]
  cases t with
  |node v l h=>exact absurd hb.1 (by omega)
  |leaf x=>cases x<;>simp [cN,dg,Tr.ev]
 |n+1,hn,t,a,hk,hb=>by
  obtain ⟨k0,_,e0⟩:=bX n false hk
  obtain ⟨k1,_,e1⟩:=bX n true hk
  have b0:=bC (b:=false) t hk hb
  have b1:=bC (b:=true) t hk hb
  have key:gr (n+1) t=gr n (fx n false t)+gr n (fx n true t):=by
   rw [iU (by omega) hk hb fun _=>false,iU (by omega) k0 b0 fun _=>false,iU (by omega) k1 b1 fun _=>false,sW,Nat.zero_add]
   congr 1
   ·exact ip _ _ _ fun d _=>(e0 d).symm
   ·exact ip _ _ _ fun d _=>(e1 d).symm
  rw [key,iq n (by omega) _ a k0 b0,iq n (by omega) _ (a+2 ^ n) k1 b1]
  by_cases ht:t=leaf false
  ·subst ht
   rw [bT,eJ,eJ,bT,bT]
   rfl
  ·rw [dg,if_neg ht,List.length_append]
noncomputable def jt (g:Gr) (c:Nat):Bool:=decide (c<2 ^ g.conds.length) && (tre g.fam).ev (cfg (c:Nat))
noncomputable def kE (g:Gr) (k:Nat):Nat:=((List.range k).filter (jt g)).length
section
variable {g:Gr}
theorem zM (k:Nat):kE g (k+1)=kE g k+if jt g k=true then 1 else 0:=by
 unfold kE
 rw [List.range_succ,List.filter_append,List.length_append]
 congr 1
 by_cases h:jt g k=true
 ·simp [h]
 ·simp [h]
theorem sX (hc:g.conds.length≤3):d3 g=(List.range 16).filter (jt g):=by
 have hp:2 ^ g.conds.length≤16:=Nat.le_trans (Nat.pow_le_pow_right (by decide) hc) (by decide)
 rw [show 16=2 ^ g.conds.length+(16 - 2 ^ g.conds.length) by omega,List.range_add,List.filter_append]
 have h2:(List.map (fun x=>2 ^ g.conds.length+x) (List.range (16 - 2 ^ g.conds.length))).filter (jt g)=[]:=by
  rw [List.filter_eq_nil_iff]
  intro x hx
  obtain ⟨y,_,rfl⟩:=List.mem_map.1 hx
  unfold jt
  rw [decide_eq_false (by omega)]
  simp
 rw [h2,List.append_nil]
 unfold d3
 apply List.filter_congr
 intro c hc
 unfold jt
 rw [decide_eq_true (List.mem_range.1 hc),Bool.true_and]
theorem uD (hc:g.conds.length≤3):(d3 g).length=kE g 16:=congrArg List.length (sX hc)
theorem sY (hc:g.conds.length≤3):(d3 g).length≤8:=by
 unfold d3
 refine Nat.le_trans (List.length_filter_le _ _) ?_
 rw [List.length_range]
 exact Nat.le_trans (Nat.pow_le_pow_right (by decide) hc) (by decide)
theorem yu (hc:g.conds.length≤3) {k:Nat} (hk:k<16) (hq:jt g k=true):(d3 g)[kE g k]? =some k:=by
 rw [sX hc,show 16=k+(1+(15 - k)) by omega,List.range_add,List.filter_append]
 unfold kE
 rw [List.getElem?_append_right (Nat.le_refl _),Nat.sub_self,Nat.add_comm 1 (15 - k),List.range_succ_eq_map,List.map_cons,Nat.add_zero,List.filter_cons_of_pos hq]
 rfl
theorem CQ (hc:g.conds.length≤3) {i k:Nat} (h:(d3 g)[i]? =some k):jt g k=true:=by
 have:=List.mem_of_getElem? h
 rw [sX hc,List.mem_filter] at this
 exact this.2
theorem Eu (hO:OkG g) (hc:g.conds.length≤3) (k:Nat):inG g (k:Int)=jt g k:=by
 unfold inG inW jt
 rw [decide_eq_true (eY.2 hO),Bool.true_and]
 have hp:0<2 ^ g.conds.length:=Nat.pow_pos (by decide)
 have e1:(Int.fdiv (k:Int) (2 ^ min g.conds.length 64)=0)↔k<2 ^ g.conds.length:=by
  rw [show min g.conds.length 64=g.conds.length by omega,Int.fdiv_eq_ediv_of_nonneg _ (by exact_mod_cast Nat.zero_le (2 ^ g.conds.length)),show ((2:Int) ^ g.conds.length)=((2 ^ g.conds.length:Nat):Int) by norm_cast,← Int.natCast_ediv,← Nat.div_eq_zero_iff_lt hp]
  omega
 have e2:jq g.fam (k:Int)=(tre g.fam).ev (cfg (k:Nat)):=by
  unfold jq
  rw [if_neg (by rw [hO.fam.2.2.1.1];decide)]
 rw [e2]
 congr 1
 exact decide_eq_decide.2 e1
end
theorem RdS.at1 {F:PH} {s:Sl} {vs:List Value} (h:RdS F s 1 vs) {i:Nat} {v:Value} (hi:vs[i]? =some v):∃a,s.base=some a∧0≤(i:Int)∧(i:Int)<(s.len:Int)∧F.cell (Addr.add a (Int.toNat (i:Int)*1))=some v:=by
 obtain ⟨hlt,rfl⟩:=List.getElem?_eq_some_iff.1 hi
 have hl:=h.len
 obtain ⟨b,o,h1,h2⟩:=h.cells (by omega)
 refine ⟨_,h1,by omega,by omega,?_⟩
 have:=h2 i hlt
 simpa using this
theorem uE {F:PH} {s:Sl} {n:Nat} (h:NV F s n) (hn:n<4294967296):ae prog 33 #[s.v] F fun r F'=>r=.tuple #[.int .u64 (n:Int),.bool true]∧F.le F':=by
 have hl:(lm n).length≤1∧(n=0∨lm n=[n]):=by
  by_cases h0:n=0
  ·rw [h0,cW];exact ⟨by decide,.inl rfl⟩
  ·rw [ie h0,show n / 4294967296=0 by omega,cW,Nat.mod_eq_of_lt hn]
   exact ⟨Nat.le_refl _,.inr rfl⟩
 have hs:=RdS.ulen h
 refine Ow ?_
 unfold LM
 refine (jr h (by omega)).mono ?_
 rintro _ F' ⟨rfl,rfl⟩
 refine ⟨_,rfl,fun hc=>(by cases hc),fun _=>⟨fun hc=>by omega,fun _=> ?_⟩⟩
 refine ⟨fun m a i F1=>F1=F'∧((i=0∧a=0∧m=1∧n≠0)∨(i=(s.len:Int)∧a=(n:Int)∧m=0)),if n=0 then 0 else 1,⟨rfl,?_⟩,?_⟩
 ·by_cases h0:n=0
  ·rw [if_pos h0]
   refine .inr ⟨?_,by rw [h0];rfl,rfl⟩
   rw [hs,h0,cW];rfl
  ·rw [if_neg h0]
   exact .inl ⟨rfl,rfl,rfl,h0⟩
 rintro m a i F1 ⟨rfl,hi⟩
 unfold Cw
 rcases hi with ⟨rfl,rfl,rfl,h0⟩|⟨rfl,rfl,rfl⟩
 ·have e:=hl.2.resolve_left h0
  have hs1:s.len=1:=by rw [hs,e];rfl
  refine ⟨fun _=> ?_,fun hc=>absurd (by omega) hc⟩
  obtain ⟨b,h1,h2⟩:=RdS.u32 h (i:=0) (x:=n) (by rw [e];rfl)
  refine ⟨b,h1,by omega,by omega,_,h2,by decide,0,by omega,rfl,.inr ⟨by rw [hs1];rfl,?_,rfl⟩⟩
  have e1:IntKind.u64.wrap (IntKind.u64.wrap (n:Int)*2 ^ (min (Int.toNat (IntKind.i64.wrap ((32:Int)*0))) (IntKind.u64).bits))=(n:Int):=by
   rw [show (2:Int) ^ (min (Int.toNat (IntKind.i64.wrap ((32:Int)*0))) (IntKind.u64).bits)=1 from rfl,Int.mul_one,cV (x:=(n:Int)) (by omega) (by omega),cV (by omega) (by omega)]
  rw [e1]
  have:=vd (a:=0) (b:=n) (by decide) (by omega)
  rw [Nat.zero_or] at this
  exact this
 ·exact ⟨fun hc=>by omega,fun _=>⟨rfl,le_refl' _⟩⟩
section
variable {F G:PH} {b6:Nat} {g:Gr} {w:Array Value} {s:Sl} {most:Nat}
structure FK (F G:PH) (g:Gr) (b6:Nat) (w:Array Value) (s:Sl):Prop where
 lF:F.le G
 hT:Tab G
 gv:GV G w g
 q6:G b6=some (.cells w 39)
 hs:RdS G s 1 ((d3 g).map vC)
 mg:MG g
 bd:Bd g 18 10
theorem FK.le {G':PH} (h:FK F G g b6 w s) (hl:G.le G'):FK F G' g b6 w s:=⟨aa h.lF hl,h.hT.le hl,h.gv.le hl,hl _ _ h.q6,h.hs.le hl,h.mg,h.bd⟩
theorem FK.len (h:FK F G g b6 w s):s.len=(d3 g).length:=by
 have:=h.hs.len
 rw [List.length_map] at this
 omega
theorem uF (hO:OkG g) {m:Int} (hm:1≤m):eX g m=((d3 g).take m.toNat,decide (((d3 g).length:Int)≤m)):=by
 unfold eX
 rw [if_neg (by rw [eY.2 hO];omega)]
theorem IV (K:FK F G g b6 w s):uL (most:Int) true b6 s ((kE g 16:Nat):Int) (RT F) G:=by
 have hO:=K.mg.ok K.bd (by decide) (by decide)
 have hc:=K.bd.c
 have h8:=sY hc
 have hA:=uD hc
 have hs:=K.len
 have ek:IntKind.i64.wrap (Int.tmod (most:Int) (10:Int))=((most % 10:Nat):Int):=by rw [show Int.tmod (most:Int) (10:Int)=((most % 10:Nat):Int) from fC most 10,aJ (by omega) (by omega)]
 unfold uL
 rw [ek]
 have hk:most % 10<10:=Nat.mod_lt _ (by decide)
 generalize most % 10=k at hk
 refine ⟨w,K.gv.size,aj K.q6,?_⟩
 refine (eA K.hT K.gv (K.mg.sz K.bd) (by omega) (k:Int)).mono ?_
 rintro _ F2 ⟨⟨s2,rfl,hs2⟩,l2⟩
 have lE:=aa K.lF l2
 refine ⟨_,_,rfl,fun h0=> ?_,fun h0=> ?_⟩
 ·have e:eX g (k:Int)=([],false):=by unfold eX;rw [if_pos (.inr (by omega))]
  rw [e] at hs2 ⊢
  have:=hs2.len
  simp at this
  exact ⟨fun _=>⟨fun _=>⟨rfl,lE⟩,fun hc=>(by cases hc)⟩,fun hc=>absurd (by omega) hc⟩
 ·rw [uF hO (by omega)] at hs2 ⊢
  have hl2:=hs2.len
  rw [List.length_map,List.length_take,Int.toNat_natCast] at hl2
  rw [Int.toNat_natCast] at hs2
  refine ⟨fun hc=>absurd (by omega) hc,fun _=>⟨fun hb=> ?_,fun _=> ?_⟩⟩
  ·rw [show decide ((s.len:Int)≤(k:Int))=decide (((d3 g).length:Int)≤(k:Int)) by rw [hs]] at hb
   exact tc _ hb
  ·refine cZ (uK · true s _ s2 _) s2.len (fun _ F'=>F2.le F') (le_refl' _) fun i F3 N hi l3 next=> ?_
   unfold uK
   refine ⟨fun hc=> ?_,fun _=> ?_⟩
   ·have hlt:i<(d3 g).length:=by omega
    have hx:=List.getElem?_eq_getElem hlt
    generalize (d3 g)[i]=x at hx
    obtain ⟨a1,p1,p2,p3,p4⟩:=(hs2.le l3).at1 (i:=i) (v:=vC x) (by rw [List.getElem?_map,List.getElem?_take_of_lt (by omega),hx];rfl)
    obtain ⟨a2,r1,r2,r3,r4⟩:=((K.hs.le l2).le l3).at1 (i:=i) (v:=vC x) (by rw [List.getElem?_map,hx];rfl)
    refine ⟨a1,p1,p2,p3,_,p4,a2,r1,r2,r3,_,r4,fun hc=>absurd rfl hc,fun _=> ?_⟩
    rw [aV (by omega:i<s2.len) (by omega)]
    exact next _ (by omega) l3
   ·unfold Af
    exact ⟨fun _=>⟨rfl,aa lE l3⟩,fun hc=>absurd (by omega) hc⟩
theorem IW (K:FK F G g b6 w s):∃(I2:Nat→Int→Int→PH→Prop) (m2:Nat),I2 m2 (0:Int) (0:Int) G∧∀m2 a c F1,I2 m2 a c F1→uN (fun y z F=>∃m',m'<m2∧I2 m' y z F) (most:Int) true b6 s (RT F) a c F1:=by
 have hO:=K.mg.ok K.bd (by decide) (by decide)
 have hc3:=K.bd.c
 have h8:=sY hc3
 have hA:=uD hc3
 have hs:=K.len
 refine ⟨fun m a c F'=>∃k:Nat,a=(kE g k:Nat)∧c=(k:Int)∧k≤16∧m=16 - k∧G.le F',16,⟨0,rfl,rfl,by omega,rfl,le_refl' _⟩,?_⟩
 rintro m a c F1 ⟨k,rfl,rfl,hk,rfl,l1⟩
 replace K:=K.le l1
 unfold uN
 refine ⟨fun hc=>⟨w,K.gv.size,aj K.q6,?_⟩,fun hc=> ?_⟩
 ·have hk:k<16:=by omega
  refine (AD K.hT K.gv (K.mg.sz K.bd) (by omega) (by omega)).mono ?_
  rintro _ F2 ⟨rfl,l2⟩
  rw [Eu hO hc3]
  have j4:rk (fun y z F'=>∃m',m'<16 - k∧∃k':Nat,y=(kE g k':Nat)∧z=(k':Int)∧k'≤16∧m'=16 - k'∧G.le F') (most:Int) true b6 s ((kE g k:Nat):Int) (k:Int) (jt g k) (RT F) F2:=by
   have e1:IntKind.u64.wrap ((k:Int)+1)=((k+1:Nat):Int):=by rw [cV (by omega) (by omega)];omega
   have hle:kE g k≤16:=Nat.le_trans (List.length_filter_le _ _) (by rw [List.length_range];omega)
   unfold rk
   refine ⟨fun hq=> ?_,fun hq=> ?_⟩
   all_goals
    unfold uM
    rw [e1]
    refine ⟨16 - (k+1),by omega,k+1,?_,rfl,by omega,rfl,aa l1 l2⟩
    rw [zM,hq]
   ·rw [aJ (by omega) (by omega)];simp
   ·simp
  refine ⟨_,rfl,fun hlt=> ?_,fun hlt=> ?_⟩
  ·have hlt:kE g k<(d3 g).length:=by omega
   have hx:=List.getElem?_eq_getElem hlt
   generalize (d3 g)[kE g k]=x at hx
   obtain ⟨a1,p1,p2,p3,p4⟩:=(K.hs.le l2).at1 (i:=kE g k) (v:=vC x) (by rw [List.getElem?_map,hx];rfl)
   have e:decide ((x:Int)=(k:Int))=jt g k:=by
    cases hq:jt g k with
    |true=>
     rw [yu hc3 hk hq] at hx
     cases hx
     exact decide_eq_true rfl
    |false=>
     refine decide_eq_false fun e=> ?_
     obtain rfl:x=k:=by omega
     rw [CQ hc3 hx] at hq
     cases hq
   refine ⟨a1,p1,p2,p3,_,p4,fun hb=> ?_,fun _=>j4⟩
   rw [e] at hb
   exact tc _ hb
  ·refine ⟨fun hb=> ?_,fun _=>j4⟩
   cases hq:jt g k with
   |true=>
    have:=(List.getElem?_eq_some_iff.1 (yu hc3 hk hq)).1
    omega
   |false=>rw [hq] at hb;cases hb
 ·obtain rfl:k=16:=by omega
  exact IV K
end
theorem CR {F:PH} {v:Array Value} {x:Rw} {most:Nat} (hT:Tab F) (hx:yG F v x):ae prog 10 #[.agg v,.int .u8 (most:Int)] F (RT F):=by
 refine Nv ?_
 unfold IZ
 refine fresh fun b2 F1 l1 q2 _=> ?_
 refine (zO (hT.le l1)).mono ?_
 rintro _ F2 ⟨rfl,l2⟩
 have l12:=aa l1 l2
 have hv5:v.size=5:=by obtain ⟨⟨_,_,_,rfl,_⟩,_,_⟩:=hx;rfl
 refine ⟨_,rfl,v,hv5,aj (l2 _ _ q2),?_⟩
 refine (tw (hx.le l12)).mono ?_
 rintro _ F3 ⟨⟨w,rfl,hw⟩,l3⟩
 have l13:=aa l12 l3
 refine ⟨_,rfl,?_⟩
 refine Jn hw.st (fun b6 F4 l4 q6=> ?_) rfl hw.size
 have l14:=aa l13 l4
 replace hw:=hw.le l4
 obtain ⟨mg,bd⟩:=CZ x
 generalize ln x=g at*
 have hO:=mg.ok bd (by decide) (by decide)
 have hc3:=bd.c
 have h8:=sY hc3
 obtain ⟨t,ht,_,hf⟩:=mg.fam
 obtain ⟨c,m,tt,s,p,l,f,rfl,hs⟩:=id hw
 have ec:=hs.c.len (by decide)
 refine ⟨_,ld q6 rfl,_,hw.size,aj q6,?_⟩
 refine (eA (hT.le l14) hw (mg.sz bd) (by omega) 100).mono ?_
 rintro _ F5 ⟨⟨s5,rfl,hs5⟩,l5⟩
 rw [uF hO (by decide)] at hs5 ⊢
 rw [show Int.toNat 100=100 from rfl,List.take_of_length_le (by omega)] at hs5
 refine ⟨_,_,rfl,#[m.v,vi g.fam.2],rfl,nX (l5 _ _ q6) rfl,?_⟩
 refine (vV (DV.mk (hs.n.le l5)) (c.len:Int)).mono ?_
 rintro _ F6 ⟨s6,rfl,hs6,l6⟩
 have l56:=aa l5 l6
 have ecount:dM g.fam (c.len:Int)=((d3 g).length,0):=by
  rw [ec,hf,Cm (ht.small (by omega)) (by omega) ht.2,iq _ (by omega) t 0 ht.1 ht.2,gQ _ t ht.1 ht.2,List.length_map]
  unfold d3
  rw [hf,j9 ht.1]
 rw [ecount] at hs6 ⊢
 refine ⟨_,_,rfl,?_⟩
 refine (uE hs6 (by show (d3 g).length<_;omega)).mono ?_
 rintro _ F7 ⟨rfl,l7⟩
 have l57:=aa l56 l7
 have K:FK F F7 g b6 (g.arr c m tt s p l f) s5:=⟨aa l14 l57,hT.le (aa l14 l57),hw.le l57,l57 _ _ q6,hs5.le (aa l6 l7),mg,bd⟩
 have e5:=K.len
 rw [decide_eq_true (show ((d3 g).length:Int)≤100 by omega)]
 refine ⟨_,_,rfl,fun hc=>(by cases hc),fun _=>⟨fun hc=>absurd rfl hc,fun _=>⟨fun hc=>(by cases hc),fun _=>⟨fun hc=>absurd ?_ hc,fun _=>IW K⟩⟩⟩⟩
 rw [cV (by omega) (by omega),e5]
end Go.Proofs.YtenpmjhnhepfdaaGreatDoor
