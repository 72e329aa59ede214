/-
  sanity: the last part.
-/
import Derived.Test.YtenpmjhnhepfdaaGreatDoorIu
import Derived.Test.YtenpmjhnhepfdaaGreatDoorPhp
import Derived.Test.YtenpmjhnhepfdaaGreatDoorPhz
namespace Go.Proofs.YtenpmjhnhepfdaaGreatDoor
open Go Go.Proofs.Tryz Tr
set_option maxRecDepth 10000
theorem ww {g:Gr} (h1:bX g=false) (h2:¬eO g):cd g=54:=by
 unfold cd;rw [if_neg (by rw [h1];decide),if_pos h2]
theorem wx {g:Gr} (h1:bX g=false) (h2:eO g) (h3:¬de g.conds.length [] g.toks):cd g=51:=by
 unfold cd;rw [if_neg (by rw [h1];decide),if_neg (not_not_intro h2),if_pos h3]
theorem CT {g:Gr} (h1:bX g=false) (h2:eO g) (h3:de g.conds.length [] g.toks) (h4:¬dQ g):cd g=50:=by
 unfold cd;rw [if_neg (by rw [h1];decide),if_neg (not_not_intro h2),if_neg (not_not_intro h3),if_pos h4]
theorem mW {g:Gr} {e:Int} (h1:bX g=false) (h2:eO g) (h3:de g.conds.length [] g.toks) (h4:dQ g) (h5:bQ g [] g.prods=e) (h6:e≠0):cd g=e:=by
 unfold cd;rw [if_neg (by rw [h1];decide),if_neg (not_not_intro h2),if_neg (not_not_intro h3),if_neg (not_not_intro h4),if_pos (by rw [h5];exact h6),h5]
theorem CU {g:Gr} (h1:bX g=false) (h2:eO g) (h3:de g.conds.length [] g.toks) (h4:dQ g) (h5:bQ g [] g.prods=0) (h6:¬df g [] g.lvs):cd g=53:=by
 unfold cd;rw [if_neg (by rw [h1];decide),if_neg (not_not_intro h2),if_neg (not_not_intro h3),if_neg (not_not_intro h4),if_neg (by rw [h5];decide),if_pos h6]
theorem yp {g:Gr} {p:Pr} (h:¬dP g p) (l:List Pr) (done:List ByteArray):bQ g done (p::l)=50:=by unfold bQ;rw [if_pos h]
theorem sS {g:Gr} {p:Pr} {done:List ByteArray} (h1:dP g p) (h:¬y6 g done p) (l:List Pr):bQ g done (p::l)=52:=by unfold bQ;rw [if_neg (not_not_intro h1),if_pos h]
theorem kq {g:Gr} {p:Pr} (h1:dP g p) (h:y6 g [] p):bQ g [] [p]=0:=by unfold bQ;rw [if_neg (not_not_intro h1),if_neg (not_not_intro h)];rfl
theorem ji (n:Nat) (hn:n≤6):fV aF n:=(aQ n).fit hn
def aS:Gr:=⟨[],aF,[],[⟨#[83]⟩],[aY ⟨#[115]⟩ 0 []],0,[],[]⟩
def qQ:Gr:={aS with start:=1}
def Et:Gr:={aS with prods:=[aY ⟨#[115]⟩ (-1) []]}
def Eu:Gr:={aS with prods:=[aY ⟨#[]⟩ 0 []]}
def ia:Gr:={aS with conds:=[⟨#[116,114,117,101]⟩]}
def qR:Gr:={aS with fam:=dia (leaf false)}
def sT:Gr:={aS with toks:=[⟨⟨#[116]⟩,0,⟨#[43]⟩,[],⟨#[43]⟩,aF⟩]}
def gz:Gr:={aS with toks:=[⟨⟨#[116]⟩,0,⟨#[]⟩,[⟨1,97,122,0,0⟩],⟨#[43]⟩,aF⟩]}
def qS:List Tk:=[tkL ⟨#[40]⟩,tkL ⟨#[41]⟩]
def sU:Pr:={aY ⟨#[115]⟩ 0 [⟨true,0⟩,⟨false,0⟩,⟨true,1⟩] with brk:=true}
def mX:Gr:={aS with toks:=qS,prods:=[sU]}
def zQ:Gr:={aS with toks:=qS,prods:=[{sU with rank:=1}]}
def ks:Gr:={aS with lvs:=[⟨[0],0,aF⟩,⟨[0],0,aF⟩]}
theorem qT {g:Gr} (h1:g.conds=[]) (h2:g.fam=aF):eO g:=by
 unfold eO bh
 rw [h1,h2]
 exact ⟨fun s hs=>(by cases hs),⟨.nil,by simp⟩,ji 0 (by decide),by decide⟩
theorem mY {g:Gr} (h1:g.nons=[⟨#[83]⟩]) (h2:g.start=0):dQ g:=by
 unfold dQ bh
 rw [h1,h2]
 exact ⟨by decide,by decide,by decide⟩
theorem Ew {g:Gr} {p:Pr} (h1:p.name≠emp) (h2:p.cond=aF) (hc:g.conds=[]) (h3: -1≤p.rank∧p.rank≤1) (h4:jz p):y6 g [] p:=⟨h1,by simp,by rw [h2,hc];exact ji 0 (by decide),h3.1,h3.2,h4⟩
theorem zR {g:Gr} {p:Pr} (h1:g.nons=[⟨#[83]⟩]) (h2:p.left=0) (h3:p.right=[]):dP g p:=by
 unfold dP gJ
 rw [h1,h2,h3]
 exact ⟨⟨by decide,fun _=>by decide,fun h=>(by cases h)⟩,fun s hs=>(by cases hs)⟩
theorem mZ {g:Gr} (h1:g.nons=[⟨#[83]⟩]) (hc:g.conds=[]) (hp:g.prods=[aY ⟨#[115]⟩ 0 []]):bQ g [] g.prods=0:=by
 rw [hp]
 exact kq (zR h1 rfl rfl) (Ew (by decide) rfl hc (by decide) (by decide))
theorem zS:OkG aS:=⟨by decide,qT rfl rfl,trivial,mY rfl rfl,mZ rfl rfl rfl,trivial,fun x hx=>(by cases hx)⟩
theorem ku:cd aS=0:=dD.2 zS
theorem yq:cd qQ=50:=CT (by decide) (qT rfl rfl) trivial fun h=>by have:=h.2.2;revert this;decide
theorem zU:cd Et=50:=mW (by decide) (qT rfl rfl) trivial (mY rfl rfl) (yp (fun h=>by have:=h.1.1;revert this;decide) _ _) (by decide)
theorem zV:cd Eu=52:=mW (by decide) (qT rfl rfl) trivial (mY rfl rfl) (sS (zR rfl rfl rfl) (fun h=>h.1 rfl) _) (by decide)
theorem qU:cd ia=54:=ww (by decide) fun h=>(h.1 _ (List.mem_singleton.2 rfl)).2.1 rfl
theorem yr:cd qR=54:=ww (by decide) fun h=>h.2.2.2 rfl
theorem zW:cd sT=51:=wx (by decide) (qT rfl rfl) fun h=>by have:=(h.1.2.2.2.2.2.1 (by decide)).1;revert this;decide
theorem CV:GoodL [⟨1,97,122,0,0⟩]:=lP (by decide) (by decide) (by decide) (by decide)
theorem sV:cd gz=51:=wx (by decide) (qT rfl rfl) fun h=>by
 obtain ⟨-,hw⟩:=(h.1.2.2.2.2.2.2 rfl).2.1 rfl
 have e0:([⟨1,97,122,0,0⟩]:List Nd)[0]? =some ⟨1,97,122,0,0⟩:=rfl
 obtain ⟨ns,ht⟩:=gg CV
 unfold LgL at hw
 have hw:Lg (bo [⟨1,97,122,0,0⟩]).pat (bs ⟨#[43]⟩):=hw
 generalize bo [⟨1,97,122,0,0⟩]=t at ht hw
 have ht:bZ [⟨1,97,122,0,0⟩] 0 t ns:=ht
 cases ht with
 |emp hx hk=>rw [e0] at hx;cases hx;cases hk
 |seq hx hk=>rw [e0] at hx;cases hx;cases hk
 |alt hx hk=>rw [e0] at hx;cases hx;cases hk
 |rep hx hk=>rw [e0] at hx;cases hx;cases hk
 | @rng _ lo hi x hx hk hlo hhi _ _=>
  rw [e0] at hx
  cases hx
  obtain ⟨b,hb,h1,h2⟩:=hw
  have hb:[43]=[b]:=hb
  have:(97:Int)=lo:=hlo
  cases hb
  omega
theorem wy {g:Gr} (hc:g.conds=[]) (ht:g.toks=qS):de g.conds.length [] g.toks:=by
 rw [ht]
 refine nf _ _ ⟨eX (by decide) (by decide),eX (by decide) (by decide),trivial⟩ fun t ht=> ?_
 rw [hc]
 rcases List.mem_cons.1 ht with rfl|ht
 ·exact ji 0 (by decide)
 ·rw [List.mem_singleton.1 ht];exact ji 0 (by decide)
theorem wz {g:Gr} {p:Pr} (h1:g.nons=[⟨#[83]⟩]) (ht:g.toks=qS) (h2:p.left=0) (h3:p.right=[⟨true,0⟩,⟨false,0⟩,⟨true,1⟩]):dP g p:=by
 unfold dP gJ
 rw [h1,h2,h3,ht]
 refine ⟨⟨by decide,fun _=>by decide,fun h=>(by cases h)⟩,fun s hs=> ?_⟩
 rcases List.mem_cons.1 hs with rfl|hs
 ·exact ⟨by decide,fun h=>(by cases h),fun _=>⟨_,rfl,rfl⟩⟩
 rcases List.mem_cons.1 hs with rfl|hs
 ·exact ⟨by decide,fun _=>by decide,fun h=>(by cases h)⟩
 rcases List.mem_cons.1 hs with rfl|hs
 ·exact ⟨by decide,fun h=>(by cases h),fun _=>⟨_,rfl,rfl⟩⟩
 cases hs
theorem sW:cd mX=0:=dD.2 ⟨by decide,qT rfl rfl,wy rfl rfl,mY rfl rfl,kq (wz rfl rfl rfl rfl) (Ew (by decide) rfl rfl (by decide) (by decide)),trivial,fun x hx=>(by cases hx)⟩
theorem zX:cd zQ=52:=mW (by decide) (qT rfl rfl) (wy rfl rfl) (mY rfl rfl) (sS (wz rfl rfl rfl rfl) (fun h=>by have:=(h.2.2.2.2.2.2.2.2 rfl).2.1;revert this;decide) _) (by decide)
theorem yt:cd ks=53:=CU (by decide) (qT rfl rfl) trivial (mY rfl rfl) (mZ rfl rfl rfl) fun h=>h.2.1.2.2.2.2.2 0 (by decide) (by decide)
theorem uA {l:List Int} {n:Nat} (hn:n≤6) {m v k:Nat} (h:v+(m+1)=n) (c:Cf):(dS l (m+1) v k).ev c=((c v && (dS l m (v+1) (k+2 ^ v)).ev c) || ((dS l m (v+1) k).ev c && (!c v))):=by
 have hv:Sx n (tv v):=Sx.tv (by omega) hn
 have h1:=iV l hn m (v+1) (k+2 ^ v) (by omega)
 have h2:=iV l hn m (v+1) k (by omega)
 have hx:=hv.ap2 (o:=hD) (Sx.leaf n true)
 have e1:(tv v).ev c=c v:=by
  show (if c v=true then (leaf true).ev c else (leaf false).ev c)=c v
  cases c v<;>rfl
 have et:dS l (m+1) v k=ap2 oOr (ap2 g0 (tv v) (dS l m (v+1) (k+2 ^ v))) (ap2 g0 (dS l m (v+1) k) (ap2 hD (tv v) (leaf true))):=rfl
 rw [et,(fG (hv.ap2 (o:=g0) h1).1 (h2.ap2 (o:=g0) hx).1).2,(fG hv.1 h1.1).2,(fG h2.1 hx.1).2,(fG hv.1 (Sx.leaf n true).1).2,e1]
 cases c v<;>cases (dS l m (v+1) (k+2 ^ v)).ev c<;>cases (dS l m (v+1) k).ev c<;>rfl
noncomputable def yu:Tr:=dS [14] 2 0 0
theorem zY (c:Cf):yu.ev c=(c 0 || c 1):=by
 unfold yu
 rw [uA (n:=2) (by decide) rfl,uA (n:=2) (by decide) rfl,uA (n:=2) (by decide) rfl]
 have b0:oJ [14] 0=false:=by decide
 have b1:oJ [14] 1=true:=by decide
 have b2:oJ [14] 2=true:=by decide
 have b3:oJ [14] 3=true:=by decide
 show (c 0 && (c 1 && oJ [14] 3 || oJ [14] 1 && !c 1) || (c 1 && oJ [14] 2 || oJ [14] 0 && !c 1) && !c 0)=_
 rw [b0,b1,b2,b3]
 cases c 0<;>cases c 1<;>rfl
noncomputable def qV:Gr:={aS with conds:=[⟨#[65]⟩,⟨#[66]⟩],fam:=dia yu}
theorem zZ:Sx 2 yu:=iV _ (by decide) 2 0 0 rfl
theorem z6:OkG qV:=by
 obtain ⟨o1,o2,_⟩:=Ai (n:=2) (by decide)
 refine ⟨by decide,⟨o1,o2,zZ.fit (by decide),fun e=> ?_⟩,trivial,mY rfl rfl,?_,trivial,fun x hx=>(by cases hx)⟩
 ·have:=ta e
  have h1:=zY (fun _=>true)
  rw [this] at h1
  cases h1
 ·exact kq (zR rfl rfl rfl) ⟨by decide,by simp,ji 2 (by decide),by decide,by decide,by decide⟩
theorem sX:tF qV=[1,2,3]:=by
 unfold tF
 have e:tre qV.fam=yu:=jV zZ.1
 rw [e]
 simp only [zY]
 decide
theorem qW:gp qV 2=([1,2],false):=by
 unfold gp
 rw [if_neg (by rw [dD.2 z6];decide),sX]
 rfl
theorem qX:gp qV 3=([1,2,3],true):=by
 unfold gp
 rw [if_neg (by rw [dD.2 z6];decide),sX]
 rfl
theorem dV {g:Gr} (h1:∀s∈g.conds,s.size≤1000000000) (h2:∀t∈g.toks,t.smp.size≤100000) (h3:∀l∈g.lvs,l.ps.length≤1000000000) (h4:g.fils=[]):Sz g:=⟨h1,h2,h3,fun f hf=>by rw [h4] at hf;cases hf⟩
def uB:List Nat:=[0,0,1,0,1,1,83,1,1,115,0,0,0,1,0,1,0,0,0,0,0,0,0,0,0]
theorem pO:eGr aS=uB:=by decide+kernel
theorem z7:NN aS:=by
 refine ⟨⟨fun b hb=>(by cases hb),by decide⟩,fun t ht=>(by cases ht),fun p hp=> ?_,by decide,fun l hl=>(by cases hl),fun f hf=>(by cases hf)⟩
 rw [List.mem_singleton.1 hp]
 exact ⟨by decide,fun s hs=>(by cases hs),⟨fun b hb=>(by cases hb),by decide⟩,by decide,by decide,fun x hx=>(by cases hx),by decide,by decide,by decide,by decide⟩
theorem z8:Sm aS:=by
 refine ⟨by decide,by decide,by decide,by decide,by decide,by decide,by decide,fun x hx=>(by cases hx),fun x hx=> ?_,fun x hx=>(by cases hx),fun x hx=>(by cases hx)⟩
 rw [List.mem_singleton.1 hx]
 exact ⟨by decide,by decide,by decide⟩
variable {R:VR} {F:PH}
set_option maxRecDepth 10000
set_option maxHeartbeats 4000000
def Aa (v_17:Bool) (b7:Nat) (R:VR) (F:PH):Prop:=
 Lr F 9 (Am b7 0) fun v_200=>
 ac prog 21 #[(.agg v_200),(.int .u64 0)] F fun v F=>∃v_201,∃v_201_1,v=(.tuple #[(.agg v_201),(.int .i64 v_201_1)])∧
 Nb F (.cells zG 39) fun b15 F=>
 av F (Am b15 0) 9 v_201 fun F=>
 (Bc (v_201_1=0) (
  Lr F 9 (Am b15 0) fun v_207=>
  Lr F 9 (Am b7 0) fun v_208=>
  Cbo 19 #[(.agg v_207),(.agg v_208)] F fun v_209 F=>
  (Bb (v_209) (
   R (.bool v_17) F) (
   R (.bool false) F))) (
  R (.bool false) F))
def Ab (N1:Int→PH→Prop) (c_1:Int) (v_17:Bool) (b6 b7:Nat) (R:VR) (i_14:Int) (F:PH):Prop:=
 Ls F (Am b6 8) fun v_178=>
 (Bc (i_14<(v_178.len:Int)) (
  Ls F (Am b7 8) fun v_184=>
  Ix v_184 i_14 fun a186_=>
  Lr F 2 (Addr.add (Addr.add a186_ (Int.toNat i_14*9)) 7) fun v_188=>
  Ls F (Am b6 8) fun v_191=>
  Ix v_191 i_14 fun a193_=>
  Lr F 2 (Addr.add (Addr.add a193_ (Int.toNat i_14*9)) 7) fun v_195=>
  Cbo 31 #[(.agg v_188),(.int .u64 0)] F fun v_189 F=>
  F.row (Addr.add (Addr.add a193_ (Int.toNat i_14*9)) 7) v_195∧F.cell (Am b6 8)=some (Sl.v v_191)∧F.cell (Am b7 8)=some (Sl.v v_184)∧Cbo 31 #[(.agg v_195),(.int .u64 c_1)] F fun v_197 F=>
  F.cell (Am b6 8)=some (Sl.v v_191)∧F.cell (Am b7 8)=some (Sl.v v_184)∧(Bb ((!(v_189==v_197))) (
   R (.bool false) F) (
   N1 (IntKind.i64.wrap (i_14+1)) F))) (
  Aa v_17 b7 R F))
def Ac (c_1:Int) (v_17:Bool) (b6 b7:Nat) (R:VR) (F:PH):Prop:=
 (Lp 0 F fun N i_14 F=>
  Ab N c_1 v_17 b6 b7 R i_14 F)
def Ad (N2:Int→PH→Prop) (c_1:Int) (v_17:Bool) (b6 b7:Nat) (R:VR) (i_12:Int) (F:PH):Prop:=
 Ls F (Am b6 5) fun v_130=>
 (Bc (i_12<(v_130.len:Int)) (
  Ls F (Am b7 5) fun v_136=>
  Ix v_136 i_12 fun a138_=>
  Lr F 13 (Addr.add a138_ (Int.toNat i_12*13)) fun v_139=>
  Nb F (.cells zP 67) fun b13 F=>
  av F (Am b13 0) 13 v_139 fun F=>
  Lr F 2 (Am b13 3) fun v_141=>
  Ls F (Am b6 5) fun v_144=>
  Ix v_144 i_12 fun a146_=>
  Lr F 2 (Addr.add (Addr.add a146_ (Int.toNat i_12*13)) 3) fun v_148=>
  Cbo 31 #[(.agg v_141),(.int .u64 0)] F fun v_142 F=>
  F.row (Addr.add (Addr.add a146_ (Int.toNat i_12*13)) 3) v_148∧F.cell (Am b6 5)=some (Sl.v v_144)∧Cbo 31 #[(.agg v_148),(.int .u64 c_1)] F fun v_150 F=>
  F.cell (Am b6 5)=some (Sl.v v_144)∧(Bb ((!(v_142==v_150))) (
   R (.bool false) F) (
   Lx F (Am b13 0) fun v_154=>
   Ls F (Am b6 5) fun v_156=>
   Ix v_156 i_12 fun a158_=>
   Lx F (Addr.add a158_ (Int.toNat i_12*13)) fun v_160=>
   (Bb ((!(v_154.toList==v_160.toList))) (
    R (.bool false) F) (
    Ls F (Am b13 2) fun v_165=>
    Ls F (Am b6 5) fun v_168=>
    Ix v_168 i_12 fun a170_=>
    Ls F (Addr.add (Addr.add a170_ (Int.toNat i_12*13)) 2) fun v_172=>
    (Bc ((v_165.len:Int)≠(v_172.len:Int)) (
     R (.bool false) F) (
     N2 (IntKind.i64.wrap (i_12+1)) F))))))) (
  Ac c_1 v_17 b6 b7 R F))
def Ae (c_1:Int) (v_17:Bool) (b6 b7:Nat) (R:VR) (F:PH):Prop:=
 (Lp 0 F fun N i_12 F=>
  Ad N c_1 v_17 b6 b7 R i_12 F)
def wA (N3:Int→PH→Prop) (c_1:Int) (v_17:Bool) (b6 b7:Nat) (R:VR) (i_11:Int) (F:PH):Prop:=
 Ls F (Am b6 3) fun v_107=>
 (Bc (i_11<(v_107.len:Int)) (
  Ls F (Am b7 3) fun v_113=>
  Ix v_113 i_11 fun a115_=>
  Lr F 2 (Addr.add (Addr.add a115_ (Int.toNat i_11*7)) 5) fun v_117=>
  Ls F (Am b6 3) fun v_120=>
  Ix v_120 i_11 fun a122_=>
  Lr F 2 (Addr.add (Addr.add a122_ (Int.toNat i_11*7)) 5) fun v_124=>
  Cbo 31 #[(.agg v_117),(.int .u64 0)] F fun v_118 F=>
  F.row (Addr.add (Addr.add a122_ (Int.toNat i_11*7)) 5) v_124∧F.cell (Am b6 3)=some (Sl.v v_120)∧F.cell (Am b7 3)=some (Sl.v v_113)∧Cbo 31 #[(.agg v_124),(.int .u64 c_1)] F fun v_126 F=>
  F.cell (Am b6 3)=some (Sl.v v_120)∧F.cell (Am b7 3)=some (Sl.v v_113)∧(Bb ((!(v_118==v_126))) (
   R (.bool false) F) (
   N3 (IntKind.i64.wrap (i_11+1)) F))) (
  Ae c_1 v_17 b6 b7 R F))
def bQ9 (x_0:Array Value) (c_1:Int) (R:VR) (F:PH):Prop:=
 Nb F (.cells x_0 26) fun b2 F=>
 Cbo 11 #[] F fun v_17 F=>
 Lr F 5 (Am b2 0) fun v_18=>
 Ca 13 #[(.agg v_18)] F fun v_19 F=>
 Nb F (.cells zG 39) fun b6 F=>
 av F (Am b6 0) 9 v_19 fun F=>
 Lr F 9 (Am b6 0) fun v_21=>
 ac prog 21 #[(.agg v_21),(.int .u64 c_1)] F fun v F=>∃v_23,∃v_23_1,v=(.tuple #[(.agg v_23),(.int .i64 v_23_1)])∧
 Nb F (.cells zG 39) fun b7 F=>
 av F (Am b7 0) 9 v_23 fun F=>
 Lr F 9 (Am b6 0) fun v_26=>
 Cbo 25 #[(.agg v_26),(.int .u64 c_1)] F fun v_28 F=>
 (Bb ((!v_28)) (
  (Bc (v_23_1=1) (
   R (.bool v_17) F) (
   R (.bool false) F))) (
  (Bc (v_23_1≠0) (
   R (.bool false) F) (
   Lr F 9 (Am b7 0) fun v_38=>
   Ci 20 #[(.agg v_38)] F fun v_39 F=>
   (Bc (v_39≠0) (
    R (.bool false) F) (
    Lr F 9 (Am b7 0) fun v_43=>
    Cbo 25 #[(.agg v_43),(.int .u64 0)] F fun v_44 F=>
    (Bb ((!v_44)) (
     R (.bool false) F) (
     Lr F 9 (Am b7 0) fun v_48=>
     Cbo 25 #[(.agg v_48),(.int .u64 1)] F fun v_49 F=>
     (Bb (v_49) (
      R (.bool false) F) (
      Ls F (Am b7 3) fun v_53=>
      Ls F (Am b6 3) fun v_56=>
      (Bc ((v_53.len:Int)≠(v_56.len:Int)) (
       R (.bool false) F) (
       Ls F (Am b7 5) fun v_62=>
       Ls F (Am b6 5) fun v_65=>
       (Bc ((v_62.len:Int)≠(v_65.len:Int)) (
        R (.bool false) F) (
        Ls F (Am b7 7) fun v_71=>
        Ls F (Am b6 7) fun v_74=>
        (Bc ((v_71.len:Int)≠(v_74.len:Int)) (
         R (.bool false) F) (
         Ls F (Am b7 8) fun v_80=>
         Ls F (Am b6 8) fun v_83=>
         (Bc ((v_80.len:Int)≠(v_83.len:Int)) (
          R (.bool false) F) (
          Lr F 9 (Am b7 0) fun v_88=>
          ac prog 23 #[(.agg v_88),(.int .i64 2)] F fun v F=>∃v_89,∃v_89_1,v=(.tuple #[(Sl.v v_89),(.bool v_89_1)])∧
          (Bc ((v_89.len:Int)≠1) (
           R (.bool false) F) (
           Ix v_89 0 fun a97_=>
           Lk F .u64 (Addr.add a97_ (Int.toNat 0*1)) fun v_98=>
           (Bc (v_98≠0) (
            R (.bool false) F) (
            (Bb ((!v_89_1)) (
             R (.bool false) F) (
             (Lp 0 F fun N i_11 F=>
              wA N c_1 v_17 b6 b7 R i_11 F)))))))))))))))))))))))))
theorem cQ9 {x_0:Array Value} {c_1:Int} (h:bQ9 x_0 c_1 R F):ac prog 9 #[(.agg x_0),(.int .u64 c_1)] F R:=Rx.sxC (args:=[(.agg x_0),(.int .u64 c_1)]) (.T .N (.T .N (.T .N (.T .N (.T .N (.T .N (.T .N (.T .N (.J false [] (.T .N (.L [(11,.int .i64)] .N)) (.J false [] (.T .N (.L [(12,.int .i64)] .N)) (.J false [] (.T .N (.L [(14,.int .i64)] .N)) .N))))))))))) (by kernel_rfl) h
def eW (codes_8 more_14:Bool) (v_167:Sl) (v_167_1:Int) (lists_22:Bool) (R:VR) (F:PH):Prop:=
 (Bb (codes_8) (
  (Bb (more_14) (
   (Bb (lists_22) (
    (Bc (v_167_1=0) (
     ∃v_216,rdo prog (Conv.bytesToString (Sl.v v_167)) F (.string v_216)∧
     Cs 36 #[] F fun v_217 F=>
     rdo prog (Conv.bytesToString (Sl.v v_167)) F (.string v_216)∧∃v_218,rdo prog (Conv.bytesToString (Sl.v v_217)) F (.string v_218)∧
     R (.bool (v_216.toList==v_218.toList)) F) (
     R (.bool false) F))) (
    R (.bool false) F))) (
   R (.bool false) F))) (
  R (.bool false) F))
def iU (b2:Nat) (codes_8 more_14:Bool) (R:VR) (F:PH):Prop:=
 Ca 34 #[] F fun v_149 F=>
 Nb F (.cells zG 39) fun b15 F=>
 av F (Am b15 0) 9 v_149 fun F=>
 Nb F (.cells #[(.string ⟨#[65]⟩),(.string ⟨#[66]⟩)] 9) fun b150 F=>
 sto F (Am b15 0) (Sl.v (Sb b150 2)) fun F=>
 Nb F (.cells #[(.int .u8 14)] 5) fun b152 F=>
 Ca 35 #[(Sl.v (Sb b152 1)),(.int .i64 2)] F fun v_153 F=>
 av F (Am b15 1) 2 v_153 fun F=>
 Lr F 9 (Am b15 0) fun v_156=>
 ac prog 23 #[(.agg v_156),(.int .i64 2)] F fun v F=>∃v_157,∃v_157_1,v=(.tuple #[(Sl.v v_157),(.bool v_157_1)])∧
 Lr F 9 (Am b15 0) fun v_161=>
 ac prog 23 #[(.agg v_161),(.int .i64 3)] F fun v F=>∃v_162,∃v_162_1,v=(.tuple #[(Sl.v v_162),(.bool v_162_1)])∧
 Lr F 9 (Am b2 0) fun v_166=>
 ac prog 14 #[(.agg v_166)] F fun v F=>∃v_167,∃v_167_1,v=(.tuple #[(Sl.v v_167),(.int .i64 v_167_1)])∧
 (Bc ((v_157.len:Int)=2) (
  Ix v_157 0 fun a175_=>
  Lk F .u64 (Addr.add a175_ (Int.toNat 0*1)) fun v_176=>
  (Bc (v_176=1) (
   Ix v_157 1 fun a181_=>
   Lk F .u64 (Addr.add a181_ (Int.toNat 1*1)) fun v_182=>
   (Bc (v_182=2) (
    (Bb ((!v_157_1)) (
     (Bc ((v_162.len:Int)=3) (
      Ix v_162 2 fun a196_=>
      Lk F .u64 (Addr.add a196_ (Int.toNat 2*1)) fun v_197=>
      (Bc (v_197=3) (
       eW codes_8 more_14 v_167 v_167_1 v_162_1 R F) (
       eW codes_8 more_14 v_167 v_167_1 false R F))) (
      eW codes_8 more_14 v_167 v_167_1 false R F))) (
     eW codes_8 more_14 v_167 v_167_1 false R F))) (
    eW codes_8 more_14 v_167 v_167_1 false R F))) (
   eW codes_8 more_14 v_167 v_167_1 false R F))) (
  eW codes_8 more_14 v_167 v_167_1 false R F))
def gA (b1 b2:Nat) (codes_8:Bool) (R:VR) (F:PH):Prop:=
 Ca 34 #[] F fun v_71 F=>
 Ca 34 #[] F fun v_72 F=>
 Ca 34 #[] F fun v_73 F=>
 Ca 34 #[] F fun v_74 F=>
 Ca 34 #[] F fun v_75 F=>
 Nb F (.cells zG 39) fun b9 F=>
 Nb F (.cells zG 39) fun b10 F=>
 Nb F (.cells zG 39) fun b11 F=>
 Nb F (.cells zG 39) fun b12 F=>
 Nb F (.cells zG 39) fun b13 F=>
 av F (Am b9 0) 9 v_71 fun F=>
 av F (Am b10 0) 9 v_72 fun F=>
 av F (Am b11 0) 9 v_73 fun F=>
 av F (Am b12 0) 9 v_74 fun F=>
 av F (Am b13 0) 9 v_75 fun F=>
 Lr F 2 (Am b1 0) fun v_76=>
 v_76.size=2∧(wr (Array.setIfInBounds (Array.setIfInBounds (Array.setIfInBounds zT 0 (.string ⟨#[116]⟩)) 2 (.string ⟨#[43]⟩)) 4 (.string ⟨#[43]⟩)) 5 v_76.toList).size=7∧Nb F (.cells (wr (Array.setIfInBounds (Array.setIfInBounds (Array.setIfInBounds zT 0 (.string ⟨#[116]⟩)) 2 (.string ⟨#[43]⟩)) 4 (.string ⟨#[43]⟩)) 5 v_76.toList) 79) fun b78 F=>
 sto F (Am b9 3) (Sl.v (Sb b78 1)) fun F=>
 (#[(.int .i64 1),(.int .i64 97),(.int .i64 122),.int .i64 0,.int .i64 0]:Array Value).size=5∧Nb F (.cells (#[(.int .i64 1),(.int .i64 97),(.int .i64 122),.int .i64 0,.int .i64 0]:Array Value) 97) fun b81 F=>
 Lr F 2 (Am b1 0) fun v_82=>
 v_82.size=2∧(wr (Array.setIfInBounds (Array.setIfInBounds (Array.setIfInBounds zT 0 (.string ⟨#[116]⟩)) 3 (Sl.v (Sb b81 1))) 4 (.string ⟨#[43]⟩)) 5 v_82.toList).size=7∧Nb F (.cells (wr (Array.setIfInBounds (Array.setIfInBounds (Array.setIfInBounds zT 0 (.string ⟨#[116]⟩)) 3 (Sl.v (Sb b81 1))) 4 (.string ⟨#[43]⟩)) 5 v_82.toList) 79) fun b84 F=>
 sto F (Am b10 3) (Sl.v (Sb b84 1)) fun F=>
 Lr F 2 (Am b1 0) fun v_86=>
 v_86.size=2∧Lr F 2 (Am b1 0) fun v_88=>
 v_88.size=2∧(wr (Array.setIfInBounds (Array.setIfInBounds zT 0 (.string ⟨#[40]⟩)) 2 (.string ⟨#[40]⟩)) 5 v_86.toList).size=7∧(wr (Array.setIfInBounds (Array.setIfInBounds zT 0 (.string ⟨#[41]⟩)) 2 (.string ⟨#[41]⟩)) 5 v_88.toList).size=7∧Nb F (.cells (wr (wr (#[.string ⟨#[]⟩,.int .i64 0,.string ⟨#[]⟩,.slice none 0 0,.string ⟨#[]⟩,.slice none 0 0,.int .i64 0,.string ⟨#[]⟩,.int .i64 0,.string ⟨#[]⟩,.slice none 0 0,.string ⟨#[]⟩,.slice none 0 0,.int .i64 0]:Array Value) 0 (wr (Array.setIfInBounds (Array.setIfInBounds zT 0 (.string ⟨#[40]⟩)) 2 (.string ⟨#[40]⟩)) 5 v_86.toList).toList) 7 (wr (Array.setIfInBounds (Array.setIfInBounds zT 0 (.string ⟨#[41]⟩)) 2 (.string ⟨#[41]⟩)) 5 v_88.toList).toList) 79) fun b90 F=>
 sto F (Am b11 3) (Sl.v (Sb b90 2)) fun F=>
 Ls F (Am b11 5) fun v_93=>
 (#[(.bool true),.int .i64 0]:Array Value).size=2∧(#[.bool false,.int .i64 0]:Array Value).size=2∧(#[(.bool true),(.int .i64 1)]:Array Value).size=2∧Nb F (.cells (wr (wr (wr (#[.bool false,.int .i64 0,.bool false,.int .i64 0,.bool false,.int .i64 0]:Array Value) 0 (#[(.bool true),.int .i64 0]:Array Value).toList) 2 (#[.bool false,.int .i64 0]:Array Value).toList) 4 (#[(.bool true),(.int .i64 1)]:Array Value).toList) 69) fun b97 F=>
 Ix v_93 0 fun a98_=>
 sto F (Addr.add (Addr.add a98_ (Int.toNat 0*13)) 2) (Sl.v (Sb b97 3)) fun F=>
 Ls F (Am b11 5) fun v_101=>
 Ix v_101 0 fun a102_=>
 sto F (Addr.add (Addr.add a102_ (Int.toNat 0*13)) 5) (.bool true) fun F=>
 Ls F (Am b11 3) fun v_105=>
 sto F (Am b12 3) (Sl.v v_105) fun F=>
 Ls F (Am b12 5) fun v_108=>
 Ls F (Am b11 5) fun v_110=>
 Ix v_110 0 fun a111_=>
 Lr F 13 (Addr.add a111_ (Int.toNat 0*13)) fun v_112=>
 Ix v_108 0 fun a113_=>
 av F (Addr.add a113_ (Int.toNat 0*13)) 13 v_112 fun F=>
 Ls F (Am b12 5) fun v_115=>
 Ix v_115 0 fun a116_=>
 sto F (Addr.add (Addr.add a116_ (Int.toNat 0*13)) 6) (.int .i64 1) fun F=>
 Nb F (.cells #[(.int .i64 0)] 3) fun b118 F=>
 Lr F 2 (Am b1 0) fun v_119=>
 v_119.size=2∧Nb F (.cells #[(.int .i64 0)] 3) fun b121 F=>
 Lr F 2 (Am b1 0) fun v_122=>
 v_122.size=2∧(wr (Array.setIfInBounds zL 0 (Sl.v (Sb b118 1))) 2 v_119.toList).size=4∧(wr (Array.setIfInBounds zL 0 (Sl.v (Sb b121 1))) 2 v_122.toList).size=4∧Nb F (.cells (wr (wr (#[.slice none 0 0,.int .i64 0,.slice none 0 0,.int .i64 0,.slice none 0 0,.int .i64 0,.slice none 0 0,.int .i64 0]:Array Value) 0 (wr (Array.setIfInBounds zL 0 (Sl.v (Sb b118 1))) 2 v_119.toList).toList) 4 (wr (Array.setIfInBounds zL 0 (Sl.v (Sb b121 1))) 2 v_122.toList).toList) 72) fun b124 F=>
 sto F (Am b13 7) (Sl.v (Sb b124 2)) fun F=>
 Lr F 9 (Am b9 0) fun v_126=>
 Ci 20 #[(.agg v_126)] F fun v_127 F=>
 (Bc (v_127=51) (
  Lr F 9 (Am b10 0) fun v_130=>
  Ci 20 #[(.agg v_130)] F fun v_131 F=>
  (Bc (v_131=51) (
   Lr F 9 (Am b11 0) fun v_135=>
   Ci 20 #[(.agg v_135)] F fun v_136 F=>
   (Bc (v_136=0) (
    Lr F 9 (Am b12 0) fun v_140=>
    Ci 20 #[(.agg v_140)] F fun v_141 F=>
    (Bc (v_141=52) (
     Lr F 9 (Am b13 0) fun v_145=>
     Ci 20 #[(.agg v_145)] F fun v_146 F=>
     iU b2 codes_8 (decide (v_146=53)) R F) (
     iU b2 codes_8 false R F))) (
    iU b2 codes_8 false R F))) (
   iU b2 codes_8 false R F))) (
  iU b2 codes_8 false R F))
def Jg (R:VR) (F:PH):Prop:=
 Ca 30 #[(.bool true)] F fun v_23 F=>
 Nb F (.cells zD 33) fun b1 F=>
 av F (Am b1 0) 2 v_23 fun F=>
 Ca 34 #[] F fun v_24 F=>
 Nb F (.cells zG 39) fun b2 F=>
 av F (Am b2 0) 9 v_24 fun F=>
 Ca 34 #[] F fun v_25 F=>
 Ca 34 #[] F fun v_26 F=>
 Ca 34 #[] F fun v_27 F=>
 Ca 34 #[] F fun v_28 F=>
 Ca 34 #[] F fun v_29 F=>
 Nb F (.cells zG 39) fun b3 F=>
 Nb F (.cells zG 39) fun b4 F=>
 Nb F (.cells zG 39) fun b5 F=>
 Nb F (.cells zG 39) fun b6 F=>
 Nb F (.cells zG 39) fun b7 F=>
 av F (Am b3 0) 9 v_25 fun F=>
 av F (Am b4 0) 9 v_26 fun F=>
 av F (Am b5 0) 9 v_27 fun F=>
 av F (Am b6 0) 9 v_28 fun F=>
 av F (Am b7 0) 9 v_29 fun F=>
 sto F (Am b3 6) (.int .i64 1) fun F=>
 Ls F (Am b4 5) fun v_32=>
 Ix v_32 0 fun a33_=>
 sto F (Addr.add (Addr.add a33_ (Int.toNat 0*13)) 1) (.int .i64 (-1:Int)) fun F=>
 Ls F (Am b5 5) fun v_36=>
 Ix v_36 0 fun a37_=>
 sto F (Addr.add a37_ (Int.toNat 0*13)) (.string ⟨#[]⟩) fun F=>
 Nb F (.cells #[(.string ⟨#[116,114,117,101]⟩)] 9) fun b39 F=>
 sto F (Am b6 0) (Sl.v (Sb b39 1)) fun F=>
 Ca 30 #[(.bool false)] F fun v_41 F=>
 av F (Am b7 1) 2 v_41 fun F=>
 Lr F 9 (Am b2 0) fun v_43=>
 Ci 20 #[(.agg v_43)] F fun v_44 F=>
 (Bc (v_44=0) (
  Lr F 9 (Am b3 0) fun v_47=>
  Ci 20 #[(.agg v_47)] F fun v_48 F=>
  (Bc (v_48=50) (
   Lr F 9 (Am b4 0) fun v_52=>
   Ci 20 #[(.agg v_52)] F fun v_53 F=>
   (Bc (v_53=50) (
    Lr F 9 (Am b5 0) fun v_57=>
    Ci 20 #[(.agg v_57)] F fun v_58 F=>
    (Bc (v_58=52) (
     Lr F 9 (Am b6 0) fun v_62=>
     Ci 20 #[(.agg v_62)] F fun v_63 F=>
     (Bc (v_63=54) (
      Lr F 9 (Am b7 0) fun v_67=>
      Ci 20 #[(.agg v_67)] F fun v_68 F=>
      gA b1 b2 (decide (v_68=54)) R F) (
      gA b1 b2 false R F))) (
     gA b1 b2 false R F))) (
    gA b1 b2 false R F))) (
   gA b1 b2 false R F))) (
  gA b1 b2 false R F))
theorem NC (h:Jg R F):ac prog 11 #[] F R:=Rx.sxC (args:=[]) (.T .N (.T .N (.T .N (.T .N (.T .N (.T .N (.T .N (.T .N (.T .N (.J false [(8,.bool)] .N (.T .N (.T .N (.T .N (.T .N (.T .N (.T .N (.T .N (.T .N (.T .N (.T .N (.J false [(14,.bool)] .N (.T .N (.T .N (.T .N (.T .N (.T .N (.T .N (.J false [(22,.bool)] .N .N)))))))))))))))))))))))))))) (by kernel_rfl) h
def Jh (R:VR) (F:PH):Prop:=
 Nb F (.cells zG 39) fun b0 F=>
 Ca 30 #[(.bool true)] F fun v_2 F=>
 Nb F (.cells zD 33) fun b1 F=>
 av F (Am b1 0) 2 v_2 fun F=>
 Lr F 2 (Am b1 0) fun v_3=>
 Nb F (.cells #[(.string ⟨#[83]⟩)] 9) fun b4 F=>
 Lr F 2 (Am b1 0) fun v_5=>
 v_5.size=2∧(wr (Array.setIfInBounds zP 0 (.string ⟨#[115]⟩)) 3 v_5.toList).size=13∧Nb F (.cells (wr (Array.setIfInBounds zP 0 (.string ⟨#[115]⟩)) 3 v_5.toList) 67) fun b7 F=>
 v_3.size=2∧av F (Am b0 0) 9 (Array.setIfInBounds (Array.setIfInBounds (wr zG 1 v_3.toList) 4 (Sl.v (Sb b4 1))) 5 (Sl.v (Sb b7 1))) fun F=>
 Rr 9 (Am b0 0) R F
theorem ND (h:Jh R F):ac prog 34 #[] F R:=Rx.sxC (args:=[]) .N (by kernel_rfl) h
def Ji (R:VR) (F:PH):Prop:=
 Nb F (.cells #[(.int .u8 0),(.int .u8 0),(.int .u8 1),(.int .u8 0),(.int .u8 1),(.int .u8 1),(.int .u8 83),(.int .u8 1),(.int .u8 1),(.int .u8 115),(.int .u8 0),(.int .u8 0),(.int .u8 0),(.int .u8 1),(.int .u8 0),(.int .u8 1),(.int .u8 0),(.int .u8 0),(.int .u8 0),(.int .u8 0),(.int .u8 0),(.int .u8 0),(.int .u8 0),(.int .u8 0),(.int .u8 0)] 5) fun b1 F=>
 R (Sl.v (Sb b1 25)) F
theorem NE (h:Ji R F):ac prog 36 #[] F R:=Rx.sxC (args:=[]) .N (by kernel_rfl) h
theorem kv (x:Bool) (F:PH):ac prog 30 #[.bool x] F fun r F'=>ro (dia (leaf x)) r F'∧F.le F':=
 (fg x).mono fun _ _ ⟨w,h1,h2,h3⟩=>⟨⟨w,h1,h2⟩,h3⟩
abbrev prS:Pr:=aY ⟨#[115]⟩ 0 []
section
variable {G F:PH} {As:List (PH→Prop)}
theorem St.first (h:St G F As) {Q:Value→PH→Prop} (k:∀G' F' b n s,G.le G'→RL G' n aF.1→RL G' s aS.nons→St G' F' (pt b (.cells (prS.arr Sl.nil n Sl.nil) 67)::As)→
   Q (.agg (aS.arr Sl.nil n Sl.nil s (Sl.mk (some (Addr.mk b 0 none)) 1 1) Sl.nil Sl.nil)) F'):ac prog 34 #[] F Q:=by
 refine ND ?_
 unfold Jh
 refine h.new fun b0 F1 h=> ?_
 refine h.run (kv true _) fun _ G1 F2 hr l1 h=> ?_
 obtain ⟨_,rfl,hw⟩:=hr
 obtain ⟨n,rfl,hn⟩:=hw.out
 refine ⟨_,rfl,?_⟩
 refine h.new fun b1 F3 h=> ?_
 refine h.put0 (w':= #[n.v,vi aF.2]) rfl rfl (by simp [aj,Sl.v]) fun F4 h=> ?_
 refine ⟨_,rfl,h.whole0,?_⟩
 refine h.newG fun b4 G2 F5 l2 q4 _ h=> ?_
 refine ⟨_,rfl,h.whole0,rfl,rfl,?_⟩
 refine h.new fun b7 F6 h=> ?_
 refine ⟨rfl,?_⟩
 refine h.put2 (w':=aS.arr Sl.nil n Sl.nil (Sl.mk (some (Addr.mk b4 0 none)) 1 1) (Sl.mk (some (Addr.mk b7 0 none)) 1 1) Sl.nil Sl.nil) rfl rfl (by simp [aj,Sl.v]) fun F7 h=> ?_
 refine ⟨_,rfl,h.whole2,?_⟩
 exact k G2 F7 b7 n _ (aa l1 l2) (hn.le l2) (RL.strs.2 (RdS.new q4 rfl rfl (Nat.le_refl _))) h.front1.tail.front1.tail
theorem nc {b:Nat} {p:Pr} {r n l:Sl} {e:TypeId} (q:G b=some (.cells (p.arr r n l) e)) (h1:RL G r p.right) (h2:RL G n p.cond.1) (h3:RL G l p.lay):RL G (Sl.mk (some (Addr.mk b 0 none)) 1 1) [p]:=
 ⟨[_],.cons ⟨r,n,l,rfl,h1,h2,h3⟩ .nil,RdS.new q (by rw [cI];rfl) rfl (Nat.le_refl _)⟩
theorem St.firstG (h:St G F As) {Q:Value→PH→Prop} (k:∀G' F' n s p,G.le G'→RL G' n aF.1→RL G' s aS.nons→RL G' p aS.prods→St G' F' As→
   Q (.agg (aS.arr Sl.nil n Sl.nil s p Sl.nil Sl.nil)) F'):ac prog 34 #[] F Q:=by
 refine h.first fun G1 F1 b n s l1 hn hs h=> ?_
 obtain ⟨G2,l2,⟨H,hA,hH⟩,h⟩:=h.pin
 exact k G2 F1 n s _ (aa l1 l2) (hn.le l2) (hs.le l2) (nc (hH _ _ hA) (.nil _) (hn.le l2) (.nil _)) h
end
theorem qY (F:PH):ac prog 36 #[] F fun r F'=>(∃s:Sl,r=.slice s.base s.len s.cap∧RdS F' s 1 (uB.map vB))∧F.le F':=by
 refine NE ?_
 unfold Ji
 refine (St.start F).newG fun b1 G1 F1 l1 q1 _ h=> ?_
 exact ⟨⟨_,rfl,RdS.new (h.le _ _ q1) rfl rfl (Nat.le_refl _)⟩,aa l1 h.le⟩
def Jj (ns:List Nat):ByteArray:=⟨(ns.map UInt8.ofNat).toArray⟩
theorem sY {F:PH} (P:Program):∀(ns:List Nat) (s:ByteArray),
  rdo P (forIn (ns.map vB) s fun c s=>do
   let .int .u8 n:=c|stuck "bytesToString: byte expected"
   let s:=s.push (UInt8.ofNat n.toNat)
   pure (ForInStep.yield s)) F (ns.foldl (fun s n=>s.push (UInt8.ofNat n)) s)
 |[],s=>by simp [rdo]
 |n::ns,s=>by
  simp only [List.map_cons,List.forIn_cons,ak,List.foldl_cons]
  refine ⟨.yield (s.push (UInt8.ofNat n)),?_,?_⟩
  ·simp [rdo]
  ·exact sY P ns _
theorem sZ:∀(ns:List Nat) (s:ByteArray),ns.foldl (fun s n=>s.push (UInt8.ofNat n)) s=⟨s.data++(ns.map UInt8.ofNat).toArray⟩
 |[],s=>by simp
 |n::ns,s=>by
  rw [List.foldl_cons,sZ ns]
  simp [ByteArray.push]
theorem qZ {F:PH} {P:Program} {s:Sl} {ns:List Nat} (h:RdS F s 1 (ns.map vB)):rdo P (Conv.bytesToString s.v) F (.string (Jj ns)):=by
 obtain ⟨base,len,cap⟩:=s
 have hl:=h.len
 simp only [List.length_map,Nat.mul_one] at hl
 unfold Conv.bytesToString Sl.v
 cases base with
 |none=>
  have h0:len=0:=by
   rcases Nat.eq_zero_or_pos len with h0|h0
   ·exact h0
   ·obtain ⟨b,o,h1,_⟩:=h.cells h0
    cases h1
  subst h0
  have:ns=[]:=List.length_eq_zero_iff.1 (by omega)
  subst this
  rfl
 |some a=>
  simp only [ak]
  refine ⟨(ns.map vB).toArray,?_,?_⟩
  ·have hr:=h.row (a:=a) rfl 0 (ns.map vB).toArray (by rw [List.drop_zero,List.size_toArray,List.take_length])
   rw [show a.add 0=a from rfl] at hr
   have:=dg (P:=P) hr
   simp only [List.size_toArray,List.length_map] at this
   rw [hl] at this
   exact this
  ·refine ⟨ns.foldl (fun s n=>s.push (UInt8.ofNat n)) .empty,?_,?_⟩
   ·rw [← Array.forIn_toList]
    exact sY P ns .empty
   ·rw [sZ]
    show (Value.string _)=_
    simp [Jj,ByteArray.empty,ByteArray.emptyWithCapacity]
    rfl
structure SK (F G:PH) (b1 b2:Nat) (n:Sl) (w2:Array Value):Prop where
 lF:F.le G
 hT:Tab G
 q1:G b1=some (.cells #[Sl.v n,vi aF.2] 33)
 hn:RL G n aF.1
 q2:G b2=some (.cells w2 39)
 g2:GV G w2 aS
theorem SK.le {F G G':PH} {b1 b2:Nat} {n:Sl} {w2:Array Value} (h:SK F G b1 b2 n w2) (l:G.le G'):SK F G' b1 b2 n w2:=⟨aa h.lF l,h.hT.le l,l _ _ h.q1,h.hn.le l,l _ _ h.q2,h.g2.le l⟩
abbrev RT (F:PH):VR:=fun r F'=>r=.bool true∧F.le F'
section
variable {F G F1:PH} {b1 b2:Nat} {n:Sl} {w2:Array Value}
theorem GZ (K:SK F G b1 b2 n w2) (h:St G F1 []) {s:Sl} (hs:RdS G s 1 (uB.map vB)):eW true true s 0 true (RT F) F1:=by
 unfold eW
 refine ⟨fun _=>⟨fun _=>⟨fun _=>⟨fun _=> ?_,fun hc=>absurd rfl hc⟩,fun hc=>(by cases hc)⟩,fun hc=>(by cases hc)⟩,fun hc=>(by cases hc)⟩
 refine ⟨_,qZ (hs.le h.le),?_⟩
 refine h.run (qY _) fun _ G2 F2 hr l2 h=> ?_
 obtain ⟨s2,rfl,hs2⟩:=hr
 refine ⟨s2,rfl,qZ ((hs.le l2).le h.le),_,qZ (hs2.le h.le),?_,aa K.lF (aa l2 h.le)⟩
 simp
theorem Ha (K:SK F G b1 b2 n w2) (h:St G F1 []):iU b2 true true (RT F) F1:=by
 unfold iU
 refine h.firstG fun G1 F2 m s p l1 hm hs hp h=> ?_
 replace K:=K.le l1
 refine ⟨_,rfl,?_⟩
 refine h.new fun b15 F3 h=> ?_
 refine h.put0 (w':=aS.arr Sl.nil m Sl.nil s p Sl.nil Sl.nil) rfl rfl (by simp [aj,Sl.v]) fun F4 h=> ?_
 refine h.newG fun b150 G2 F5 l2 q150 _ h=> ?_
 replace K:=K.le l2
 refine h.set0 (w':=Gr.arr {aS with conds:=[⟨#[65]⟩,⟨#[66]⟩]} (Sl.mk (some (Addr.mk b150 0 none)) 2 2) m Sl.nil s p Sl.nil Sl.nil) (by show 0<9;decide) rfl fun F6 h=> ?_
 refine h.newG fun b152 G3 F7 l3 q152 _ h=> ?_
 replace K:=K.le l3
 have hr:RdS G3 (Sl.mk (some (Addr.mk b152 0 none)) 1 1) 1 (([14]:List Int).map (Value.int .u8)):=RdS.new q152 rfl rfl (Nat.le_refl _)
 refine h.run (P:=fun r G=>ro (dia yu) r G) ((gY (n:=2) (by decide) hr).mono fun r F' ⟨u,t,h1,⟨h2,h3⟩,h4,h5⟩=>⟨⟨u,h1,by subst h3;exact h4⟩,h5⟩) fun _ G4 F8 hr l4 h=> ?_
 obtain ⟨_,rfl,hw⟩:=hr
 obtain ⟨m',rfl,hm'⟩:=hw.out
 replace K:=K.le l4
 refine ⟨_,rfl,?_⟩
 refine h.putR0 (o:=1) (w':=qV.arr (Sl.mk (some (Addr.mk b150 0 none)) 2 2) m' Sl.nil s p Sl.nil Sl.nil) rfl (by simp [aj,Sl.v]) (by show 1+2≤9;decide) rfl fun F9 h=> ?_
 obtain ⟨G5,l5,⟨H,hA,hH⟩,h⟩:=h.pin
 have q15:=hH _ _ hA
 replace K:=K.le l5
 have l34:=aa l3 (aa l4 l5)
 have l24:=aa l2 l34
 have hg:GV G5 (qV.arr (Sl.mk (some (Addr.mk b150 0 none)) 2 2) m' Sl.nil s p Sl.nil Sl.nil) qV:=⟨_,_,_,_,_,_,_,rfl,RL.strs.2 (RdS.new (l34 _ _ q150) rfl rfl (Nat.le_refl _)),hm'.le l5,.nil _,hs.le l24,hp.le l24,.nil _,.nil _⟩
 have hz:Sz qV:=dV (by decide) (fun t ht=>(by cases ht)) (fun l hl=>(by cases hl)) rfl
 refine ⟨_,rfl,ai (h.le _ _ q15),?_⟩
 refine h.run (fS K.hT hg hz (by decide) 2) fun _ G6 F10 hr l6 h=> ?_
 obtain ⟨s6,rfl,hs6⟩:=hr
 rw [qW] at hs6 ⊢
 replace K:=K.le l6
 refine ⟨_,_,rfl,_,rfl,ai (h.le _ _ (l6 _ _ q15)),?_⟩
 refine h.run (fS K.hT (hg.le l6) hz (by decide) 3) fun _ G7 F11 hr l7 h=> ?_
 obtain ⟨s7,rfl,hs7⟩:=hr
 rw [qX] at hs7 ⊢
 replace K:=K.le l7
 refine ⟨_,_,rfl,_,K.g2.size,ai (h.le _ _ K.q2),?_⟩
 refine h.run (tz K.hT K.g2 (dV (fun s hs=>(by cases hs)) (fun t ht=>(by cases ht)) (fun l hl=>(by cases hl)) rfl) z8 fun _=>⟨z7,by rw [pO];decide⟩) fun _ G8 F12 hr l8 h=> ?_
 obtain ⟨s8,rfl,hs8⟩:=hr
 rw [ku,if_pos rfl,pO] at hs8
 rw [ku]
 replace K:=K.le l8
 have l78:=aa l7 l8
 have e6:=hs6.len
 have e7:=hs7.len
 simp at e6 e7
 obtain ⟨a6,o6,ha6,hc6⟩:=(hs6.le l78).cells (by omega)
 obtain ⟨a7,o7,ha7,hc7⟩:=(hs7.le l8).cells (by omega)
 have c0:=aq h.le (((hs6.le l78).cell ha6 (i:=0) (by decide)))
 have c1:=aq h.le (((hs6.le l78).cell ha6 (i:=1) (by decide)))
 have d2:=aq h.le (((hs7.le l8).cell ha7 (i:=2) (by decide)))
 have hj:eW true true s8 0 true (RT F) F12:=GZ K h hs8
 refine ⟨_,_,rfl,fun _=>⟨_,ha6,by decide,by omega,1,c0,fun _=>⟨_,ha6,by decide,by omega,2,c1,fun _=>⟨fun _=>⟨fun _=>⟨_,ha7,by decide,by omega,3,d2,fun _=>hj,fun hc=>absurd rfl hc⟩,fun hc=>absurd (by omega) hc⟩,fun hc=>(by cases hc)⟩,fun hc=>absurd rfl hc⟩,fun hc=>absurd rfl hc⟩,fun hc=>absurd (by omega) hc⟩
end
end Go.Proofs.YtenpmjhnhepfdaaGreatDoor
