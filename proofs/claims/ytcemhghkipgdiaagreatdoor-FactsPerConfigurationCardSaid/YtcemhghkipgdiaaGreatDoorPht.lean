/-
  A reader of code. Part 2: what it says of operations that read at most is so.
-/
import Derived.Test.YtcemhghkipgdiaaGreatDoorPhn
import Derived.Test.YtcemhghkipgdiaaGreatDoorPhp
namespace Go.Proofs.YtcemhghkipgdiaaGreatDoor
open Go
abbrev VR:=Value->PH->Prop
abbrev sto (F:PH) (a:Addr) (v:Value) (K:Ψ):Prop:=
 ∃c e,F a.block=some (.cells c e (0,0))/\a.spot=none/\a.off<c.size/\atF (F.set a.block (.cells (c.setIfInBounds a.off v) e)) K
abbrev au (F:PH) (a:Addr) (n:Nat) (v:Γ) (K:Ψ):Prop:=
 v.size=n/\(∀x∈v.toList,ak x)/\∃c e,F a.block=some (.cells c e (0,0))/\a.spot=none/\a.off+n<=c.size/\atF (F.set a.block (.cells (wr c a.off v.toList) e)) K
namespace Rx
inductive Kd|int (k:IntKind)|bool|ptr|sl|str|map|agg|any
def Kd.T:Kd->Type
 | .int _=>Int| .bool=>Bool| .ptr=>Θ| .sl=>Sl| .str=>ByteArray| .map=>Option Nat| .agg=>Γ| .any=>Value
def Kd.v:(k:Kd)->k.T->Value
 | .int k,x=> .int k x| .bool,b=> .bool b| .ptr,p=> .pointer p| .sl,s=>Sl.v s| .str,s=> .string s| .map,m=> .map m| .agg,c=> .agg c| .any,v=>v
def kdD:TypeDesc->Kd
 | .int k=> .int k| .bool=> .bool| .string=> .str| .pointer _=> .ptr| .slice _=> .sl| .map _ _=> .map| .struct _=> .agg| .array _ _=> .agg|_=> .any
def kd (P:Program) (t:TypeId):Kd:=match P.underlying t with|some d=>kdD d|none=> .any
inductive SV|c (v:Value)|any (v:Value)|ad (a:Addr)|lit (b:Bool)|vt (w:Γ)|und|ref (i:Nat)|unk
inductive SB|bool (b:Bool)|prp (p:Prop) (d:Decidable p)|lit (b:Bool)|ptr (p:Θ)|ad (a:Addr)
def SB.v:SB->Value
 | .bool b=> .bool b| .prp p d=> .bool (@decide p d)| .lit b=> .bool b| .ptr p=> .pointer p| .ad a=> .pointer (some a)
inductive VW|c (v:Value)|any (v:Value)|ad (a:Addr)|lit (b:Bool)|vt (w:Γ)|und|bool (i:Nat) (b:Bool)|prp (i:Nat) (p:Prop) (d:Decidable p)|ptr (i:Nat) (p:Θ)|unk
def SB.vw (i:Nat):SB->VW
 | .bool b=> .bool i b| .prp p d=> .prp i p d| .lit b=> .lit b| .ptr p=> .ptr i p| .ad a=> .ad a
def SV.vw (T:Nat->Option SB):SV->VW
 | .c v=> .c v| .any v=> .any v| .ad a=> .ad a| .lit b=> .lit b| .vt w=> .vt w| .und=> .und
 | .ref i=>(match T i with|some s=>s.vw i|none=> .unk)
 | .unk=> .unk
def VW.val:VW->Option Value
 | .c v=>some v| .any v=>some v| .ad a=>some (.pointer (some a))| .lit b=>some (.bool b)| .vt w=>some (.tuple w)| .und=>some undef
 | .bool _ b=>some (.bool b)| .prp _ p d=>some (.bool (@decide p d))| .ptr _ p=>some (.pointer p)| .unk=>none
structure Sy where
 S:Nat->SV
 T:Nat->Option SB
 n:Nat
def up {α:Type} (f:Nat->α) (d:Nat) (x:α):Nat->α:=λt=>bif Nat.beq t d then x else f t
def Pg:Value->SV
 | .bool b=> .lit b|v=> .c v
def Sy.cp (σ:Sy):Operand->SV
 | .tmp t=>σ.S t| .const v=>Pg v| .global g=> .ad ⟨g,0,none⟩| .func f=> .c (.func (.func f) #[] #[])
def Sy.ov (σ:Sy) (x:Operand):VW:=(σ.cp x).vw σ.T
def Sy.vw (σ:Sy) (t:Nat):VW:=(σ.S t).vw σ.T
inductive NV|sv (s:SV)|nb (b:SB)
def Sy.put (σ:Sy) (d:Nat):NV->Sy
 | .sv s=>⟨up σ.S d s,σ.T,σ.n⟩
 | .nb b=>⟨up σ.S d (.ref σ.n),up σ.T σ.n (some b),σ.n+1⟩
def Sy.putO (σ:Sy):Option Tmp->NV->Sy
 |some d,v=>σ.put d v
 |none,_=>σ
def Sy.rf (σ:Sy) (i:Nat) (b:SB):Sy:=⟨σ.S,up σ.T i (some b),σ.n⟩
def Kd.nv:(k:Kd)->k.T->NV
 | .int k,x=> .sv (.c (.int k x))| .bool,b=> .nb (.bool b)| .ptr,p=> .nb (.ptr p)| .sl,s=> .sv (.c (Sl.v s))| .str,s=> .sv (.c (.string s))| .map,m=> .sv (.c (.map m))| .agg,c=> .sv (.c (.agg c))| .any,v=> .sv (.any v)
def ofk:Kd->Value->NV
 | .any,v=> .sv (.any v)
 | .bool,v=>(match v with| .bool b=> .nb (.bool b)|_=> .sv .unk)
 | .ptr,v=>(match v with| .pointer p=> .nb (.ptr p)|_=> .sv .unk)
 |_,v=> .sv (.c v)
def oS:Δ->Nat->Bool
 |[],_=>false
 |x::l,t=>bif Nat.beq t x then true else oS l t
def Sy.hav (σ:Sy) (M:Δ):Sy:=⟨λt=>bif oS M t then .unk else σ.S t,σ.T,σ.n⟩
def sxA (σ:Sy) (x:Operand) (K:Sy->Addr->Prop):Prop:=
 match σ.ov x with
 | .ad a=>K σ a
 | .ptr i p=>∃a:Addr,p=some a/\K (σ.rf i (.ad a)) a
 | .c (.pointer (some a))=>K σ a
 |_=>False
def ve (σ:Sy):List Operand->(Ξ->Prop)->Prop
 |[],K=>K []
 |x::l,K=>match (σ.ov x).val with|some v=>ve σ l (λus=>K (v::us))|none=>False
abbrev RK:=Sy->NV->Option (Ψ)->Prop
def okN (b:Bool) (K:Prop):Prop:=match b with|true=>K|false=>False
def sxI (op:BinOp) (k:IntKind) (a b:Int) (lit:Bool) (K:NV->Prop):Prop:=
 match op with
 | .add=>K (.sv (.c (.int k (k.wrap (a+b)))))
 | .sub=>K (.sv (.c (.int k (k.wrap (a - b)))))
 | .mul=>K (.sv (.c (.int k (k.wrap (a*b)))))
 | .quo=>(match lit with|true=>(match decide (b≠0) with|true=>K (.sv (.c (.int k (k.wrap (Int.tdiv a b)))))|false=>False)|false=>b≠0/\K (.sv (.c (.int k (k.wrap (Int.tdiv a b))))))
 | .rem=>(match lit with|true=>(match decide (b≠0) with|true=>K (.sv (.c (.int k (Int.tmod a b))))|false=>False)|false=>b≠0/\K (.sv (.c (.int k (Int.tmod a b)))))
 | .and=>K (.sv (.c (.int k (k.wrap ((BitVec.ofInt k.bits a &&& BitVec.ofInt k.bits b).toNat)))))
 | .or=>K (.sv (.c (.int k (k.wrap ((BitVec.ofInt k.bits a ||| BitVec.ofInt k.bits b).toNat)))))
 | .xor=>K (.sv (.c (.int k (k.wrap ((BitVec.ofInt k.bits a ^^^ BitVec.ofInt k.bits b).toNat)))))
 | .andNot=>K (.sv (.c (.int k (k.wrap ((BitVec.ofInt k.bits a &&& ~~~ BitVec.ofInt k.bits b).toNat)))))
 | .lss=>K (.nb (.prp (a<b) inferInstance))
 | .leq=>K (.nb (.prp (a<=b) inferInstance))
 | .gtr=>K (.nb (.prp (b<a) inferInstance))
 | .geq=>K (.nb (.prp (b<=a) inferInstance))
 | .eql=>K (.nb (.prp (a=b) inferInstance))
 | .neq=>K (.nb (.prp (a≠b) inferInstance))
 |_=>False
def sxH (op:BinOp) (k:IntKind) (a b:Int) (lit:Bool) (K:NV->Prop):Prop:=
 match op with
 | .shl=>(match lit with|true=>(match decide (0<=b) with|true=>K (.sv (.c (.int k (k.wrap (a*2 ^ (min b.toNat k.bits))))))|false=>False)|false=>0<=b/\K (.sv (.c (.int k (k.wrap (a*2 ^ (min b.toNat k.bits)))))))
 | .shr=>(match lit with|true=>(match decide (0<=b) with|true=>K (.sv (.c (.int k (a.fdiv (2 ^ (min b.toNat k.bits))))))|false=>False)|false=>0<=b/\K (.sv (.c (.int k (a.fdiv (2 ^ (min b.toNat k.bits)))))))
 |_=>False
def Ip:BinOp->Bool
 | .shl=>true| .shr=>true|_=>false
def vf:Operand->Bool
 | .const _=>true|_=>false
def VW.tv:VW->Option Bool
 | .lit b=>some b| .bool _ b=>some b| .prp _ p d=>some (@decide p d)|_=>none
def EZ (P:Program) (σ:Sy) (op:BinOp) (t:TypeId) (x y:Operand) (K:NV->Prop):Prop:=
 match σ.ov x,σ.ov y with
 | .c (.int k a),.c (.int k' b)=>(match Ip op with|true=>sxH op k a b (vf y) K|false=>(match decide (k=k') with|true=>sxI op k a b (vf y) K|false=>False))
 | .c (.string c),.c (.string d)=>(match op with
  | .add=>c.size+d.size<=9223372036854775807/\K (.sv (.c (.string (c++d))))
  | .lss=>K (.nb (.bool (Op.bytesLess c.toList d.toList)))
  | .geq=>K (.nb (.bool (!Op.bytesLess c.toList d.toList)))
  | .eql=>K (.nb (.bool (c.toList==d.toList)))
  | .neq=>K (.nb (.bool (!(c.toList==d.toList))))
  |_=>False)
 | .ad _,.c (.pointer none)=>(match P.underlying t,op with|some (.pointer _),.eql=>K (.sv (.lit false))|some (.pointer _),.neq=>K (.sv (.lit true))|_,_=>False)
 | .ptr _ p,.c (.pointer none)=>(match P.underlying t,op with|some (.pointer _),.eql=>K (.nb (.bool p.isNone))|some (.pointer _),.neq=>K (.nb (.bool (!p.isNone)))|_,_=>False)
 | .c (.slice b _ _),.c (.slice none 0 0)=>(match P.underlying t,op with|some (.slice _),.eql=>K (.nb (.bool b.isNone))|some (.slice _),.neq=>K (.nb (.bool (!b.isNone)))|_,_=>False)
 | .c (.agg c),.c (.agg d)=>(match P.eqGuardType P.depth t,op with
  |false,.eql=>∃v:Bool,(∀F,rdo P (Op.equal t (.agg c) (.agg d)) F v)/\K (.nb (.bool v))
  |false,.neq=>∃v:Bool,(∀F,rdo P (Op.equal t (.agg c) (.agg d)) F v)/\K (.nb (.bool (!v)))
  |_,_=>False)
 |u,w=>(match P.underlying t,u.tv,w.tv with
  |some .bool,some a,some b=>(match op with| .eql=>K (.nb (.bool (a==b)))| .neq=>K (.nb (.bool (!(a==b))))|_=>False)
  |_,_,_=>False)
def Mv (P:Program) (t:TypeId) (a:Addr) (F:PH) (K:NV->(Ψ)->Prop):Prop:=
 match P.underlying t with
 |none=>False
 |some d=>match kdD d with
  | .agg=>(match tsz P t with|some (n,_)=>∃v:Γ,v.size=n/\F.row a v/\K (.sv (.c (.agg v))) (λF=>F.row a v)|none=>False)
  |k=>∃x:k.T,F.cell a=some (k.v x)/\K (k.nv x) (λF=>F.cell a=some (k.v x))
def vj (σ:Sy) (y:Option Operand) (dflt:Nat) (K:Nat->Prop):Prop:=
 match y with
 |none=>K dflt
 |some y=>match σ.ov y with
  | .c (.int _ i)=>(match vf y with|true=>(match decide (0<=i) with|true=>K i.toNat|false=>False)|false=>0<=i/\K i.toNat)
  |_=>False
def bld (σ:Sy) (place:Nat->Option (Nat×Nat)) (n:Nat):List (Nat×Operand)->Γ->(Γ->Prop)->Prop
 |[],cs,K=>K cs
 | (i,x)::l,cs,K=>match place i with
  |none=>False
  |some (off,s)=>match σ.ov x with
   | .c (.agg c)=>(match Nat.ble (off+s) n with|true=>c.size=s/\bld σ place n l (wr cs off c.toList) K|false=>False)
   | .c v=>(match Nat.beq s 1,Nat.blt off n with|true,true=>bld σ place n l (cs.setIfInBounds off v) K|_,_=>False)
   | .any _=>False
   |w=>(match Nat.beq s 1,Nat.blt off n,w.val with|true,true,some v=>bld σ place n l (cs.setIfInBounds off v) K|_,_,_=>False)
def Ph:Op->Bool
 | .move _| .assign _| .pick _ _ _| .nilCheck _| .extract _ _| .fieldAddr _ _ _| .load _ _| .indexAddr _ _ _| .index _ _ _| .field _ _ _| .binOp _ _ _ _ _| .unOp _ _ _| .convert _ _ _| .slice _ _ _ _ _
 | .build _ _| .lookup _ _ _ _| .makeFunc _ _ _| .entry _=>true
 | .call ⟨.builtin .len,_,_⟩| .call ⟨.builtin .cap,_,_⟩| .call ⟨.builtin .max,_,_⟩| .call ⟨.builtin .min,_,_⟩=>true
 |_=>false
def sxR (P:Program) (σ:Sy) (o:Oper) (F:PH) (K:RK):Prop:=
 match o.op with
 | .move x=>K σ (.sv (σ.cp x)) none
 | .assign x=>K σ (.sv (σ.cp x)) none
 | .pick c a b=>(match σ.ov c with| .lit true=>K σ (.sv (σ.cp a)) none| .lit false=>K σ (.sv (σ.cp b)) none|_=>False)
 | .nilCheck x=>(match σ.ov x with
  | .c (.func (.func _) _ _)=>K σ (.sv (σ.cp x)) none
  |_=>sxA σ x λσ a=>K σ (.sv (.ad a)) none)
 | .extract x i=>(match σ.ov x with
  | .c (.tuple vs)=>(match vs[i]? with|some v=>K σ (ofk (kd P o.type) v) none|none=>False)
  | .vt w=>∃v:(kd P o.type).T,w[i]? =some ((kd P o.type).v v)/\K σ ((kd P o.type).nv v) none
  |_=>False)
 | .fieldAddr t x i=>(match P.underlying t with
  |some (.struct fs)=>(match fs[i]? with
   |some f=>(match tsz P f.type with|some (_+1,_)=>sxA σ x λσ a=>K σ (.sv (.ad (a.add f.offset))) none|_=>False)
   |none=>False)
  |_=>False)
 | .load t x=>sxA σ x λσ a=>Mv P t a F λv ck=>K σ v (some ck)
 | .indexAddr t x y=>(match σ.ov y,P.underlying t with
  | .c (.int _ i),some (.slice e)=>(match σ.ov x,tsz P e with
   | .c (.slice base len _),some (s,_)=>∃a:Addr,base=some a/\0<=i/\i<(len:Int)/\K σ (.sv (.ad (a.add (i.toNat*s)))) none
   |_,_=>False)
  | .c (.int _ i),some (.array n e)=>(match tsz P e with
   |some (s,_)=>sxA σ x λσ a=>0<=i/\i<(n:Int)/\K σ (.sv (.ad (a.add (i.toNat*s)))) none
   |_=>False)
  |_,_=>False)
 | .index t x y=>(match σ.ov x,σ.ov y,P.underlying t with
  | .c (.string s),.c (.int _ i),some .string=>0<=i/\i<(s.size:Int)/\∃(hx:Int.toNat i<s.size) (v:Int),v=((s[Int.toNat i]'hx).toNat:Int)/\K σ (.sv (.c (.int .u8 v))) none
  | .c (.agg cs),.c (.int _ i),some (.array n e)=>(match P.underlying e,tsz P e with
   |some d,some (s,_)=>(match kdD d with
    | .agg=>False
    |k=>0<=i/\i<(n:Int)/\∃v:k.T,cs[i.toNat*s]? =some (k.v v)/\K σ (k.nv v) none)
   |_,_=>False)
  |_,_,_=>False)
 | .field t x i=>(match σ.ov x,P.underlying t with
  | .c (.agg cs),some (.struct fs)=>(match fs[i]? with
   |some f=>(match P.underlying f.type,tsz P f.type with
    |some d,some (s,_)=>(match kdD d with
     | .agg=>K σ (.sv (.c (.agg (cs.extract f.offset (f.offset+s))))) none
     |k=>∃v:k.T,cs[f.offset]? =some (k.v v)/\K σ (k.nv v) none)
    |_,_=>False)
   |none=>False)
  |_,_=>False)
 | .binOp op t x y _=>EZ P σ op t x y λv=>K σ v none
 | .unOp op _ x=>(match op,σ.ov x with
  | .not,.lit b=>K σ (.sv (.lit (!b))) none
  | .not,.bool _ b=>K σ (.nb (.bool (!b))) none
  | .not,.prp _ p d=>K σ (.nb (.prp (¬p) (@instDecidableNot p d))) none
  | .neg,.c (.int k a)=>K σ (.sv (.c (.int k (k.wrap (0 - a))))) none
  |_,_=>False)
 | .convert t t' x=>(match σ.ov x,P.underlying t,P.underlying t' with
  | .c (.int _ a),some _,some (.int k')=>K σ (.sv (.c (.int k' (k'.wrap a)))) none
  | .c (.slice b l c),some (.slice e),some .string=>(match P.underlying e with
   |some (.int .u8)=>∃s:ByteArray,rdo P (Conv.bytesToString (.slice b l c)) F (.string s)/\K σ (.sv (.c (.string s))) (some λF=>rdo P (Conv.bytesToString (.slice b l c)) F (.string s))
   |_=>False)
  |_,_,_=>False)
 | .slice t x lo hi mx=>(match P.underlying t,mx with
  |some (.slice e),none=>(match σ.ov x,tsz P e with
   | .c (.slice b len cap),some (sz,_)=>vj σ lo 0 λl=>vj σ hi len λh=>l<=h/\h<=cap/\K σ (.sv (.c (Sl.v (Sl.cut ⟨b,len,cap⟩ sz l h cap)))) none
   |_,_=>False)
  |some .string,none=>(match σ.ov x with
   | .c (.string s)=>vj σ lo 0 λl=>vj σ hi s.size λh=>l<=h/\h<=s.size/\K σ (.sv (.c (.string (s.extract l h)))) none
   |_=>False)
  |some (.array n e),none=>(match tsz P e,lo,hi with
   |some (sz,_),none,none=>sxA σ x λσ a=>K σ (.sv (.c (Sl.v (Sl.cut ⟨some a,n,n⟩ sz 0 n n)))) none
   |some (sz,_),lo,hi=>sxA σ x λσ a=>vj σ lo 0 λl=>vj σ hi n λh=>l<=h/\h<=n/\K σ (.sv (.c (Sl.v (Sl.cut ⟨some a,n,n⟩ sz l h n)))) none
   |_,_,_=>False)
  |some (.slice e),some mx=>(match σ.ov x,tsz P e,hi.map σ.ov,σ.ov mx with
   | .c (.slice b len cap),some (sz,_),some (.c (.int _ i)),.c (.int _ m)=>vj σ lo 0 λl=>
    0<=i/\0<=m/\l<=i.toNat/\i<=m/\m<=(cap:Int)/\K σ (.sv (.c (Sl.v (Sl.cut ⟨b,len,cap⟩ sz l i.toNat m.toNat)))) none
   |_,_,_,_=>False)
  |_,_=>False)
 | .build t parts=>(match P.underlying t,bP P t with
  |some (.struct fs),some z=>okN (jo P fs) (bld σ (λi=>(lM P fs)[i]?) z.cells.size parts.toList z.cells λcs=>K σ (.sv (.c (.agg cs))) none)
  |some (.array _ e),some z=>(match tsz P e with
   |some (s,_)=>bld σ (λi=>some (i*s,s)) z.cells.size parts.toList z.cells λcs=>K σ (.sv (.c (.agg cs))) none
   |none=>False)
  |_,_=>False)
 | .makeFunc (.func f) first cap=>ve σ first.toList λus=>ve σ cap.toList λvs=>K σ (.sv (.c (.func (.func f) us.toArray vs.toArray))) none
 | .lookup t x y ok=>(match (σ.ov x).val,(σ.ov y).val,P.underlying t with
  |some u,some v,some (.map _ e)=>(match ok with
   |true=>∃(r:(kd P e).T) (b:Bool),rdo P (Instr.lookup t u v true) F (.tuple #[(kd P e).v r,.bool b])/\K σ (.sv (.c (.tuple #[(kd P e).v r,.bool b]))) (some λF=>rdo P (Instr.lookup t u v true) F (.tuple #[(kd P e).v r,.bool b]))
   |false=>∃r:(kd P e).T,rdo P (Instr.lookup t u v false) F ((kd P e).v r)/\K σ ((kd P e).nv r) (some λF=>rdo P (Instr.lookup t u v false) F ((kd P e).v r)))
  |_,_,_=>False)
 | .entry x=>(match (σ.ov x).val with
  |some u=>∃w:Γ,rdo P (Instr.entry u) F (.tuple w)/\K σ (.sv (.vt w)) (some λF=>rdo P (Instr.entry u) F (.tuple w))
  |none=>False)
 | .call ⟨.builtin b,args,ts⟩=>(match b,args.toList.map σ.ov,ts.toList with
  | .len,[.c (.slice _ l _)],[t]=>(match P.underlying t with|some (.slice _)=>K σ (.sv (.c (.int .i64 (l:Int)))) none|_=>False)
  | .len,[.c (.string s)],[t]=>(match P.underlying t with|some .string=>K σ (.sv (.c (.int .i64 (s.size:Int)))) none|_=>False)
  | .len,[.c (.map m)],[t]=>∃v:Int,rdo P (Builtin.len_ #[t] o.type #[.map m]) F (.int .i64 v)/\K σ (.sv (.c (.int .i64 v))) (some λF=>rdo P (Builtin.len_ #[t] o.type #[.map m]) F (.int .i64 v))
  | .cap,[.c (.slice _ _ c)],[t]=>(match P.underlying t with|some (.slice _)=>K σ (.sv (.c (.int .i64 (c:Int)))) none|_=>False)
  | .max,[.c (.int k a),.c (.int k' b)],_=>okN (decide (k=k')) (K σ (.sv (.c (.int k (max a b)))) none)
  | .min,[.c (.int k a),.c (.int k' b)],_=>okN (decide (k=k')) (K σ (.sv (.c (.int k (min a b)))) none)
  | .max,[.c (.int k a),.c (.int k' b),.c (.int k'' c)],_=>okN (decide (k=k'/\k=k'')) (K σ (.sv (.c (.int k (max (max a b) c)))) none)
  | .min,[.c (.int k a),.c (.int k' b),.c (.int k'' c)],_=>okN (decide (k=k'/\k=k'')) (K σ (.sv (.c (.int k (min (min a b) c)))) none)
  |_,_,_=>False)
 |_=>False
def xE (P:Program) (σ:Sy) (d:Option Tmp) (t:TypeId) (v:Value) (K:Sy->Prop):Prop:=
 match d with
 |none=>K σ
 |some d=>match P.underlying t with
  |some (.tuple ts)=>(match ts.toList with
   |[]=>v=.tuple #[]/\K (σ.put d (.sv (.c (.tuple #[]))))
   |[a]=>∃x:(kd P a).T,v=.tuple #[(kd P a).v x]/\K (σ.put d (.sv (.c (.tuple #[(kd P a).v x]))))
   |[a,b]=>∃x:(kd P a).T,∃y:(kd P b).T,v=.tuple #[(kd P a).v x,(kd P b).v y]/\K (σ.put d (.sv (.c (.tuple #[(kd P a).v x,(kd P b).v y]))))
   |[a,b,c]=>∃x:(kd P a).T,∃y:(kd P b).T,∃z:(kd P c).T,v=.tuple #[(kd P a).v x,(kd P b).v y,(kd P c).v z]/\K (σ.put d (.sv (.c (.tuple #[(kd P a).v x,(kd P b).v y,(kd P c).v z]))))
   |[a,b,c,e]=>∃x:(kd P a).T,∃y:(kd P b).T,∃z:(kd P c).T,∃u:(kd P e).T,v=.tuple #[(kd P a).v x,(kd P b).v y,(kd P c).v z,(kd P e).v u]/\K (σ.put d (.sv (.c (.tuple #[(kd P a).v x,(kd P b).v y,(kd P c).v z,(kd P e).v u]))))
   |_=>False)
  |_=>∃x:(kd P t).T,v=(kd P t).v x/\K (σ.put d ((kd P t).nv x))
abbrev EK:=Bool->Sy->PH->Prop
def sxN (σ:Sy) (d:Option Tmp) (o:Obj) (s:Nat->SV) (F:PH) (K:EK):Prop:=
 ∀b,F b=none->atF (F.set b o) λF=>K true (σ.putO d (.sv (s b))) F
def Iq (σ:Sy):Nat->List (Nat×Operand)->Option Ξ
 |_,[]=>some []
 |k,(i,x)::l=>match Nat.beq i k,σ.ov x with
  |true,.c (.agg _)=>none
  |true,.any _=>none
  |true,w=>(match w.val,Iq σ (k+1) l with|some v,some vs=>some (v::vs)|_,_=>none)
  |false,_=>none
def sxE (P:Program) (σ:Sy) (o:Oper) (F:PH) (K:EK):Prop:=
 match o.op with
 | .alloc t=>(match bP P t with|some z=>sxN σ o.dst (.cells z.cells t) (λb=> .ad ⟨b,0,none⟩) F K|none=>False)
 | .box t x=>(match σ.ov x with
  | .c (.agg c)=>sxN σ o.dst (.cells c t) (λb=> .ad ⟨b,0,none⟩) F K
  | .any v=>v.cells= #[v]/\sxN σ o.dst (.cells #[v] t) (λb=> .ad ⟨b,0,none⟩) F K
  |w=>(match w.val with|some v=>sxN σ o.dst (.cells #[v] t) (λb=> .ad ⟨b,0,none⟩) F K|none=>False))
 | .buildSlice t m parts=>(match P.underlying t with
  |some (.slice e)=>(match tsz P e,bP P e with
   |some (s,_),some z=>(match Nat.ble (m*s) 16777216,Nat.beq z.cells.size s,Nat.blt 0 s with
    |true,true,true=>(match Nat.beq s 1,Nat.beq parts.toList.length m,Iq σ 0 parts.toList with
     |true,true,some l=>sxN σ o.dst (.cells l.toArray e) (λb=> .c (Sl.v ⟨some ⟨b,0,none⟩,m,m⟩)) F K
     |_,_,_=>(match m,parts.toList.map (λp=>(p.1,σ.ov p.2)) with
      |1,[(0,.c (.agg c))]=>c.size=s/\sxN σ o.dst (.cells c e) (λb=> .c (Sl.v ⟨some ⟨b,0,none⟩,1,1⟩)) F K
      |m,_=>bld σ (λi=>some (i*s,s)) (m*s) parts.toList ((List.replicate m z.cells.toList).flatten).toArray λcs=>sxN σ o.dst (.cells cs e) (λb=> .c (Sl.v ⟨some ⟨b,0,none⟩,m,m⟩)) F K))
    |_,_,_=>False)
   |_,_=>False)
  |_=>False)
 | .store t x y=>sxA σ x λσ a=>(match σ.ov y,tsz P t with
  | .c (.agg v),some (n+1,_)=>au F a (n+1) v λF=>K false (σ.putO o.dst (.sv .und)) F
  | .c (.tuple _),_=>False
  | .c v,some (1,_)=>sto F a v λF=>K false (σ.putO o.dst (.sv .und)) F
  | .any v,some (1,_)=>ak v/\v.cells= #[v]/\sto F a v λF=>K false (σ.putO o.dst (.sv .und)) F
  | .vt _,_=>False
  | .und,_=>False
  |w,some (1,_)=>(match w.val with|some v=>sto F a v λF=>K false (σ.putO o.dst (.sv .und)) F|none=>False)
  |_,_=>False)
 | .range t x=>(match P.underlying t,σ.ov x with
  |some .string,.c (.string s)=>sxN σ o.dst (.stringIter s 0) (λb=> .ad ⟨b,0,none⟩) F K
  |some (.map _ _),w=>(match w.val with
   |some v=>aG P (Instr.range t v) F λv F=>∃b:Nat,v=.pointer (some ⟨b,0,none⟩)/\K false (σ.putO o.dst (.sv (.ad ⟨b,0,none⟩))) F
   |none=>False)
  |_,_=>False)
 | .next x is=>(match (σ.ov x).val with
  |some v=>aG P (Instr.next v is o.type) F λv F=>∃w:Γ,v=.tuple w/\K false (σ.putO o.dst (.sv (.vt w))) F
  |none=>False)
 | .makeSlice t x y=>(match (σ.ov x).val,(σ.ov y).val with
  |some u,some v=>aG P (Instr.makeSlice t u v) F λv F=>∃s:Sl,v=Sl.v s/\K false (σ.putO o.dst (.sv (.c (Sl.v s)))) F
  |_,_=>False)
 | .makeMap _ none=>sxN σ o.dst (.map #[] 0) (λb=> .c (.map (some b))) F K
 | .mapUpdate t x y z=>(match (σ.ov x).val,(σ.ov y).val,(σ.ov z).val with
  |some u,some v,some w=>aG P (Instr.mapUpdate t u v w) F λ_ F=>K false (σ.putO o.dst (.sv .und)) F
  |_,_,_=>False)
 | .insert t x y z=>(match (σ.ov x).val,(σ.ov y).val,(σ.ov z).val with
  |some u,some v,some w=>aG P (Instr.mapUpdate t u v w) F λ_ F=>K false (σ.putO o.dst (.sv .und)) F
  |_,_,_=>False)
 | .call ⟨.builtin b,args,ts⟩=>(match b,args.toList with
  | .append,[x,y]=>(match (σ.ov x).val,(σ.ov y).val with
   |some u,some v=>aG P (Builtin.append_ ts o.type #[u,v]) F λv F=>∃s:Sl,v=Sl.v s/\K false (σ.putO o.dst (.sv (.c (Sl.v s)))) F
   |_,_=>False)
  | .copy,[x,y]=>(match (σ.ov x).val,(σ.ov y).val with
   |some u,some v=>aG P (Builtin.copy_ ts o.type #[u,v]) F λv F=>∃n:Int,v=.int .i64 n/\K false (σ.putO o.dst (.sv (.c (.int .i64 n)))) F
   |_,_=>False)
  | .delete,[x,y]=>(match (σ.ov x).val,(σ.ov y).val with
   |some u,some v=>aG P (Builtin.delete_ ts o.type #[u,v]) F λ_ F=>K false (σ.putO o.dst (.sv .unk)) F
   |_,_=>False)
  |_,_=>False)
 | .call ⟨.value (.func f),args,_⟩=>ve σ args.toList λvs=>okN (aE P f) (ai P f vs.toArray F λv F=>xE P σ o.dst o.type v λσ=>K false σ F)
 | .call ⟨.value g,args,_⟩=>ve σ args.toList λvs=>(match σ.ov g with
  | .c (.func (.func f) a b)=>okN (aE P f) (ai P f (a++vs.toArray++b) F λv F=>xE P σ o.dst o.type v λσ=>K false σ F)
  | .any u=>∃(k:Nat) (a b:Γ),u=.func (.func k) a b/\aE P k=true/\ai P k (a++vs.toArray++b) F λv F=>xE P σ o.dst o.type v λσ=>K false σ F
  |_=>False)
 | .defer ⟨.value g,args,_⟩=>ve σ args.toList λvs=>(match σ.ov g with
  | .c (.func (.func f) a b)=>yT P ⟨.fn (.func f) b,a++vs.toArray⟩/\K false (σ.putO o.dst (.sv .und)) F
  |_=>False)
 |_=>False
inductive G|go|no|split (i:Nat) (b:SB) (want:Bool)|bad
def grd (ops:Array Oper) (σ:Sy) (o:Oper):G:=
 match o.guard with
 |none=> .go
 |some (j,want)=>match (ops[j]?).bind (·.dst) with
  |none=> .no
  |some t=>match σ.vw t with
   | .lit b=>(match b==want with|true=> .go|false=> .no)
   | .und=> .no
   | .bool i b=> .split i (.bool b) want
   | .prp i p d=> .split i (.prp p d) want
   |_=> .bad
def spl (b:SB) (f:Bool->Prop):Prop:=
 match b with
 | .bool b=>(b=true->f true)/\(b=false->f false)
 | .prp p _=>(p->f true)/\(¬p->f false)
 |_=>False
def sxO (P:Program) (o:Oper) (K:Sy->Ψ) (σ:Sy) (F:PH):Prop:=
 match Ph o.op with
 |true=>sxR P σ o F λσ v _=>K (σ.putO o.dst v) F
 |false=>sxE P σ o F λ_ σ F=>K σ F
def sxL (P:Program) (n:Nat) (ops:Array Oper) (K:Sy->Ψ):List Oper->Sy->PH->Prop
 |[],σ,F=>K σ F
 |o::l,σ,F=>okN (fI n o.dst) (match grd ops σ o with
  | .go=>sxO P o (sxL P n ops K l) σ F
  | .no=>sxL P n ops K l (σ.putO o.dst (.sv .und)) F
  | .split i b want=>spl b λv=>match v==want with
   |true=>sxO P o (sxL P n ops K l) (σ.rf i (.lit v)) F
   |false=>sxL P n ops K l ((σ.rf i (.lit v)).putO o.dst (.sv .und)) F
  | .bad=>False)
abbrev Pn:=List (Nat×(Ψ))
def Mw (F:PH):Pn->Prop->Prop
 |[],K=>K
 | (_,c)::l,K=>c F/\Mw F l K
def tZ (ops:Array Oper) (σ:Sy):Δ->Option (Nat×Oper×G)
 |[]=>none
 |i::l=>match ops[i]? with
  |none=>none
  |some o=>match grd ops σ o with
   | .go=>(match Ph o.op with|true=>some (i,o,.go)|false=>tZ ops σ l)
   |g=>some (i,o,g)
def Mx:List Prop->Prop
 |[]=>False
 |[p]=>p
 |p::l=>p/\Mx l
def sxD (P:Program) (n:Nat) (ops:Array Oper) (K:Sy->Ψ):Nat->Nat->Array Bool->Pn->Sy->PH->Prop
 |0,_,_,_,_,_=>False
 |k+1,fuel,listed,pend,σ,F=>match Region.ready .any ops listed with
  |[]=>K σ F
  |rs=>match fuel with
   |0=>False
   |fuel+1=>match tZ ops σ rs with
    |some (i,o,g)=>okN (Region.noSelect ops && Region.free .any ops listed i && (Region.ready .any ops listed).contains i && fI n o.dst) (match g with
     | .no=>sxD P n ops K k fuel (listed.setIfInBounds i true) pend (σ.putO o.dst (.sv .und)) F
     | .split j b _=>spl b λv=>sxD P n ops K k (fuel+1) listed pend (σ.rf j (.lit v)) F
     | .go=>sxR P σ o F λσ v ck=>sxD P n ops K k fuel (listed.setIfInBounds i true) (match ck with|none=>pend|some c=>(i,c)::pend) (σ.putO o.dst v) F
     | .bad=>False)
    |none=>Mx (rs.map λi=>match ops[i]? with
     |none=>False
     |some o=>okN (fI n o.dst) (sxE P σ o F λfl σ F=>
      match fl with
      |true=>sxD P n ops K k fuel (listed.setIfInBounds i true) (pend.filter λp=> !Oper.waits .any o p.1) σ F
      |false=>Mw F (pend.filter λp=> !Oper.waits .any o p.1) (sxD P n ops K k fuel (listed.setIfInBounds i true) (pend.filter λp=> !Oper.waits .any o p.1) σ F)))
def Tl:List (Nat×Kd)->Type
 |[]=>PH->Prop
 | (_,k)::l=>k.T->Tl l
def pay (w:VW):(k:Kd)->(k.T->Prop)->Prop
 | .int k,K=>(match w with| .c (.int k' x)=>(match decide (k=k') with|true=>K x|false=>False)|_=>False)
 | .bool,K=>(match w with| .lit b=>K b| .bool _ b=>K b| .prp _ p d=>K (@decide p d)|_=>False)
 | .ptr,K=>(match w with| .ad a=>K (some a)| .ptr _ p=>K p| .c (.pointer p)=>K p|_=>False)
 | .sl,K=>(match w with| .c (.slice b l c)=>K ⟨b,l,c⟩|_=>False)
 | .str,K=>(match w with| .c (.string s)=>K s|_=>False)
 | .map,K=>(match w with| .c (.map m)=>K m|_=>False)
 | .agg,K=>(match w with| .c (.agg c)=>K c|_=>False)
 | .any,K=>(match w.val with|some v=>K v|none=>False)
def jap (σ:Sy):(l:List (Nat×Kd))->Tl l->PH->Prop
 |[],J,F=>J F
 | (t,k)::l,J,F=>pay (σ.vw t) k λx=>jap σ l (J x) F
def jbd (f:Sy->Ψ):(l:List (Nat×Kd))->Sy->Tl l
 |[],σ=>f σ
 |(t,k)::l,σ=>λx=>jbd f l (σ.put t (k.nv x))
def My (f:Sy->Ψ):(l:List (Nat×Kd))->Tl l->Sy->Prop
 |[],J,σ=>∀F,J F->f σ F
 |(t,k)::l,J,σ=>∀x:k.T,My f l (J x) (σ.put t (k.nv x))
def Mz:(l:List (Nat×Kd))->Tl l->Tl l->Prop
 |[],J,Y=>∀F,J F->Y F
 |(_,k)::l,J,Y=>∀x:k.T,Mz l (J x) (Y x)
def jdn:(l:List (Nat×Kd))->(Nat->Tl l)->Nat->Tl l
 |[],I,m=>λF=>∃m',m'<m/\I m' F
 | (_,_)::l,I,m=>λx=>jdn l (λm'=>I m' x) m
inductive i7|N|T (a b:i7)|J (cut:Bool) (l:List (Nat×Kd)) (a b:i7)|L (l:List (Nat×Kd)) (a:i7)
def i7.fst:i7->i7
 | .T a _=>a| .J _ _ a _=>a| .L _ a=>a| .N=> .N
def i7.snd:i7->i7
 | .T _ b=>b| .J _ _ _ b=>b|_=> .N
def i7.jn:i7->Option (Bool×List (Nat×Kd))
 | .J c l _ _=>some (c,l)|_=>none
def i7.lv:i7->List (Nat×Kd)
 | .L l _=>l|_=>[]
def E6:List Oper->Δ
 |[]=>[]
 |o::l=>match o.dst with|some d=>d::E6 l|none=>E6 l
def i8:Code->Δ
 | .region _ ops _=>E6 ops.toList
 | .seq a b=>i8 a++i8 b
 | .cond _ a b=>i8 a++i8 b
 | .block _ c=>i8 c
 | .loop c=>i8 c
 | .scope c=>i8 c
 |_=>[]
abbrev CK:=Exit->Sy->PH->Prop
def onN (f:Sy->Ψ) (K:CK):CK
 | .normal,σ,F=>f σ F
 |x,σ,F=>K x σ F
def onX (id:Nat) (K:CK):CK
 | .exit i,σ,F=>bif Nat.beq i id then K .normal σ F else K (.exit i) σ F
 |x,σ,F=>K x σ F
def noG (K:CK):CK
 | .goto _,_,_=>False
 |x,σ,F=>K x σ F
def sx (P:Program) (n:Nat):Code->i7->CK->Sy->PH->Prop
 | .skip,_,K,σ,F=>K .normal σ F
 | .label _,_,K,σ,F=>K .normal σ F
 | .scope c,h,K,σ,F=>sx P n c h (noG K) σ F
 | .ret,_,K,σ,F=>K .ret σ F
 | .exit i,_,K,σ,F=>K (.exit i) σ F
 | .region _ ops false,_,K,σ,F=>sxL P n ops (K .normal) ops.toList σ F
 | .region _ ops true,_,K,σ,F=>okN (P.follows .mixedOrders) (sxD P n ops (K .normal) (3*ops.size+1) ops.size (Array.replicate ops.size false) [] σ F)
 | .seq a b,h,K,σ,F=>(match h.jn with
  |none=>sx P n a h.fst (onN (sx P n b h.snd K) K) σ F
  |some (false,l)=>sx P n a h.fst (onN (λσ' F=>jap σ' l (jbd (sx P n b h.snd K) l (σ.hav (i8 a))) F) K) σ F
  |some (true,l)=>∃J:Tl l,Mz l J (jbd (sx P n b h.snd K) l (σ.hav (i8 a)))/\sx P n a h.fst (onN (λσ' F=>jap σ' l J F) K) σ F)
 | .cond c a b,h,K,σ,F=>(match σ.ov c with
  | .lit true=>sx P n a h.fst K σ F
  | .lit false=>sx P n b h.snd K σ F
  | .bool _ t=>(t=true->sx P n a h.fst K σ F)/\(t=false->sx P n b h.snd K σ F)
  | .prp _ p _=>(p->sx P n a h.fst K σ F)/\(¬p->sx P n b h.snd K σ F)
  |_=>False)
 | .block id c,h,K,σ,F=>sx P n c h (onX id K) σ F
 | .loop c,h,K,σ,F=>∃(I:Nat->Tl h.lv) (m:Nat),jap σ h.lv (I m) F/\∀m,My (sx P n c h.fst (onN (λσ' F=>jap σ' h.lv (jdn h.lv I m) F) K)) h.lv (I m) (σ.hav (i8 c))
 |_,_,_,_,_=>False
def qY (P:Program) (σ:Sy):List ResultVar->PH->(Ξ->Prop)->Prop
 |[],_,K=>K []
 | .tmp t::l,F,K=>match (σ.vw t).val with|some v=>qY P σ l F (λvs=>K (v::vs))|none=>False
 | .cell x t::l,F,K=>match σ.vw x with
  | .ad a=>(match P.underlying t with
   |none=>False
   |some d=>match kdD d with
    | .agg=>(match tsz P t with|some (n,_)=>∃v:Γ,v.size=n/\F.row a v/\qY P σ l F (λvs=>K (.agg v::vs))|none=>False)
    |k=>∃x:k.T,F.cell a=some (k.v x)/\qY P σ l F (λvs=>K (k.v x::vs)))
  |_=>False
def Pj:Ξ->Value
 |[v]=>v
 |vs=> .tuple vs.toArray
def Pk (P:Program) (fn:Func) (R:Value->Ψ):CK
 | .normal,σ,F| .ret,σ,F=>okN (Nat.ble fn.results.size 4) (qY P σ fn.results.toList F λvs=>R (Pj vs) F)
 |_,_,_=>False
def Bu (P:Program):Nat->List TypeId->Ξ->Sy->Sy
 |_,_,[],σ=>σ
 |i,[],v::vs,σ=>Bu P (i+1) [] vs (σ.put i (ofk .ptr v))
 |i,t::ts,v::vs,σ=>Bu P (i+1) ts vs (σ.put i (ofk (kd P t) v))
def sxF (P:Program) (k:Nat) (h:i7) (args:Ξ) (R:Value->Ψ) (F:PH):Prop:=
 match P.funcs[k]? with
 |none=>False
 |some fn=>match fn.body with
  |none=>False
  |some c=>okN (Nat.ble args.length fn.ntmps) (sx P fn.ntmps c h (Pk P fn R) (Bu P 0 fn.params.toList args ⟨λ_=> .unk,λ_=>none,0⟩) F)
end Rx
end Go.Proofs.YtcemhghkipgdiaaGreatDoor
namespace Go.Proofs.YtcemhghkipgdiaaGreatDoor.Rx
open Go
def okV (T:Nat->Option SB):SV->Value->Prop
 | .c v,x=>x=v| .any v,x=>x=v| .ad a,x=>x=.pointer (some a)| .lit b,x=>x=.bool b| .vt w,x=>x=.tuple w| .und,x=>x=undef
 | .ref i,x=>∃b,T i=some b/\x=b.v
 | .unk,_=>True
structure Rel (σ:Sy) (E:En):Prop where
 val:∀t,okV σ.T (σ.S t) (E t)
 top:∀j,σ.n<=j->σ.T j=none
def js (T:Nat->Option SB):NV->Value->Prop
 | .sv s,v=>okV T s v
 | .nb b,v=>v=b.v
theorem Kj {T:Nat->Option SB} {s:SV} {x v:Value} (h:okV T s x) (hv:(s.vw T).val=some v):x=v:=by
 cases s with
 |ref i=>obtain ⟨b,hb,rfl⟩:=h;simp only [SV.vw,hb] at hv;cases b<;>simp_all [SB.vw,VW.val,SB.v]
 |unk=>simp [SV.vw,VW.val] at hv
 |_=>simp_all [SV.vw,VW.val,okV]
section
variable {P:Program} {σ:Sy} {E:En} {F:PH} {x y:Operand} {o:Oper}
theorem MA {T:Nat->Option SB} (v:Value):okV T (Pg v) v:=by cases v<;>rfl
theorem t4 (h:Rel σ E) (x:Operand):okV σ.T (σ.cp x) (ev E x):=by
 cases x with
 |tmp t=>exact h.val t
 |const v=>exact MA v
 |global g=>rfl
 |func f=>rfl
theorem bl (h:Rel σ E) {w:VW} {v:Value} (hw:σ.ov x=w) (hv:w.val=some v):ev E x=v:=Kj (t4 h x) (by rw [<- hw] at hv;exact hv)
theorem ovc (h:Rel σ E) {v:Value} (hw:σ.ov x=.c v):ev E x=v:=bl h hw rfl
theorem Ir {i:Nat} {p:Θ} (hw:σ.ov x=.ptr i p):σ.T i=some (.ptr p):=by
 unfold Sy.ov at hw;cases hs:σ.cp x<;>simp only [hs,SV.vw] at hw<;>try cases hw
 rename_i j;cases hb:σ.T j with
 |none=>simp [hb] at hw
 |some b=>cases b<;>simp only [hb,SB.vw] at hw<;>cases hw;exact hb
theorem E8 {i t:Nat} {b:Bool} (hw:σ.vw t=.bool i b):σ.T i=some (.bool b):=by
 unfold Sy.vw at hw;cases hs:σ.S t<;>simp only [hs,SV.vw] at hw<;>try cases hw
 rename_i j;cases hb:σ.T j with
 |none=>simp [hb] at hw
 |some b=>cases b<;>simp only [hb,SB.vw] at hw<;>cases hw;exact hb
theorem Is {i t:Nat} {p:Prop} {d:Decidable p} (hw:σ.vw t=.prp i p d):σ.T i=some (.prp p d):=by
 unfold Sy.vw at hw;cases hs:σ.S t<;>simp only [hs,SV.vw] at hw<;>try cases hw
 rename_i j;cases hb:σ.T j with
 |none=>simp [hb] at hw
 |some b=>cases b<;>simp only [hb,SB.vw] at hw<;>cases hw;exact hb
theorem pz {α:Type} (f:Nat->α) (d:Nat) (v:α):up f d v d=v:=by simp [up]
theorem t5 {α:Type} (f:Nat->α) {d t:Nat} (v:α) (h:¬t=d):up f d v t=f t:=by simp only [up,kH h];rfl
theorem Rel.put (h:Rel σ E) {d:Nat} {nv:NV} {v:Value} (hv:js σ.T nv v):Rel (σ.put d nv) (upd E d v):=by
 cases nv with
 |sv s=>
  refine ⟨λt=> ?_,h.top⟩;by_cases ht:t=d
  ·subst ht;show okV _ (up _ _ _ t) (upd E t v t);rw [pz,show upd E t v t=v by simp [upd]];exact hv
  ·show okV _ (up _ _ _ t) (upd E d v t);rw [t5 _ _ ht];simp only [upd,kH ht];exact h.val t
 |nb b=>
  have key:∀s x,okV σ.T s x->okV (up σ.T σ.n (some b)) s x:=by
   intro s x hs;cases s with
   |ref i=>obtain ⟨b',hb,hx⟩:=hs;refine ⟨b',?_,hx⟩;rw [t5 _ _ (λe=> ?_)];exact hb;rw [e,h.top _ (UW _)] at hb;cases hb
   |_=>exact hs
  refine ⟨λt=> ?_,λj hj=> ?_⟩
  ·by_cases ht:t=d
   ·subst ht;show okV _ (up _ _ _ t) (upd E t v t);rw [pz];exact ⟨b,pz ..,(show upd E t v t=v by simp [upd]).trans hv⟩
   ·show okV _ (up _ _ _ t) (upd E d v t);rw [t5 _ _ ht];simp only [upd,kH ht];exact key _ _ (h.val t)
  ·have hj':σ.n+1<=j:=hj;show up σ.T σ.n (some b) j=none;rw [t5 _ _ (by omega)];exact h.top _ (by omega)
theorem Rel.putO (h:Rel σ E) {d:Option Tmp} {nv:NV} {v:Value} (hv:js σ.T nv v):Rel (σ.putO d nv) (cQ E d v):=by
 cases d with
 |none=>exact h
 |some d=>exact h.put hv
theorem Rel.rf (h:Rel σ E) {i:Nat} {b0 b:SB} (hi:σ.T i=some b0) (hv:b0.v=b.v):Rel (σ.rf i b) E:=by
 refine ⟨λt=> ?_,λj hj=> ?_⟩
 ·have:=h.val t;show okV (up σ.T i (some b)) (σ.S t) (E t);cases hs:σ.S t with
  |ref j=>
   rw [hs] at this;obtain ⟨b',hb,hx⟩:=this;by_cases hji:j=i
   ·subst hji;rw [hi] at hb;cases hb;exact ⟨b,pz ..,hx.trans hv⟩
   ·exact ⟨b',by rw [t5 _ _ hji];exact hb,hx⟩
  |_=>rw [hs] at this;exact this
 ·show up σ.T i (some b) j=none;have:¬j=i:=λe=>by subst e;rw [h.top _ hj] at hi;cases hi
  rw [t5 _ _ this];exact h.top _ hj
theorem qZ {T:Nat->Option SB} (k:Kd) (x:k.T):js T (k.nv x) (k.v x):=by cases k<;>rfl
theorem E9 {T:Nat->Option SB} (k:Kd) (v:Value):js T (ofk k v) v:=by cases k<;>first|rfl|(cases v<;>first|rfl|exact True.intro)
theorem kM {K:Sy->Addr->Prop} (h:sxA σ x K) (r:Rel σ E):∃σ' a,Rel σ' E/\ev E x=.pointer (some a)/\K σ' a:=by
 unfold sxA at h;split at h
 ·rename_i a hw;exact ⟨σ,a,r,bl r hw rfl,h⟩
 ·rename_i i p hw;obtain ⟨a,rfl,h⟩:=h;exact ⟨σ.rf i (.ad a),a,r.rf (Ir hw) rfl,bl r hw rfl,h⟩
 ·rename_i a hw;exact ⟨σ,a,r,bl r hw rfl,h⟩
 ·exact h.elim
theorem jO (r:Rel σ E):∀(l:List Operand) {K:Ξ->Prop},ve σ l K->∃us,l.map (ev E)=us/\K us
 |[],_,h=>⟨[],rfl,h⟩
 |x::l,K,h=>by
  unfold ve at h;split at h
  ·rename_i v hv;obtain ⟨us,h1,h2⟩:=jO r l h;exact ⟨v::us,by rw [Vi,h1,bl r rfl hv],h2⟩
  ·exact h.elim
def y7 (P:Program) (E:En) (F:PH) (o:Oper) (K:RK):Prop:=
 ∃σ nv ck v,RD P E F o v/\Rel σ E/\js σ.T nv v/\(match ck with|none=>∀F,RD P E F o v|some c=>c F/\∀F':PH,c F'->RD P E F' o v)/\K σ nv ck
theorem y7.pure {K:RK} {nv:NV} {v:Value} (hy:∀F,RD P E F o v) (r:Rel σ E) (h:K σ nv none) (hv:js σ.T nv v):y7 P E F o K:=⟨σ,nv,none,v,hy F,r,hv,hy,h⟩
theorem y7.chk {K:RK} {nv:NV} {v:Value} {c:Ψ} (hc:c F) (hy:∀F',c F'->RD P E F' o v) (r:Rel σ E) (h:K σ nv (some c)) (hv:js σ.T nv v):y7 P E F o K:=⟨σ,nv,some c,v,hy F hc,r,hv,⟨hc,hy⟩,h⟩
def C3 (P:Program) (E:En) (o:Oper) (K:NV->Prop):Prop:=∃nv v,(∀F,RD P E F o v)/\(∀T,js T nv v)/\K nv
theorem C3.mk {K:NV->Prop} {nv:NV} {v:Value} (hy:∀F,RD P E F o v) (h:K nv) (hv:∀T,js T nv v:=by exact λ_=>rfl):C3 P E o K:=⟨nv,v,hy,hv,h⟩
theorem MB {op:BinOp} {k:IntKind} {a b:Int} {t t':TypeId} {lit:Bool} {K:NV->Prop} (h:sxI op k a b lit K) (ho:o.op=.binOp op t x y t') (hx:ev E x=.int k a) (hy:ev E y=.int k b):C3 P E o K:=by
 cases op<;>simp only [sxI] at h
 case add=>exact .mk (λF=>NZ ho hx hy) h
 case sub=>exact .mk (λF=>N0 ho hx hy) h
 case mul=>exact .mk (λF=>N7 ho hx hy) h
 case quo=>
  cases lit
  ·exact .mk (λF=>JB ho hx hy h.1) h.2
  ·simp only at h;split at h
   ·rename_i hb;exact .mk (λF=>JB ho hx hy (of_decide_eq_true hb)) h
   ·exact h.elim
 case rem=>
  cases lit
  ·exact .mk (λF=>JC ho hx hy h.1) h.2
  ·simp only at h;split at h
   ·rename_i hb;exact .mk (λF=>JC ho hx hy (of_decide_eq_true hb)) h
   ·exact h.elim
 case and=>exact .mk (λF=>N8 ho hx hy) h
 case or=>exact .mk (λF=>S5 ho hx hy) h
 case xor=>exact .mk (λF=>N9 ho hx hy) h
 case andNot=>exact .mk (λF=>Eb ho hx hy) h
 case lss=>exact .mk (λF=>Oa ho hx hy) h
 case leq=>exact .mk (λF=>Ob ho hx hy) h
 case gtr=>exact .mk (λF=>Oc ho hx hy) h
 case geq=>exact .mk (λF=>Od ho hx hy) h
 case eql=>exact .mk (λF=>Oe ho hx hy) h
 case neq=>exact .mk (v:=.bool (decide (a≠b))) (λF=>by
  have:=Of (P:=P) (F:=F) ho hx hy;rw [show (a !=b)=decide (a≠b) by rw [U3];simp] at this
  exact this) h
theorem MC {op:BinOp} {k k':IntKind} {a b:Int} {t t':TypeId} {lit:Bool} {K:NV->Prop} (h:sxH op k a b lit K) (ho:o.op=.binOp op t x y t') (hx:ev E x=.int k a) (hy:ev E y=.int k' b):C3 P E o K:=by
 cases op<;>simp only [sxH] at h
 case shl=>
  cases lit
  ·exact .mk (λF=>JD ho hx hy h.1) h.2
  ·simp only at h;split at h
   ·rename_i hb;exact .mk (λF=>JD ho hx hy (of_decide_eq_true hb)) h
   ·exact h.elim
 case shr=>
  cases lit
  ·exact .mk (λF=>JE ho hx hy h.1) h.2
  ·simp only at h;split at h
   ·rename_i hb;exact .mk (λF=>JE ho hx hy (of_decide_eq_true hb)) h
   ·exact h.elim
theorem vk {w:VW} {b:Bool} (h:w.tv=some b):w.val=some (.bool b):=by cases w<;>simp [VW.tv] at h<;>subst h<;>rfl
theorem Fb {op:BinOp} {t t':TypeId} {K:NV->Prop} (h:EZ P σ op t x y K) (r:Rel σ E) (ho:o.op=.binOp op t x y t'):C3 P E o K:=by
 unfold EZ at h;split at h
 ·rename_i k a k' b hx hy;split at h
  ·exact MC h ho (ovc r hx) (ovc r hy)
  ·split at h
   ·rename_i hk;obtain rfl:=of_decide_eq_true hk;exact MB h ho (ovc r hx) (ovc r hy)
   ·exact h.elim
 ·rename_i c d hx hy;split at h
  ·exact .mk (λF=>Ml ho (ovc r hx) (ovc r hy) h.1) h.2
  ·exact .mk (λF=>Mm ho (ovc r hx) (ovc r hy)) h
  ·exact .mk (λF=>Mn ho (ovc r hx) (ovc r hy)) h
  ·exact .mk (λF=>L9 ho (ovc r hx) (ovc r hy)) h
  ·exact .mk (λF=>Ma ho (ovc r hx) (ovc r hy)) h
  ·exact h.elim
 ·rename_i a hx hy;split at h
  ·rename_i ht;exact .mk (λF=>xm ho (bl r hx rfl) (ovc r hy) ht) h
  ·rename_i ht;exact .mk (λF=>xn ho (bl r hx rfl) (ovc r hy) ht) h
  ·exact h.elim
 ·rename_i i p hx hy;split at h
  ·rename_i ht;exact .mk (λF=>xm ho (bl r hx rfl) (ovc r hy) ht) h
  ·rename_i ht;exact .mk (λF=>xn ho (bl r hx rfl) (ovc r hy) ht) h
  ·exact h.elim
 ·rename_i b l c hx hy;split at h
  ·rename_i ht;exact .mk (λF=>yK (s:=⟨b,l,c⟩) ho (ovc r hx) (ovc r hy) ht) h
  ·rename_i ht;exact .mk (λF=>yL (s:=⟨b,l,c⟩) ho (ovc r hx) (ovc r hy) ht) h
  ·exact h.elim
 ·rename_i c d hx hy;split at h
  ·rename_i ht;obtain ⟨v,h1,h2⟩:=h;exact .mk (λF=>HM ho (ovc r hx) (ovc r hy) ht (h1 F)) h2
  ·rename_i ht;obtain ⟨v,h1,h2⟩:=h;exact .mk (λF=>HN ho (ovc r hx) (ovc r hy) ht (h1 F)) h2
  ·exact h.elim
 ·split at h
  ·rename_i a b ht ha hb;split at h
   ·exact .mk (λF=>L7 ho (bl r rfl (vk ha)) (bl r rfl (vk hb)) ht) h
   ·exact .mk (λF=>L8 ho (bl r rfl (vk ha)) (bl r rfl (vk hb)) ht) h
   ·exact h.elim
  ·exact h.elim
end
end Go.Proofs.YtcemhghkipgdiaaGreatDoor.Rx
