/-
  A reader of code: from a function's code it computes, in the kernel, the clean form of what the code does. Part 1: the reader.
-/
import Derived.Test.YtenpmjhnhepfdaaGreatDoorRa
import Derived.Test.YtenpmjhnhepfdaaGreatDoorPhp
namespace Go.Proofs.YtenpmjhnhepfdaaGreatDoor
open Go
abbrev VR:=Value→PH→Prop
abbrev sto (F:PH) (a:Addr) (v:Value) (K:PH→Prop):Prop:=
 ∃c e,F a.block=some (.cells c e (0,0))∧a.spot=none∧a.off<c.size∧atF (F.set a.block (.cells (c.setIfInBounds a.off v) e)) K
abbrev aA (F:PH) (a:Addr) (n:Nat) (v:Array Value) (K:PH→Prop):Prop:=
 v.size=n∧(∀x∈v.toList,aj x)∧∃c e,F a.block=some (.cells c e (0,0))∧a.spot=none∧a.off+n≤c.size∧atF (F.set a.block (.cells (wr c a.off v.toList) e)) K
namespace Rx
inductive Kd|int (k:IntKind)|bool|ptr|sl|str|map|agg|any
def Kd.T:Kd→Type
 | .int _=>Int| .bool=>Bool| .ptr=>Option Addr| .sl=>Sl| .str=>ByteArray| .map=>Option Nat| .agg=>Array Value| .any=>Value
def Kd.v:(k:Kd)→k.T→Value
 | .int k,x=> .int k x| .bool,b=> .bool b| .ptr,p=> .pointer p| .sl,s=>Sl.v s| .str,s=> .string s| .map,m=> .map m| .agg,c=> .agg c| .any,v=>v
def kdD:TypeDesc→Kd
 | .int k=> .int k| .bool=> .bool| .string=> .str| .pointer _=> .ptr| .slice _=> .sl| .map _ _=> .map| .struct _=> .agg| .array _ _=> .agg|_=> .any
def kd (P:Program) (t:TypeId):Kd:=match P.underlying t with|some d=>kdD d|none=> .any
inductive SV|c (v:Value)|any (v:Value)|ad (a:Addr)|lit (b:Bool)|vt (w:Array Value)|und|ref (i:Nat)|unk
inductive SB|bool (b:Bool)|prp (p:Prop) (d:Decidable p)|lit (b:Bool)|ptr (p:Option Addr)|ad (a:Addr)
def SB.v:SB→Value
 | .bool b=> .bool b| .prp p d=> .bool (@decide p d)| .lit b=> .bool b| .ptr p=> .pointer p| .ad a=> .pointer (some a)
inductive VW|c (v:Value)|any (v:Value)|ad (a:Addr)|lit (b:Bool)|vt (w:Array Value)|und|bool (i:Nat) (b:Bool)|prp (i:Nat) (p:Prop) (d:Decidable p)|ptr (i:Nat) (p:Option Addr)|unk
def SB.vw (i:Nat):SB→VW
 | .bool b=> .bool i b| .prp p d=> .prp i p d| .lit b=> .lit b| .ptr p=> .ptr i p| .ad a=> .ad a
def SV.vw (T:Nat→Option SB):SV→VW
 | .c v=> .c v| .any v=> .any v| .ad a=> .ad a| .lit b=> .lit b| .vt w=> .vt w| .und=> .und
 | .ref i=>(match T i with|some s=>s.vw i|none=> .unk)
 | .unk=> .unk
def VW.val:VW→Option Value
 | .c v=>some v| .any v=>some v| .ad a=>some (.pointer (some a))| .lit b=>some (.bool b)| .vt w=>some (.tuple w)| .und=>some undef
 | .bool _ b=>some (.bool b)| .prp _ p d=>some (.bool (@decide p d))| .ptr _ p=>some (.pointer p)| .unk=>none
structure Sy where
 S:Nat→SV
 T:Nat→Option SB
 n:Nat
def up {α:Type} (f:Nat→α) (d:Nat) (x:α):Nat→α:=fun t=>bif Nat.beq t d then x else f t
def LM:Value→SV
 | .bool b=> .lit b|v=> .c v
def Sy.cp (σ:Sy):Operand→SV
 | .tmp t=>σ.S t| .const v=>LM v| .global g=> .ad ⟨g,0,none⟩| .func f=> .c (.func (.func f) #[] #[])
def Sy.ov (σ:Sy) (x:Operand):VW:=(σ.cp x).vw σ.T
def Sy.vw (σ:Sy) (t:Nat):VW:=(σ.S t).vw σ.T
inductive NV|sv (s:SV)|nb (b:SB)
def Sy.put (σ:Sy) (d:Nat):NV→Sy
 | .sv s=>⟨up σ.S d s,σ.T,σ.n⟩
 | .nb b=>⟨up σ.S d (.ref σ.n),up σ.T σ.n (some b),σ.n+1⟩
def Sy.putO (σ:Sy):Option Tmp→NV→Sy
 |some d,v=>σ.put d v
 |none,_=>σ
def Sy.rf (σ:Sy) (i:Nat) (b:SB):Sy:=⟨σ.S,up σ.T i (some b),σ.n⟩
def Kd.nv:(k:Kd)→k.T→NV
 | .int k,x=> .sv (.c (.int k x))| .bool,b=> .nb (.bool b)| .ptr,p=> .nb (.ptr p)| .sl,s=> .sv (.c (Sl.v s))| .str,s=> .sv (.c (.string s))| .map,m=> .sv (.c (.map m))| .agg,c=> .sv (.c (.agg c))| .any,v=> .sv (.any v)
def ofk:Kd→Value→NV
 | .any,v=> .sv (.any v)
 | .bool,v=>(match v with| .bool b=> .nb (.bool b)|_=> .sv .unk)
 | .ptr,v=>(match v with| .pointer p=> .nb (.ptr p)|_=> .sv .unk)
 |_,v=> .sv (.c v)
def mC:List Nat→Nat→Bool
 |[],_=>false
 |x::l,t=>bif Nat.beq t x then true else mC l t
def Sy.hav (σ:Sy) (M:List Nat):Sy:=⟨fun t=>bif mC M t then .unk else σ.S t,σ.T,σ.n⟩
def sxA (σ:Sy) (x:Operand) (K:Sy→Addr→Prop):Prop:=
 match σ.ov x with
 | .ad a=>K σ a
 | .ptr i p=>∃a:Addr,p=some a∧K (σ.rf i (.ad a)) a
 | .c (.pointer (some a))=>K σ a
 |_=>False
def uJ (σ:Sy):List Operand→(List Value→Prop)→Prop
 |[],K=>K []
 |x::l,K=>match (σ.ov x).val with|some v=>uJ σ l (fun us=>K (v::us))|none=>False
abbrev RK:=Sy→NV→Option (PH→Prop)→Prop
def okN (b:Bool) (K:Prop):Prop:=match b with|true=>K|false=>False
def sxI (op:BinOp) (k:IntKind) (a b:Int) (lit:Bool) (K:NV→Prop):Prop:=
 match op with
 | .add=>K (.sv (.c (.int k (k.wrap (a+b)))))
 | .sub=>K (.sv (.c (.int k (k.wrap (a - b)))))
 | .mul=>K (.sv (.c (.int k (k.wrap (a*b)))))
 | .quo=>(match lit with|true=>(match decide (b≠0) with|true=>K (.sv (.c (.int k (k.wrap (Int.tdiv a b)))))|false=>False)|false=>b≠0∧K (.sv (.c (.int k (k.wrap (Int.tdiv a b))))))
 | .rem=>(match lit with|true=>(match decide (b≠0) with|true=>K (.sv (.c (.int k (Int.tmod a b))))|false=>False)|false=>b≠0∧K (.sv (.c (.int k (Int.tmod a b)))))
 | .and=>K (.sv (.c (.int k (k.wrap ((BitVec.ofInt k.bits a &&& BitVec.ofInt k.bits b).toNat)))))
 | .or=>K (.sv (.c (.int k (k.wrap ((BitVec.ofInt k.bits a ||| BitVec.ofInt k.bits b).toNat)))))
 | .xor=>K (.sv (.c (.int k (k.wrap ((BitVec.ofInt k.bits a ^^^ BitVec.ofInt k.bits b).toNat)))))
 | .andNot=>K (.sv (.c (.int k (k.wrap ((BitVec.ofInt k.bits a &&& ~~~ BitVec.ofInt k.bits b).toNat)))))
 | .lss=>K (.nb (.prp (a<b) inferInstance))
 | .leq=>K (.nb (.prp (a≤b) inferInstance))
 | .gtr=>K (.nb (.prp (b<a) inferInstance))
 | .geq=>K (.nb (.prp (b≤a) inferInstance))
 | .eql=>K (.nb (.prp (a=b) inferInstance))
 | .neq=>K (.nb (.prp (a≠b) inferInstance))
 |_=>False
def sxH (op:BinOp) (k:IntKind) (a b:Int) (lit:Bool) (K:NV→Prop):Prop:=
 match op with
 | .shl=>(match lit with|true=>(match decide (0≤b) with|true=>K (.sv (.c (.int k (k.wrap (a*2 ^ (min b.toNat k.bits))))))|false=>False)|false=>0≤b∧K (.sv (.c (.int k (k.wrap (a*2 ^ (min b.toNat k.bits)))))))
 | .shr=>(match lit with|true=>(match decide (0≤b) with|true=>K (.sv (.c (.int k (a.fdiv (2 ^ (min b.toNat k.bits))))))|false=>False)|false=>0≤b∧K (.sv (.c (.int k (a.fdiv (2 ^ (min b.toNat k.bits)))))))
 |_=>False
def ES:BinOp→Bool
 | .shl=>true| .shr=>true|_=>false
def sM:Operand→Bool
 | .const _=>true|_=>false
def VW.tv:VW→Option Bool
 | .lit b=>some b| .bool _ b=>some b| .prp _ p d=>some (@decide p d)|_=>none
def Cq (P:Program) (σ:Sy) (op:BinOp) (t:TypeId) (x y:Operand) (K:NV→Prop):Prop:=
 match σ.ov x,σ.ov y with
 | .c (.int k a),.c (.int k' b)=>(match ES op with|true=>sxH op k a b (sM y) K|false=>(match decide (k=k') with|true=>sxI op k a b (sM y) K|false=>False))
 | .c (.string c),.c (.string d)=>(match op with
  | .add=>c.size+d.size≤9223372036854775807∧K (.sv (.c (.string (c++d))))
  | .lss=>K (.nb (.bool (Op.bytesLess c.toList d.toList)))
  | .geq=>K (.nb (.bool (!Op.bytesLess c.toList d.toList)))
  | .eql=>K (.nb (.bool (c.toList==d.toList)))
  | .neq=>K (.nb (.bool (!(c.toList==d.toList))))
  |_=>False)
 | .ad _,.c (.pointer none)=>(match P.underlying t,op with|some (.pointer _),.eql=>K (.sv (.lit false))|some (.pointer _),.neq=>K (.sv (.lit true))|_,_=>False)
 | .ptr _ p,.c (.pointer none)=>(match P.underlying t,op with|some (.pointer _),.eql=>K (.nb (.bool p.isNone))|some (.pointer _),.neq=>K (.nb (.bool (!p.isNone)))|_,_=>False)
 | .c (.slice b _ _),.c (.slice none 0 0)=>(match P.underlying t,op with|some (.slice _),.eql=>K (.nb (.bool b.isNone))|some (.slice _),.neq=>K (.nb (.bool (!b.isNone)))|_,_=>False)
 | .c (.agg c),.c (.agg d)=>(match P.eqGuardType P.depth t,op with
  |false,.eql=>∃v:Bool,(∀F,rdo P (Op.equal t (.agg c) (.agg d)) F v)∧K (.nb (.bool v))
  |false,.neq=>∃v:Bool,(∀F,rdo P (Op.equal t (.agg c) (.agg d)) F v)∧K (.nb (.bool (!v)))
  |_,_=>False)
 |u,w=>(match P.underlying t,u.tv,w.tv with
  |some .bool,some a,some b=>(match op with| .eql=>K (.nb (.bool (a==b)))| .neq=>K (.nb (.bool (!(a==b))))|_=>False)
  |_,_,_=>False)
def Je (P:Program) (t:TypeId) (a:Addr) (F:PH) (K:NV→(PH→Prop)→Prop):Prop:=
 match P.underlying t with
 |none=>False
 |some d=>match kdD d with
  | .agg=>(match tsz P t with|some (n,_)=>∃v:Array Value,v.size=n∧F.row a v∧K (.sv (.c (.agg v))) (fun F=>F.row a v)|none=>False)
  |k=>∃x:k.T,F.cell a=some (k.v x)∧K (k.nv x) (fun F=>F.cell a=some (k.v x))
def sN (σ:Sy) (y:Option Operand) (dflt:Nat) (K:Nat→Prop):Prop:=
 match y with
 |none=>K dflt
 |some y=>match σ.ov y with
  | .c (.int _ i)=>(match sM y with|true=>(match decide (0≤i) with|true=>K i.toNat|false=>False)|false=>0≤i∧K i.toNat)
  |_=>False
def bld (σ:Sy) (place:Nat→Option (Nat×Nat)) (n:Nat):List (Nat×Operand)→Array Value→(Array Value→Prop)→Prop
 |[],cs,K=>K cs
 | (i,x)::l,cs,K=>match place i with
  |none=>False
  |some (off,s)=>match σ.ov x with
   | .c (.agg c)=>(match Nat.ble (off+s) n with|true=>c.size=s∧bld σ place n l (wr cs off c.toList) K|false=>False)
   | .c v=>(match Nat.beq s 1,Nat.blt off n with|true,true=>bld σ place n l (cs.setIfInBounds off v) K|_,_=>False)
   | .any _=>False
   |w=>(match Nat.beq s 1,Nat.blt off n,w.val with|true,true,some v=>bld σ place n l (cs.setIfInBounds off v) K|_,_,_=>False)
def LN:Op→Bool
 | .move _| .assign _| .pick _ _ _| .nilCheck _| .extract _ _| .fieldAddr _ _ _| .load _ _| .indexAddr _ _ _| .index _ _ _| .field _ _ _| .binOp _ _ _ _ _| .unOp _ _ _| .convert _ _ _| .slice _ _ _ _ _
 | .build _ _| .lookup _ _ _ _| .makeFunc _ _ _| .entry _=>true
 | .call ⟨.builtin .len,_,_⟩| .call ⟨.builtin .cap,_,_⟩| .call ⟨.builtin .max,_,_⟩| .call ⟨.builtin .min,_,_⟩=>true
 |_=>false
def sxR (P:Program) (σ:Sy) (o:Oper) (F:PH) (K:RK):Prop:=
 match o.op with
 | .move x=>K σ (.sv (σ.cp x)) none
 | .assign x=>K σ (.sv (σ.cp x)) none
 | .pick c a b=>(match σ.ov c with| .lit true=>K σ (.sv (σ.cp a)) none| .lit false=>K σ (.sv (σ.cp b)) none|_=>False)
 | .nilCheck x=>(match σ.ov x with
  | .c (.func (.func _) _ _)=>K σ (.sv (σ.cp x)) none
  |_=>sxA σ x fun σ a=>K σ (.sv (.ad a)) none)
 | .extract x i=>(match σ.ov x with
  | .c (.tuple vs)=>(match vs[i]? with|some v=>K σ (ofk (kd P o.type) v) none|none=>False)
  | .vt w=>∃v:(kd P o.type).T,w[i]? =some ((kd P o.type).v v)∧K σ ((kd P o.type).nv v) none
  |_=>False)
 | .fieldAddr t x i=>(match P.underlying t with
  |some (.struct fs)=>(match fs[i]? with
   |some f=>(match tsz P f.type with|some (_+1,_)=>sxA σ x fun σ a=>K σ (.sv (.ad (a.add f.offset))) none|_=>False)
   |none=>False)
  |_=>False)
 | .load t x=>sxA σ x fun σ a=>Je P t a F fun v ck=>K σ v (some ck)
 | .indexAddr t x y=>(match σ.ov y,P.underlying t with
  | .c (.int _ i),some (.slice e)=>(match σ.ov x,tsz P e with
   | .c (.slice base len _),some (s,_)=>∃a:Addr,base=some a∧0≤i∧i<(len:Int)∧K σ (.sv (.ad (a.add (i.toNat*s)))) none
   |_,_=>False)
  | .c (.int _ i),some (.array n e)=>(match tsz P e with
   |some (s,_)=>sxA σ x fun σ a=>0≤i∧i<(n:Int)∧K σ (.sv (.ad (a.add (i.toNat*s)))) none
   |_=>False)
  |_,_=>False)
 | .index t x y=>(match σ.ov x,σ.ov y,P.underlying t with
  | .c (.string s),.c (.int _ i),some .string=>0≤i∧i<(s.size:Int)∧∃(hx:Int.toNat i<s.size) (v:Int),v=((s[Int.toNat i]'hx).toNat:Int)∧K σ (.sv (.c (.int .u8 v))) none
  | .c (.agg cs),.c (.int _ i),some (.array n e)=>(match P.underlying e,tsz P e with
   |some d,some (s,_)=>(match kdD d with
    | .agg=>False
    |k=>0≤i∧i<(n:Int)∧∃v:k.T,cs[i.toNat*s]? =some (k.v v)∧K σ (k.nv v) none)
   |_,_=>False)
  |_,_,_=>False)
 | .field t x i=>(match σ.ov x,P.underlying t with
  | .c (.agg cs),some (.struct fs)=>(match fs[i]? with
   |some f=>(match P.underlying f.type,tsz P f.type with
    |some d,some (s,_)=>(match kdD d with
     | .agg=>K σ (.sv (.c (.agg (cs.extract f.offset (f.offset+s))))) none
     |k=>∃v:k.T,cs[f.offset]? =some (k.v v)∧K σ (k.nv v) none)
    |_,_=>False)
   |none=>False)
  |_,_=>False)
 | .binOp op t x y _=>Cq P σ op t x y fun v=>K σ v none
 | .unOp op _ x=>(match op,σ.ov x with
  | .not,.lit b=>K σ (.sv (.lit (!b))) none
  | .not,.bool _ b=>K σ (.nb (.bool (!b))) none
  | .not,.prp _ p d=>K σ (.nb (.prp (¬p) (@instDecidableNot p d))) none
  | .neg,.c (.int k a)=>K σ (.sv (.c (.int k (k.wrap (0 - a))))) none
  |_,_=>False)
 | .convert t t' x=>(match σ.ov x,P.underlying t,P.underlying t' with
  | .c (.int _ a),some _,some (.int k')=>K σ (.sv (.c (.int k' (k'.wrap a)))) none
  | .c (.slice b l c),some (.slice e),some .string=>(match P.underlying e with
   |some (.int .u8)=>∃s:ByteArray,rdo P (Conv.bytesToString (.slice b l c)) F (.string s)∧K σ (.sv (.c (.string s))) (some fun F=>rdo P (Conv.bytesToString (.slice b l c)) F (.string s))
   |_=>False)
  |_,_,_=>False)
 | .slice t x lo hi mx=>(match P.underlying t,mx with
  |some (.slice e),none=>(match σ.ov x,tsz P e with
   | .c (.slice b len cap),some (sz,_)=>sN σ lo 0 fun l=>sN σ hi len fun h=>l≤h∧h≤cap∧K σ (.sv (.c (Sl.v (Sl.cut ⟨b,len,cap⟩ sz l h cap)))) none
   |_,_=>False)
  |some .string,none=>(match σ.ov x with
   | .c (.string s)=>sN σ lo 0 fun l=>sN σ hi s.size fun h=>l≤h∧h≤s.size∧K σ (.sv (.c (.string (s.extract l h)))) none
   |_=>False)
  |some (.array n e),none=>(match tsz P e,lo,hi with
   |some (sz,_),none,none=>sxA σ x fun σ a=>K σ (.sv (.c (Sl.v (Sl.cut ⟨some a,n,n⟩ sz 0 n n)))) none
   |some (sz,_),lo,hi=>sxA σ x fun σ a=>sN σ lo 0 fun l=>sN σ hi n fun h=>l≤h∧h≤n∧K σ (.sv (.c (Sl.v (Sl.cut ⟨some a,n,n⟩ sz l h n)))) none
   |_,_,_=>False)
  |some (.slice e),some mx=>(match σ.ov x,tsz P e,hi.map σ.ov,σ.ov mx with
   | .c (.slice b len cap),some (sz,_),some (.c (.int _ i)),.c (.int _ m)=>sN σ lo 0 fun l=>
    0≤i∧0≤m∧l≤i.toNat∧i≤m∧m≤(cap:Int)∧K σ (.sv (.c (Sl.v (Sl.cut ⟨b,len,cap⟩ sz l i.toNat m.toNat)))) none
   |_,_,_,_=>False)
  |_,_=>False)
 | .build t parts=>(match P.underlying t,bu P t with
  |some (.struct fs),some z=>okN (hD P fs) (bld σ (fun i=>(j0 P fs)[i]?) z.cells.size parts.toList z.cells fun cs=>K σ (.sv (.c (.agg cs))) none)
  |some (.array _ e),some z=>(match tsz P e with
   |some (s,_)=>bld σ (fun i=>some (i*s,s)) z.cells.size parts.toList z.cells fun cs=>K σ (.sv (.c (.agg cs))) none
   |none=>False)
  |_,_=>False)
 | .makeFunc (.func f) first cap=>uJ σ first.toList fun us=>uJ σ cap.toList fun vs=>K σ (.sv (.c (.func (.func f) us.toArray vs.toArray))) none
 | .lookup t x y ok=>(match (σ.ov x).val,(σ.ov y).val,P.underlying t with
  |some u,some v,some (.map _ e)=>(match ok with
   |true=>∃(r:(kd P e).T) (b:Bool),rdo P (Instr.lookup t u v true) F (.tuple #[(kd P e).v r,.bool b])∧K σ (.sv (.c (.tuple #[(kd P e).v r,.bool b]))) (some fun F=>rdo P (Instr.lookup t u v true) F (.tuple #[(kd P e).v r,.bool b]))
   |false=>∃r:(kd P e).T,rdo P (Instr.lookup t u v false) F ((kd P e).v r)∧K σ ((kd P e).nv r) (some fun F=>rdo P (Instr.lookup t u v false) F ((kd P e).v r)))
  |_,_,_=>False)
 | .entry x=>(match (σ.ov x).val with
  |some u=>∃(k:ByteArray) (v:Sl),rdo P (Instr.entry u) F (.tuple #[.string k,Sl.v v])∧K σ (.sv (.c (.tuple #[.string k,Sl.v v]))) (some fun F=>rdo P (Instr.entry u) F (.tuple #[.string k,Sl.v v]))
  |none=>False)
 | .call ⟨.builtin b,args,ts⟩=>(match b,args.toList.map σ.ov,ts.toList with
  | .len,[.c (.slice _ l _)],[t]=>(match P.underlying t with|some (.slice _)=>K σ (.sv (.c (.int .i64 (l:Int)))) none|_=>False)
  | .len,[.c (.string s)],[t]=>(match P.underlying t with|some .string=>K σ (.sv (.c (.int .i64 (s.size:Int)))) none|_=>False)
  | .len,[.c (.map m)],[t]=>∃v:Int,rdo P (Builtin.len_ #[t] o.type #[.map m]) F (.int .i64 v)∧K σ (.sv (.c (.int .i64 v))) (some fun F=>rdo P (Builtin.len_ #[t] o.type #[.map m]) F (.int .i64 v))
  | .cap,[.c (.slice _ _ c)],[t]=>(match P.underlying t with|some (.slice _)=>K σ (.sv (.c (.int .i64 (c:Int)))) none|_=>False)
  | .max,[.c (.int k a),.c (.int k' b)],_=>okN (decide (k=k')) (K σ (.sv (.c (.int k (max a b)))) none)
  | .min,[.c (.int k a),.c (.int k' b)],_=>okN (decide (k=k')) (K σ (.sv (.c (.int k (min a b)))) none)
  | .max,[.c (.int k a),.c (.int k' b),.c (.int k'' c)],_=>okN (decide (k=k'∧k=k'')) (K σ (.sv (.c (.int k (max (max a b) c)))) none)
  | .min,[.c (.int k a),.c (.int k' b),.c (.int k'' c)],_=>okN (decide (k=k'∧k=k'')) (K σ (.sv (.c (.int k (min (min a b) c)))) none)
  |_,_,_=>False)
 |_=>False
def uK (P:Program) (σ:Sy) (d:Option Tmp) (t:TypeId) (v:Value) (K:Sy→Prop):Prop:=
 match d with
 |none=>K σ
 |some d=>match P.underlying t with
  |some (.tuple ts)=>(match ts.toList with
   |[]=>v=.tuple #[]∧K (σ.put d (.sv (.c (.tuple #[]))))
   |[a]=>∃x:(kd P a).T,v=.tuple #[(kd P a).v x]∧K (σ.put d (.sv (.c (.tuple #[(kd P a).v x]))))
   |[a,b]=>∃x:(kd P a).T,∃y:(kd P b).T,v=.tuple #[(kd P a).v x,(kd P b).v y]∧K (σ.put d (.sv (.c (.tuple #[(kd P a).v x,(kd P b).v y]))))
   |[a,b,c]=>∃x:(kd P a).T,∃y:(kd P b).T,∃z:(kd P c).T,v=.tuple #[(kd P a).v x,(kd P b).v y,(kd P c).v z]∧K (σ.put d (.sv (.c (.tuple #[(kd P a).v x,(kd P b).v y,(kd P c).v z]))))
   |[a,b,c,e]=>∃x:(kd P a).T,∃y:(kd P b).T,∃z:(kd P c).T,∃u:(kd P e).T,v=.tuple #[(kd P a).v x,(kd P b).v y,(kd P c).v z,(kd P e).v u]∧K (σ.put d (.sv (.c (.tuple #[(kd P a).v x,(kd P b).v y,(kd P c).v z,(kd P e).v u]))))
   |_=>False)
  |_=>∃x:(kd P t).T,v=(kd P t).v x∧K (σ.put d ((kd P t).nv x))
abbrev EK:=Bool→Sy→PH→Prop
def sxN (σ:Sy) (d:Option Tmp) (o:Obj) (s:Nat→SV) (F:PH) (K:EK):Prop:=
 ∀b,F b=none→atF (F.set b o) fun F=>K true (σ.putO d (.sv (s b))) F
def ET (σ:Sy):Nat→List (Nat×Operand)→Option (List Value)
 |_,[]=>some []
 |k,(i,x)::l=>match Nat.beq i k,σ.ov x with
  |true,.c (.agg _)=>none
  |true,.any _=>none
  |true,w=>(match w.val,ET σ (k+1) l with|some v,some vs=>some (v::vs)|_,_=>none)
  |false,_=>none
def sxE (P:Program) (σ:Sy) (o:Oper) (F:PH) (K:EK):Prop:=
 match o.op with
 | .alloc t=>(match bu P t with|some z=>sxN σ o.dst (.cells z.cells t) (fun b=> .ad ⟨b,0,none⟩) F K|none=>False)
 | .box t x=>(match σ.ov x with
  | .c (.agg c)=>sxN σ o.dst (.cells c t) (fun b=> .ad ⟨b,0,none⟩) F K
  | .any v=>v.cells= #[v]∧sxN σ o.dst (.cells #[v] t) (fun b=> .ad ⟨b,0,none⟩) F K
  |w=>(match w.val with|some v=>sxN σ o.dst (.cells #[v] t) (fun b=> .ad ⟨b,0,none⟩) F K|none=>False))
 | .buildSlice t m parts=>(match P.underlying t with
  |some (.slice e)=>(match tsz P e,bu P e with
   |some (s,_),some z=>(match Nat.ble (m*s) 16777216,Nat.beq z.cells.size s,Nat.blt 0 s with
    |true,true,true=>(match Nat.beq s 1,Nat.beq parts.toList.length m,ET σ 0 parts.toList with
     |true,true,some l=>sxN σ o.dst (.cells l.toArray e) (fun b=> .c (Sl.v ⟨some ⟨b,0,none⟩,m,m⟩)) F K
     |_,_,_=>(match m,parts.toList.map (fun p=>(p.1,σ.ov p.2)) with
      |1,[(0,.c (.agg c))]=>c.size=s∧sxN σ o.dst (.cells c e) (fun b=> .c (Sl.v ⟨some ⟨b,0,none⟩,1,1⟩)) F K
      |m,_=>bld σ (fun i=>some (i*s,s)) (m*s) parts.toList ((List.replicate m z.cells.toList).flatten).toArray fun cs=>sxN σ o.dst (.cells cs e) (fun b=> .c (Sl.v ⟨some ⟨b,0,none⟩,m,m⟩)) F K))
    |_,_,_=>False)
   |_,_=>False)
  |_=>False)
 | .store t x y=>sxA σ x fun σ a=>(match σ.ov y,tsz P t with
  | .c (.agg v),some (n+1,_)=>aA F a (n+1) v fun F=>K false (σ.putO o.dst (.sv .und)) F
  | .c (.tuple _),_=>False
  | .c v,some (1,_)=>sto F a v fun F=>K false (σ.putO o.dst (.sv .und)) F
  | .any v,some (1,_)=>aj v∧v.cells= #[v]∧sto F a v fun F=>K false (σ.putO o.dst (.sv .und)) F
  | .vt _,_=>False
  | .und,_=>False
  |w,some (1,_)=>(match w.val with|some v=>sto F a v fun F=>K false (σ.putO o.dst (.sv .und)) F|none=>False)
  |_,_=>False)
 | .range t x=>(match P.underlying t,σ.ov x with
  |some .string,.c (.string s)=>sxN σ o.dst (.stringIter s 0) (fun b=> .ad ⟨b,0,none⟩) F K
  |some (.map _ _),w=>(match w.val with
   |some v=>aE P (Instr.range t v) F fun v F=>∃b:Nat,v=.pointer (some ⟨b,0,none⟩)∧K false (σ.putO o.dst (.sv (.ad ⟨b,0,none⟩))) F
   |none=>False)
  |_,_=>False)
 | .next x is=>(match (σ.ov x).val with
  |some v=>aE P (Instr.next v is o.type) F fun v F=>∃w:Array Value,v=.tuple w∧K false (σ.putO o.dst (.sv (.vt w))) F
  |none=>False)
 | .makeSlice t x y=>(match (σ.ov x).val,(σ.ov y).val with
  |some u,some v=>aE P (Instr.makeSlice t u v) F fun v F=>∃s:Sl,v=Sl.v s∧K false (σ.putO o.dst (.sv (.c (Sl.v s)))) F
  |_,_=>False)
 | .makeMap _ none=>sxN σ o.dst (.map #[] 0) (fun b=> .c (.map (some b))) F K
 | .mapUpdate t x y z=>(match (σ.ov x).val,(σ.ov y).val,(σ.ov z).val with
  |some u,some v,some w=>aE P (Instr.mapUpdate t u v w) F fun _ F=>K false (σ.putO o.dst (.sv .und)) F
  |_,_,_=>False)
 | .insert t x y z=>(match (σ.ov x).val,(σ.ov y).val,(σ.ov z).val with
  |some u,some v,some w=>aE P (Instr.mapUpdate t u v w) F fun _ F=>K false (σ.putO o.dst (.sv .und)) F
  |_,_,_=>False)
 | .call ⟨.builtin b,args,ts⟩=>(match b,args.toList with
  | .append,[x,y]=>(match (σ.ov x).val,(σ.ov y).val with
   |some u,some v=>aE P (Builtin.append_ ts o.type #[u,v]) F fun v F=>∃s:Sl,v=Sl.v s∧K false (σ.putO o.dst (.sv (.c (Sl.v s)))) F
   |_,_=>False)
  | .copy,[x,y]=>(match (σ.ov x).val,(σ.ov y).val with
   |some u,some v=>aE P (Builtin.copy_ ts o.type #[u,v]) F fun v F=>∃n:Int,v=.int .i64 n∧K false (σ.putO o.dst (.sv (.c (.int .i64 n)))) F
   |_,_=>False)
  | .delete,[x,y]=>(match (σ.ov x).val,(σ.ov y).val with
   |some u,some v=>aE P (Builtin.delete_ ts o.type #[u,v]) F fun _ F=>K false (σ.putO o.dst (.sv .unk)) F
   |_,_=>False)
  |_,_=>False)
 | .call ⟨.value (.func f),args,_⟩=>uJ σ args.toList fun vs=>okN (au P f) (ac P f vs.toArray F fun v F=>uK P σ o.dst o.type v fun σ=>K false σ F)
 | .call ⟨.value g,args,_⟩=>uJ σ args.toList fun vs=>(match σ.ov g with
  | .c (.func (.func f) a b)=>okN (au P f) (ac P f (a++vs.toArray++b) F fun v F=>uK P σ o.dst o.type v fun σ=>K false σ F)
  | .any u=>∃(k:Nat) (a b:Array Value),u=.func (.func k) a b∧au P k=true∧ac P k (a++vs.toArray++b) F fun v F=>uK P σ o.dst o.type v fun σ=>K false σ F
  |_=>False)
 |_=>False
inductive G|go|no|split (i:Nat) (b:SB) (want:Bool)|bad
def grd (ops:Array Oper) (σ:Sy) (o:Oper):G:=
 match o.guard with
 |none=> .go
 |some (j,want)=>match (ops[j]?).bind (·.dst) with
  |none=> .no
  |some t=>match σ.vw t with
   | .lit b=>(match b==want with|true=> .go|false=> .no)
   | .und=> .no
   | .bool i b=> .split i (.bool b) want
   | .prp i p d=> .split i (.prp p d) want
   |_=> .bad
def spl (b:SB) (f:Bool→Prop):Prop:=
 match b with
 | .bool b=>(b=true→f true)∧(b=false→f false)
 | .prp p _=>(p→f true)∧(¬p→f false)
 |_=>False
def sxO (P:Program) (o:Oper) (K:Sy→PH→Prop) (σ:Sy) (F:PH):Prop:=
 match LN o.op with
 |true=>sxR P σ o F fun σ v _=>K (σ.putO o.dst v) F
 |false=>sxE P σ o F fun _ σ F=>K σ F
def sxL (P:Program) (n:Nat) (ops:Array Oper) (K:Sy→PH→Prop):List Oper→Sy→PH→Prop
 |[],σ,F=>K σ F
 |o::l,σ,F=>okN (eJ n o.dst) (match grd ops σ o with
  | .go=>sxO P o (sxL P n ops K l) σ F
  | .no=>sxL P n ops K l (σ.putO o.dst (.sv .und)) F
  | .split i b want=>spl b fun v=>match v==want with
   |true=>sxO P o (sxL P n ops K l) (σ.rf i (.lit v)) F
   |false=>sxL P n ops K l ((σ.rf i (.lit v)).putO o.dst (.sv .und)) F
  | .bad=>False)
abbrev Pn:=List (Nat×(PH→Prop))
def Jf (F:PH):Pn→Prop→Prop
 |[],K=>K
 | (_,c)::l,K=>c F∧Jf F l K
def rg (ops:Array Oper) (σ:Sy):List Nat→Option (Nat×Oper×G)
 |[]=>none
 |i::l=>match ops[i]? with
  |none=>none
  |some o=>match grd ops σ o with
   | .go=>(match LN o.op with|true=>some (i,o,.go)|false=>rg ops σ l)
   |g=>some (i,o,g)
def Jg:List Prop→Prop
 |[]=>False
 |[p]=>p
 |p::l=>p∧Jg l
def sxD (P:Program) (n:Nat) (ops:Array Oper) (K:Sy→PH→Prop):Nat→Nat→Array Bool→Pn→Sy→PH→Prop
 |0,_,_,_,_,_=>False
 |k+1,fuel,listed,pend,σ,F=>match Region.ready .any ops listed with
  |[]=>K σ F
  |rs=>match fuel with
   |0=>False
   |fuel+1=>match rg ops σ rs with
    |some (i,o,g)=>okN (Region.noSelect ops && Region.free .any ops listed i && (Region.ready .any ops listed).contains i && eJ n o.dst) (match g with
     | .no=>sxD P n ops K k fuel (listed.setIfInBounds i true) pend (σ.putO o.dst (.sv .und)) F
     | .split j b _=>spl b fun v=>sxD P n ops K k (fuel+1) listed pend (σ.rf j (.lit v)) F
     | .go=>sxR P σ o F fun σ v ck=>sxD P n ops K k fuel (listed.setIfInBounds i true) (match ck with|none=>pend|some c=>(i,c)::pend) (σ.putO o.dst v) F
     | .bad=>False)
    |none=>Jg (rs.map fun i=>match ops[i]? with
     |none=>False
     |some o=>okN (eJ n o.dst) (sxE P σ o F fun fl σ F=>
      match fl with
      |true=>sxD P n ops K k fuel (listed.setIfInBounds i true) (pend.filter fun p=> !Oper.waits .any o p.1) σ F
      |false=>Jf F (pend.filter fun p=> !Oper.waits .any o p.1) (sxD P n ops K k fuel (listed.setIfInBounds i true) (pend.filter fun p=> !Oper.waits .any o p.1) σ F)))
def Tl:List (Nat×Kd)→Type
 |[]=>PH→Prop
 | (_,k)::l=>k.T→Tl l
def pay (w:VW):(k:Kd)→(k.T→Prop)→Prop
 | .int k,K=>(match w with| .c (.int k' x)=>(match decide (k=k') with|true=>K x|false=>False)|_=>False)
 | .bool,K=>(match w with| .lit b=>K b| .bool _ b=>K b| .prp _ p d=>K (@decide p d)|_=>False)
 | .ptr,K=>(match w with| .ad a=>K (some a)| .ptr _ p=>K p| .c (.pointer p)=>K p|_=>False)
 | .sl,K=>(match w with| .c (.slice b l c)=>K ⟨b,l,c⟩|_=>False)
 | .str,K=>(match w with| .c (.string s)=>K s|_=>False)
 | .map,K=>(match w with| .c (.map m)=>K m|_=>False)
 | .agg,K=>(match w with| .c (.agg c)=>K c|_=>False)
 | .any,K=>(match w.val with|some v=>K v|none=>False)
def jap (σ:Sy):(l:List (Nat×Kd))→Tl l→PH→Prop
 |[],J,F=>J F
 | (t,k)::l,J,F=>pay (σ.vw t) k fun x=>jap σ l (J x) F
def jbd (f:Sy→PH→Prop):(l:List (Nat×Kd))→Sy→Tl l
 |[],σ=>f σ
 |(t,k)::l,σ=>fun x=>jbd f l (σ.put t (k.nv x))
def Jh (f:Sy→PH→Prop):(l:List (Nat×Kd))→Tl l→Sy→Prop
 |[],J,σ=>∀F,J F→f σ F
 |(t,k)::l,J,σ=>∀x:k.T,Jh f l (J x) (σ.put t (k.nv x))
def Ji:(l:List (Nat×Kd))→Tl l→Tl l→Prop
 |[],J,Y=>∀F,J F→Y F
 |(_,k)::l,J,Y=>∀x:k.T,Ji l (J x) (Y x)
def jdn:(l:List (Nat×Kd))→(Nat→Tl l)→Nat→Tl l
 |[],I,m=>fun F=>∃m',m'<m∧I m' F
 | (_,_)::l,I,m=>fun x=>jdn l (fun m'=>I m' x) m
inductive gL|N|T (a b:gL)|J (cut:Bool) (l:List (Nat×Kd)) (a b:gL)|L (l:List (Nat×Kd)) (a:gL)
def gL.fst:gL→gL
 | .T a _=>a| .J _ _ a _=>a| .L _ a=>a| .N=> .N
def gL.snd:gL→gL
 | .T _ b=>b| .J _ _ _ b=>b|_=> .N
def gL.jn:gL→Option (Bool×List (Nat×Kd))
 | .J c l _ _=>some (c,l)|_=>none
def gL.lv:gL→List (Nat×Kd)
 | .L l _=>l|_=>[]
def Cr:List Oper→List Nat
 |[]=>[]
 |o::l=>match o.dst with|some d=>d::Cr l|none=>Cr l
def ic:Code→List Nat
 | .region _ ops _=>Cr ops.toList
 | .seq a b=>ic a++ic b
 | .cond _ a b=>ic a++ic b
 | .block _ c=>ic c
 | .loop c=>ic c
 |_=>[]
abbrev CK:=Exit→Sy→PH→Prop
def onN (f:Sy→PH→Prop) (K:CK):CK
 | .normal,σ,F=>f σ F
 |x,σ,F=>K x σ F
def onX (id:Nat) (K:CK):CK
 | .exit i,σ,F=>bif Nat.beq i id then K .normal σ F else K (.exit i) σ F
 |x,σ,F=>K x σ F
def sx (P:Program) (n:Nat):Code→gL→CK→Sy→PH→Prop
 | .skip,_,K,σ,F=>K .normal σ F
 | .ret,_,K,σ,F=>K .ret σ F
 | .exit i,_,K,σ,F=>K (.exit i) σ F
 | .region _ ops false,_,K,σ,F=>sxL P n ops (K .normal) ops.toList σ F
 | .region _ ops true,_,K,σ,F=>okN (P.follows .mixedOrders) (sxD P n ops (K .normal) (3*ops.size+1) ops.size (Array.replicate ops.size false) [] σ F)
 | .seq a b,h,K,σ,F=>(match h.jn with
  |none=>sx P n a h.fst (onN (sx P n b h.snd K) K) σ F
  |some (false,l)=>sx P n a h.fst (onN (fun σ' F=>jap σ' l (jbd (sx P n b h.snd K) l (σ.hav (ic a))) F) K) σ F
  |some (true,l)=>∃J:Tl l,Ji l J (jbd (sx P n b h.snd K) l (σ.hav (ic a)))∧sx P n a h.fst (onN (fun σ' F=>jap σ' l J F) K) σ F)
 | .cond c a b,h,K,σ,F=>(match σ.ov c with
  | .lit true=>sx P n a h.fst K σ F
  | .lit false=>sx P n b h.snd K σ F
  | .bool _ t=>(t=true→sx P n a h.fst K σ F)∧(t=false→sx P n b h.snd K σ F)
  | .prp _ p _=>(p→sx P n a h.fst K σ F)∧(¬p→sx P n b h.snd K σ F)
  |_=>False)
 | .block id c,h,K,σ,F=>sx P n c h (onX id K) σ F
 | .loop c,h,K,σ,F=>∃(I:Nat→Tl h.lv) (m:Nat),jap σ h.lv (I m) F∧∀m,Jh (sx P n c h.fst (onN (fun σ' F=>jap σ' h.lv (jdn h.lv I m) F) K)) h.lv (I m) (σ.hav (ic c))
 |_,_,_,_,_=>False
def oX (P:Program) (σ:Sy):List ResultVar→PH→(List Value→Prop)→Prop
 |[],_,K=>K []
 | .tmp t::l,F,K=>match (σ.vw t).val with|some v=>oX P σ l F (fun vs=>K (v::vs))|none=>False
 | .cell x t::l,F,K=>match σ.vw x with
  | .ad a=>(match P.underlying t with
   |none=>False
   |some d=>match kdD d with
    | .agg=>(match tsz P t with|some (n,_)=>∃v:Array Value,v.size=n∧F.row a v∧oX P σ l F (fun vs=>K (.agg v::vs))|none=>False)
    |k=>∃x:k.T,F.cell a=some (k.v x)∧oX P σ l F (fun vs=>K (k.v x::vs)))
  |_=>False
def LO:List Value→Value
 |[v]=>v
 |vs=> .tuple vs.toArray
def LP (P:Program) (fn:Func) (R:Value→PH→Prop):CK
 | .normal,σ,F| .ret,σ,F=>okN (Nat.ble fn.results.size 4) (oX P σ fn.results.toList F fun vs=>R (LO vs) F)
 |_,_,_=>False
def xV (P:Program):Nat→List TypeId→List Value→Sy→Sy
 |_,_,[],σ=>σ
 |i,[],v::vs,σ=>xV P (i+1) [] vs (σ.put i (ofk .ptr v))
 |i,t::ts,v::vs,σ=>xV P (i+1) ts vs (σ.put i (ofk (kd P t) v))
def sxF (P:Program) (k:Nat) (h:gL) (args:List Value) (R:Value→PH→Prop) (F:PH):Prop:=
 match P.funcs[k]? with
 |none=>False
 |some fn=>match fn.body with
  |none=>False
  |some c=>okN (Nat.ble args.length fn.ntmps) (sx P fn.ntmps c h (LP P fn R) (xV P 0 fn.params.toList args ⟨fun _=> .unk,fun _=>none,0⟩) F)
end Rx
end Go.Proofs.YtenpmjhnhepfdaaGreatDoor
