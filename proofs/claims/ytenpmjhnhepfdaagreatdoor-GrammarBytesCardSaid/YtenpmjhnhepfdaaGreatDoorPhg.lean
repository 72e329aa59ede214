/-
  A program logic over partial heaps. Part 7: what parts of a heap hold; slices that read as lists; make, append, copy.
-/
import Derived.Test.YtenpmjhnhepfdaaGreatDoorPhd
import Derived.Laws.Append
namespace Go.Proofs.YtenpmjhnhepfdaaGreatDoor
open Go
section
variable {P:Program} {F:PH} {E:En} {o:Oper} {K:En→PH→Prop}
def j0 (P:Program) (fs:Array Field):Array (Nat×Nat):=fs.map fun f=>(f.offset,P.cellsOf f.type)
def hD (P:Program) (fs:Array Field):Bool:=fs.all fun f=>(P.info? f.type).isSome
theorem uw {t:Nat} (h:(P.info? t).isSome=true):rdo P (sizeOf t) F (P.cellsOf t):=by
 cases hi:P.info? t with
 |none=>simp [hi] at h
 |some i=>
  have:tsz P t=some (i.size,i.bytes):=by simp [tsz,hi]
  rw [bB this]
  simp [Program.cellsOf,hi]
theorem jd {α β:Type} (f:α→Sem β) (g:α→β):∀(l:List α),(∀x∈l,rdo P (f x) F (g x))→rdo P (l.mapM f) F (l.map g)
 |[],_=>by simp
 |x::l,h=>by
  have h1:=h x (List.mem_cons_self ..)
  have h2:=jd f g l fun y hy=>h y (List.mem_cons_of_mem _ hy)
  simp only [List.mapM_cons,ai,List.map_cons]
  exact ⟨_,h1,_,h2,rfl⟩
theorem vW {fs:Array Field} (h:hD P fs=true):rdo P (fs.mapM fun f=>do pure (f.offset,← sizeOf f.type)) F (j0 P fs):=by
 have hall:∀f∈fs.toList,(P.info? f.type).isSome=true:=by
  intro f hf
  have:=Array.all_eq_true_iff_forall_mem.1 h f (by simpa using hf)
  exact this
 rw [Array.mapM_eq_mapM_toList]
 have:=jd (P:=P) (F:=F) (fun f:Field=>(do pure (f.offset,← sizeOf f.type):Sem (Nat×Nat))) (fun f=>(f.offset,P.cellsOf f.type)) fs.toList
  (fun f hf=>by simp only [ai];exact ⟨_,uw (hall f hf),rfl⟩)
 refine (Eu _ _ _ _).2 ⟨_,this,?_⟩
 apply Array.ext'
 simp [j0]
theorem qn {t:Nat} {parts:Array (Nat×Operand)} {fs:Array Field} {z:Value} {vs:List (Nat×Value)} {cells:Array Value} (ho:o.op=.build t parts) (h1:P.underlying t=some (.struct fs)) (hz:bu P t=some z)
  (hk:hD P fs=true) (hv:(parts.map fun (i,x)=>(i,ev E x)).toList=vs) (hf:Instr.fill (fun i=>(j0 P fs)[i]?) z.cells vs=some cells):RD P E F o (.agg cells):=by
 simp only [RD,execOp,ho,ai,Instr.build,bV]
 refine ⟨_,⟨_,(fD hz _).2 rfl,_,(av h1 _).2 rfl,?_⟩,rfl⟩
 simp only [ai]
 refine ⟨_,by have:=vW (P:=P) (F:=F) hk;simpa [ai] using this,?_⟩
 rw [hv,hf]
 rfl
theorem sD {t n e' s b:Nat} {parts:Array (Nat×Operand)} {z:Value} {vs:List (Nat×Value)} {cells:Array Value} (ho:o.op=.build t parts) (h1:P.underlying t=some (.array n e')) (hz:bu P t=some z)
  (h2:tsz P e'=some (s,b)) (hv:(parts.map fun (i,x)=>(i,ev E x)).toList=vs) (hf:Instr.fill (fun i=>some (i*s,s)) z.cells vs=some cells):RD P E F o (.agg cells):=by
 simp only [RD,execOp,ho,ai,Instr.build,bV]
 refine ⟨_,⟨_,(fD hz _).2 rfl,_,(av h1 _).2 rfl,?_⟩,rfl⟩
 simp only [ai,bB h2,exists_eq_left']
 rw [hv,hf]
 rfl
theorem Ep {t:Nat} {z:Value} (ho:o.op=.alloc t) (hz:bu P t=some z) (h:∀b,F b=none→K (cv E o.dst (.pointer (some ⟨b,0,none⟩))) (F.set b (.cells z.cells t))):
  aE P (execOp (ev E) o) F (bz P K o E):=by
 simp only [execOp,ho,Instr.alloc,aB,cO hz,aM,bz,newVar,newRow,newObj]
 exact h
theorem BN {t:Nat} {x:Operand} {v:Value} (ho:o.op=.box t x) (hx:ev E x=v) (h:∀b,F b=none→K (cv E o.dst (.pointer (some ⟨b,0,none⟩))) (F.set b (.cells v.cells t))):
  aE P (execOp (ev E) o) F (bz P K o E):=by
 simp only [execOp,ho,Instr.box,aB,aM,bz,newVar,newRow,newObj,hx]
 exact h
theorem gn {t e' s b n:Nat} {parts:Array (Nat×Operand)} {z:Value} {vs:List (Nat×Value)} {cells:Array Value} (ho:o.op=.buildSlice t n parts) (h1:P.underlying t=some (.slice e')) (h2:tsz P e'=some (s,b))
  (hn:n*s≤16777216) (hz:bu P e'=some z) (hv:(parts.map fun (i,x)=>(i,ev E x)).toList=vs) (hf:Instr.fill (fun i=>some (i*s,s)) (Builtin.zeroCells z.cells n) vs=some cells) (hs:n*s=n*z.cells.size)
  (h:∀b,F b=none→K (cv E o.dst (.slice (some ⟨b,0,none⟩) n n)) (F.set b (.cells cells e'))):
  aE P (execOp (ev E) o) F (bz P K o E):=by
 simp only [execOp,ho,Instr.buildSlice,aB,bG h1,dw h2]
 rw [if_neg (by omega)]
 by_cases h0:n*s=0
 ·have hzz:(Array.range (n*s)).map (fun i=>(#[]:Array Value)[i % (#[]:Array Value).size]!)=Builtin.zeroCells z.cells n:=by simp [Builtin.zeroCells,h0,← hs]
  rw [if_pos h0]
  simp only [aB,aM]
  rw [hzz,hv,hf]
  simp only [aB,aM,newRow,newObj,bz]
  exact h
 ·have hzz:(Array.range (n*s)).map (fun i=>z.cells[i % z.cells.size]!)=Builtin.zeroCells z.cells n:=by simp [Builtin.zeroCells,hs]
  rw [if_neg h0]
  simp only [aB,cO hz,aM]
  rw [hzz,hv,hf]
  simp only [aB,aM,newRow,newObj,bz]
  exact h
def wr (c:Array Value) (off:Nat):List Value→Array Value
 |[]=>c
 |v::vs=>wr (c.setIfInBounds off v) (off+1) vs
theorem dh (vs:List Value):∀(c:Array Value) (off:Nat),(wr c off vs).size=c.size:=by
 induction vs with
 |nil=>intro c off;rfl
 |cons v vs ih=>intro c off;simp [wr,ih]
theorem sE (vs:List Value):∀(c:Array Value) (off i:Nat),off+vs.length≤c.size→(wr c off vs)[i]? =if off≤i∧i<off+vs.length then vs[i - off]? else c[i]? :=by
 induction vs with
 |nil=>intro c off i _;simp [wr];omega
 |cons v vs ih=>
  intro c off i h
  simp only [List.length_cons] at h
  rw [wr,ih _ _ _ (by simp;omega),Array.getElem?_setIfInBounds]
  by_cases h1:off=i
  ·subst h1
   rw [if_neg (by omega),if_pos rfl,if_pos (by omega),if_pos (by simp)]
   simp
  ·by_cases h2:off+1≤i∧i<off+1+vs.length
   ·rw [if_pos h2,if_pos (by simp;omega)]
    rw [show i - off=(i - (off+1))+1 by omega,List.getElem?_cons_succ]
   ·rw [if_neg h2,if_neg h1,if_neg (by simp;omega)]
theorem xM (F:PH) (b:Nat) (o o':Obj):(F.set b o).set b o'=F.set b o':=by
 funext x
 unfold PH.set
 split<;>rfl
theorem Er (F:PH) (b:Nat) (o:Obj):(F.set b o) b=some o:=by simp [PH.set]
theorem vX (F:PH) {b x:Nat} (o:Obj) (h:x≠b):(F.set b o) x=F x:=by simp [PH.set,h]
theorem di {e':TypeId}:∀(vs:List Value) (i:Nat) (F:PH) (a:Addr) (c:Array Value) (Q:Unit→PH→Prop),a.spot=none→F a.block=some (.cells c e' (0,0))→a.off+i+vs.length≤c.size→
  (∀v∈vs,aj v)→vs≠[]→Q () (F.set a.block (.cells (wr c (a.off+i) vs) e'))→aE P (storeCells a vs i) F Q:=by
 intro vs
 induction vs with
 |nil=>intro i F a c Q _ _ _ _ h;exact absurd rfl h
 |cons v vs ih=>
  intro i F a c Q hsp hb hl hst _ hq
  simp only [List.length_cons] at hl
  have hoff:(a.add i).off=a.off+i:=by unfold Addr.add;split<;>simp_all
  have hblk:(a.add i).block=a.block:=by unfold Addr.add;split<;>rfl
  have hspo:(a.add i).spot=none:=by unfold Addr.add;split<;>simp_all
  simp only [storeCells,aB,store,aE]
  refine ⟨hst v (List.mem_cons_self ..),c,e',(0,0),by rw [hblk];exact hb,hspo,by rw [hoff];omega,by simp [frz],?_⟩
  rw [hblk,hoff]
  cases vs with
  |nil=>exact hq
  |cons u us=>
   refine ih (i+1) _ a (c.setIfInBounds (a.off+i) v) Q hsp (Er _ _ _) (by simp;simp at hl;omega) (fun x hx=>hst x (List.mem_cons_of_mem _ hx)) (by simp) ?_
   rw [xM]
   exact hq
theorem BO {t:Nat} {x y:Operand} {a:Addr} {v:Value} {c:Array Value} {e' s b:Nat} (ho:o.op=.store t x y) (hx:ev E x=.pointer (some a)) (hy:ev E y=v) (hsz:tsz P t=some (s,b)) (h1:v.cells= #[v]) (hs:s=1) (hst:aj v)
  (hsp:a.spot=none) (hb:F a.block=some (.cells c e' (0,0))) (hl:a.off<c.size) (h:K (cv E o.dst undef) (F.set a.block (.cells (c.setIfInBounds a.off v) e'))):
  aE P (execOp (ev E) o) F (bz P K o E):=by
 subst hs
 simp only [execOp,ho,hx,hy,Instr.storeAt,Instr.sureAddr,aB,aM,storeVar,dw hsz,h1]
 simp only [List.size_toArray,List.length_cons,List.length_nil,ne_eq,Nat.zero_add,not_true_eq_false,if_false]
 refine di [v] 0 F a c _ hsp hb (by simp;omega) (by simpa using hst) (by simp) ?_
 exact h
theorem BP {t:Nat} {x y:Operand} {a:Addr} {vs c:Array Value} {e' s b:Nat} (ho:o.op=.store t x y) (hx:ev E x=.pointer (some a)) (hy:ev E y=.agg vs) (hsz:tsz P t=some (s,b)) (hs:vs.size=s) (hst:∀v∈vs.toList,aj v)
  (h0:vs.toList≠[]) (hsp:a.spot=none) (hb:F a.block=some (.cells c e' (0,0))) (hl:a.off+s≤c.size) (h:K (cv E o.dst undef) (F.set a.block (.cells (wr c a.off vs.toList) e'))):
  aE P (execOp (ev E) o) F (bz P K o E):=by
 subst hs
 simp only [execOp,ho,hx,hy,Instr.storeAt,Instr.sureAddr,aB,aM,storeVar,dw hsz,Value.cells]
 simp only [ne_eq,not_true_eq_false,if_false]
 exact di vs.toList 0 F a c _ hsp hb (by simpa using hl) hst h0 h
def au (P:Program) (f:FuncId):Bool:=match P.funcs[f]? with|some fn=> !(fn.name== "runtime.NumGoroutine") && fn.body.isSome|none=>false
theorem je {f:FuncId} {args:Array Value} {Q:Next→PH→Prop} (hc:au P f=true) (h:Q (.enter f args) F):aE P (callFunc f args) F Q:=by
 unfold au at hc
 cases hf:P.funcs[f]? with
 |none=>simp [hf] at hc
 |some fn=>
  simp only [hf,Bool.and_eq_true,Bool.not_eq_true'] at hc
  simp only [callFunc,aB,program,aE,hf,hc.1]
  have:fn.body.isNone=false:=by cases hb:fn.body<;>simp_all
  simp only [this,Bool.false_eq_true,if_false,aM]
  exact h
theorem IF {f:FuncId} {args:Array Operand} {ts:Array TypeId} {vs:Array Value} (ho:o.op=.call {callee:=.value (.func f),args:=args,argTypes:=ts}) (hc:au P f=true) (hv:args.map (ev E)=vs)
  (h:ac P f vs F fun v F'=>K (cv E o.dst v) F'):aE P (execOp (ev E) o) F (bz P K o E):=by
 simp only [execOp,ho,resolve,ev,Deferred.ofValue,aB,aM,invoke]
 refine je hc ?_
 rw [show args.map (fun x=>ev E x)=vs from hv]
 simpa [bz] using h
theorem xN {f:FuncId} {g:Operand} {args:Array Operand} {ts:Array TypeId} {vs first captured:Array Value} (ho:o.op=.call {callee:=.value g,args:=args,argTypes:=ts}) (hg:ev E g=.func (.func f) first captured) (hc:au P f=true) (hv:args.map (ev E)=vs)
  (h:ac P f (first++vs++captured) F fun v F'=>K (cv E o.dst v) F'):aE P (execOp (ev E) o) F (bz P K o E):=by
 simp only [execOp,ho,resolve,hg,Deferred.ofValue,aB,aM,invoke]
 refine je hc ?_
 rw [show args.map (fun x=>ev E x)=vs from hv]
 exact h
theorem BQ {x y:Operand} {ts:Array TypeId} {s u:Value} (ho:o.op=.call {callee:=.builtin .append,args:= #[x,y],argTypes:=ts}) (hx:ev E x=s) (hy:ev E y=u)
  (h:aE P (Builtin.append_ ts o.type #[s,u]) F fun v F'=>K (cv E o.dst v) F'):aE P (execOp (ev E) o) F (bz P K o E):=by
 simp [execOp,ho,resolve,hx,hy,aB,invoke,builtin,bz]
 exact h
theorem IG {x y:Operand} {ts:Array TypeId} {s u:Value} (ho:o.op=.call {callee:=.builtin .copy,args:= #[x,y],argTypes:=ts}) (hx:ev E x=s) (hy:ev E y=u)
  (h:aE P (Builtin.copy_ ts o.type #[s,u]) F fun v F'=>K (cv E o.dst v) F'):aE P (execOp (ev E) o) F (bz P K o E):=by
 simp [execOp,ho,resolve,hx,hy,aB,invoke,builtin,bz]
 exact h
theorem ux {t:TypeId} {x y:Operand} {u v:Value} (ho:o.op=.makeSlice t x y) (hx:ev E x=u) (hy:ev E y=v)
  (h:aE P (Instr.makeSlice t u v) F fun v F'=>K (cv E o.dst v) F'):aE P (execOp (ev E) o) F (bz P K o E):=by
 simp [execOp,ho,hx,hy,aB,bz]
 exact h
theorem vY {t:TypeId} (ho:o.op=.makeMap t none) (h:∀b,F b=none→K (cv E o.dst (.map (some b))) (F.set b (.map #[] 0))):
  aE P (execOp (ev E) o) F (bz P K o E):=by
 simp only [execOp,ho,Instr.makeMap,Option.map_none,newObj,aB,aM,aE,bz]
 exact h
theorem mo {t:TypeId} {x y z:Operand} {u v q:Value} (ho:o.op=.mapUpdate t x y z) (hx:ev E x=u) (hy:ev E y=v) (hz:ev E z=q)
  (h:aE P (Instr.mapUpdate t u v q) F fun _ F'=>K (cv E o.dst undef) F'):aE P (execOp (ev E) o) F (bz P K o E):=by
 simp only [execOp,ho,hx,hy,hz,aB,aM,bz]
 exact h
theorem uy {t:TypeId} {x y:Operand} {u v r:Value} {ok:Bool} (ho:o.op=.lookup t x y ok) (hx:ev E x=u) (hy:ev E y=v) (h:rdo P (Instr.lookup t u v ok) F r):RD P E F o r:=by
 simp only [RD,execOp,ho,hx,hy,ai,bV]
 exact ⟨r,h,rfl⟩
variable {n:Nat} {Q:Exit→En→PH→Prop} {ops:Array Oper} {l:List Oper}
end
def atF (F:PH) (K:PH→Prop):Prop:=K F
theorem atE {F:PH} {K:PH→Prop} (h:atF F K):K F:=h
theorem atI {F:PH} {K:PH→Prop} (h:K F):atF F K:=h
section
variable {P:Program} {n:Nat} {Q:Exit→En→PH→Prop} {E:En} {F:PH} {ops:Array Oper} {l:List Oper} {d:Tmp} {op:Op} {ty:TypeId} {pos:String} {aft:Array Edge} {v:Value} {gd:Option (Nat×Bool)}
theorem uz {t:Nat} (h:E t=v):upd E t v=E:=by
 funext x
 unfold upd
 by_cases hx:x=t
 ·subst hx
  have:Nat.beq x x=true:=by simp
  rw [this]
  exact h.symm
 ·rw [ju hx];rfl
theorem BR {c:Operand} {x y:Code} (hc:ev E c=.bool true) (h:HC P n x Q E F):HC P n (.cond c x y) Q E F:=mS hc (fun _=>h) (fun h=>by cases h)
theorem BS {c:Operand} {x y:Code} (hc:ev E c=.bool false) (h:HC P n y Q E F):HC P n (.cond c x y) Q E F:=mS hc (fun h=>by cases h) (fun _=>h)
section
variable {K:En→PH→Prop}
theorem FX {place:Nat→Option (Nat×Nat)} {cells r:Array Value} {i off:Nat} {v:Value} {rest:List (Nat×Value)} (hp:place i=some (off,1)) (hv:v.cells= #[v]) (ho:Nat.blt off cells.size=true)
  (h:Instr.fill place (cells.setIfInBounds off v) rest=some r):Instr.fill place cells ((i,v)::rest)=some r:=by
 have ho':off<cells.size:=Nat.le_of_ble_eq_true ho
 simp only [Instr.fill,hp,hv]
 simp only [List.size_toArray,List.length_cons,List.length_nil]
 rw [if_neg (by simp;omega)]
 simpa using h
theorem BT (vs:List Value):∀(c:Array Value) (off k:Nat),(vs.zipIdx k).foldl (fun cs (x:Value×Nat)=>cs.setIfInBounds (off+x.2) x.1) c=wr c (off+k) vs:=by
 induction vs with
 |nil=>intro c off k;rfl
 |cons v vs ih=>intro c off k;simp only [List.zipIdx_cons,List.foldl_cons,wr];rw [ih];rfl
theorem FY {place:Nat→Option (Nat×Nat)} {cells cs r:Array Value} {i off s:Nat} {rest:List (Nat×Value)} (hp:place i=some (off,s)) (hs:cs.size=s) (ho:Nat.ble (off+s) cells.size=true)
  (h:Instr.fill place (wr cells off cs.toList) rest=some r):Instr.fill place cells ((i,.agg cs)::rest)=some r:=by
 have ho':off+s≤cells.size:=Nat.le_of_ble_eq_true ho
 subst hs
 have e:cs.zipIdx.foldl (fun cs (x:Value×Nat)=>cs.setIfInBounds (off+x.2) x.1) cells=wr cells off cs.toList:=by
  have:=BT cs.toList cells off 0
  rw [← Array.foldl_toList]
  simpa using this
 unfold Instr.fill
 rw [hp]
 show (if (decide (cs.size≠cs.size) || decide (off+cs.size>cells.size))=true then none else Instr.fill place (cs.zipIdx.foldl (fun cs (x:Value×Nat)=>cs.setIfInBounds (off+x.2) x.1) cells) rest)=some r
 rw [e,if_neg (by simp;omega)]
 exact h
theorem mO (z:Array Value) (hz:Nat.blt 0 z.size=true):∀n,Builtin.zeroCells z n=((List.replicate n z.toList).flatten).toArray:=by
 have hz':0<z.size:=Nat.le_of_ble_eq_true hz
 intro n
 apply Array.ext'
 apply List.ext_getElem
 ·simp [Builtin.zeroCells,List.length_flatten]
 ·intro i h1 h2
  simp only [Builtin.zeroCells,Array.toList_map,Array.toList_range,List.getElem_map,List.getElem_range]
  have key:∀n i (h:i<((List.replicate n z.toList).flatten).length),((List.replicate n z.toList).flatten)[i]=z[i % z.size]! :=by
   intro n
   induction n with
   |zero=>intro i h;simp at h
   |succ n ih=>
    intro i h
    have e:(List.replicate (n+1) z.toList).flatten=z.toList++(List.replicate n z.toList).flatten:=by simp [List.replicate_succ]
    by_cases hi:i<z.size
    ·have:((List.replicate (n+1) z.toList).flatten)[i]=z.toList[i]'(by simpa using hi):=by
      simp only [e]
      rw [List.getElem_append_left]
     rw [this,Nat.mod_eq_of_lt hi]
     simp [hi]
    ·have hl:i - z.size<((List.replicate n z.toList).flatten).length:=by
      simp [List.length_flatten,Nat.add_mul] at h ⊢
      omega
     have:((List.replicate (n+1) z.toList).flatten)[i]=((List.replicate n z.toList).flatten)[i - z.size]:=by
      simp only [e]
      rw [List.getElem_append_right (by simpa using hi)]
      simp
     have hm:i % z.size=(i - z.size) % z.size:=Nat.mod_eq_sub_mod (by omega)
     rw [this,ih _ hl,hm]
  exact (key n i (by simpa using h2)).symm
theorem z7 {z:Value} {cs:Array Value} {s:Nat} (hs:cs.size=s) (hz:z.cells.size=s) (h0:Nat.blt 0 s=true):Instr.fill (fun i=>some (i*s,s)) (Builtin.zeroCells z.cells 1) [(0,.agg cs)]=some cs:=by
 have h1:Nat.blt 0 z.cells.size=true:=by rw [hz];exact h0
 rw [mO _ h1]
 have e:((List.replicate 1 z.cells.toList).flatten).toArray=z.cells:=by simp
 rw [e]
 refine FY (off:=0*s) rfl hs (by rw [hz];simp) ?_
 have hw:wr z.cells 0 cs.toList=cs:=by
  apply Array.ext
  ·rw [dh,hz,hs]
  ·intro i h1 h2
   have:=sE cs.toList z.cells 0 i (by simp [hz,hs])
   rw [if_pos (by simp;omega)] at this
   simp only [Nat.sub_zero] at this
   rw [Array.getElem?_eq_getElem h1] at this
   simp at this
   rw [Array.getElem?_eq_getElem h2] at this
   exact Option.some.inj this
 rw [show 0*s=0 by omega,hw]
 rfl
def Es:List Value→Prop
 |[]=>True
 |v::l=>v.cells= #[v]∧Es l
def xO (k:Nat):List Value→List (Nat×Value)
 |[]=>[]
 |v::l=>(k,v)::xO (k+1) l
theorem z8:∀(l:List Value) (k:Nat) (cells:Array Value),Es l→k+l.length≤cells.size→Instr.fill (fun i=>some (i*1,1)) cells (xO k l)=some (wr cells k l):=by
 intro l
 induction l with
 |nil=>intro k cells _ _;rfl
 |cons v l ih=>
  intro k cells ho hl
  simp only [List.length_cons] at hl
  refine FX (off:=k) (by simp) ho.1 (Nat.ble_eq_true_of_le (by omega)) ?_
  exact ih (k+1) _ ho.2 (by simp;omega)
theorem Et {z:Value} {l:List Value} {m:Nat} {cells0:Array Value} (hm:l.length=m) (h0:Builtin.zeroCells z.cells m=cells0) (hz:z.cells.size=1) (ho:Es l):Instr.fill (fun i=>some (i*1,1)) cells0 (xO 0 l)=some l.toArray:=by
 subst hm
 subst h0
 have hs:(Builtin.zeroCells z.cells l.length).size=l.length:=by simp [Builtin.zeroCells,hz]
 rw [z8 l 0 _ ho (by rw [hs];omega)]
 congr 1
 apply Array.ext
 ·rw [dh,hs];simp
 ·intro i h1 h2
  have:=sE l (Builtin.zeroCells z.cells l.length) 0 i (by rw [hs];omega)
  rw [if_pos (by simp at h2;omega)] at this
  simp only [Nat.sub_zero] at this
  rw [Array.getElem?_eq_getElem h1] at this
  simp at h2
  rw [List.getElem?_eq_getElem h2] at this
  simpa using Option.some.inj this
end
theorem FZ {x:Operand} {k:IntKind} {i:Int} {m:Nat} (hx:ev E x=.int k i) (h:0≤i):cV (Option.map (ev E) (some x)) m i.toNat:=.inr ⟨k,i,by simp [hx],h,rfl⟩
theorem sF {m:Nat}:cV none m m:=.inl ⟨rfl,rfl⟩
theorem Gg:eX [] F:=fun _ h=>by cases h
theorem Gh {i:Nat} {S:World→Prop} {Sp:bO} (h:wl F S) (hh:eX Sp F):eX ((i,S)::Sp) F:=fun r hr=>by
 rcases List.mem_cons.1 hr with rfl|hr
 ·exact h
 ·exact hh r hr
theorem Gi {tmps:Array Value} {t:Nat} {v u:Value} (h:Array.getD tmps t undef=v) (hv:v=u):tmps[t]?.getD undef=u:=by
 rw [← Array.getD_eq_getD_getElem?,h,hv]
theorem BU {t s:Nat} {dd:TypeDesc} {a:Addr} {cs:Array Value} {b:Nat} {e:Ev} {w:World} (st:Sat e w F) (h1:P.underlying t=some dd) (h2:jt dd=true) (h3:tsz P t=some (s,b)) (hs:cs.size=s) (hr:F.row a cs):
  (loadVar t a).run P w=.ok (.agg cs) w:=by
 subst hs
 refine mP _ F w _ ?_ st
 simp [loadVar,ai,cU h1,h2,bB h3,dc hr]
theorem Aa {t:TypeId} {dd:TypeDesc} {a:Addr} {e:Ev} {w:World} (st:Sat e w F) (h1:P.underlying t=some dd) (h2:jt dd=false) (hr:F.cell a=some v):
  (loadVar t a).run P w=.ok v w:=by
 refine mP _ F w _ ?_ st
 simp [loadVar,ai,cU h1,h2,load,rdo,hr]
def jr (P:Program) (E:En) (F:PH):ResultVar→Value→Prop
 | .tmp t,v=>E t=v
 | .cell x t,v=>∃a,E x=.pointer (some a)∧∀e w,Sat e w F→(loadVar t a).run P w=.ok v w
theorem sG {t:Tmp} {v:Value} (hv:E t=v):jr P E F (.tmp t) v:=hv
theorem BV {x:Tmp} {t s:Nat} {dd:TypeDesc} {a:Addr} {cs:Array Value} {b:Nat} (hx:E x=.pointer (some a)) (h1:P.underlying t=some dd) (h2:jt dd=true) (h3:tsz P t=some (s,b)) (hs:cs.size=s) (hr:F.row a cs):
  jr P E F (.cell x t) (.agg cs):=⟨a,hx,fun _ _ st=>BU st h1 h2 h3 hs hr⟩
theorem BW {x:Tmp} {t:Nat} {dd:TypeDesc} {a:Addr} {v:Value} (hx:E x=.pointer (some a)) (h1:P.underlying t=some dd) (h2:jt dd=false) (hr:F.cell a=some v):
  jr P E F (.cell x t) v:=⟨a,hx,fun _ _ st=>Aa st h1 h2 hr⟩
theorem fC {r:ResultVar} {v:Value} (h:jr P E F r v) {e:Ev} {w:World} {tmps:Array Value} (st:Sat e w F) (ht:∀t:Nat,Array.getD tmps t undef=E t):
  (∃t,r=.tmp t∧tmps[t]?.getD undef=v)∨∃x t a,r=.cell x t∧tmps[x]?.getD undef=.pointer (some a)∧(loadVar t a).run P w=.ok v w:=by
 cases r with
 |tmp t=>exact .inl ⟨t,rfl,Gi (ht t) h⟩
 |cell x t=>
  obtain ⟨a,h1,h2⟩:=h
  exact .inr ⟨x,t,a,rfl,Gi (ht x) h1,h2 e w st⟩
theorem PC {fn:Func} (h:fn.results= #[]):oQ P fn E F (.tuple #[]):=fun e w tmps _ _=>by simp [results,h]
theorem Le {fn:Func} {r:ResultVar} {v:Value} (h:fn.results= #[r]) (hv:jr P E F r v):oQ P fn E F v:=fun e w tmps st ht=>by
 have k:=fC hv st ht
 clear ht hv
 rcases k with ⟨t,rfl,h1⟩|⟨x,t,a,rfl,h1,h2⟩<;>simp [results,asAddr, *]
theorem Lf {fn:Func} {r r':ResultVar} {v v':Value} (h:fn.results= #[r,r']) (hv:jr P E F r v) (hv':jr P E F r' v'):oQ P fn E F (.tuple #[v,v']):=fun e w tmps st ht=>by
 have k:=fC hv st ht
 have k':=fC hv' st ht
 clear ht hv hv'
 rcases k with ⟨t,rfl,h1⟩|⟨x,t,a,rfl,h1,h2⟩<;>rcases k' with ⟨t',rfl,h3⟩|⟨x',t',a',rfl,h3,h4⟩<;>simp [results,asAddr, *]
theorem PD {fn:Func} {r r' r'':ResultVar} {v v' v'':Value} (h:fn.results= #[r,r',r'']) (hv:jr P E F r v) (hv':jr P E F r' v') (hv'':jr P E F r'' v''):oQ P fn E F (.tuple #[v,v',v'']):=fun e w tmps st ht=>by
 have k:=fC hv st ht
 have k':=fC hv' st ht
 have k'':=fC hv'' st ht
 clear ht hv hv' hv''
 rcases k with ⟨t,rfl,h1⟩|⟨x,t,a,rfl,h1,h2⟩<;>rcases k' with ⟨t',rfl,h3⟩|⟨x',t',a',rfl,h3,h4⟩<;>rcases k'' with ⟨t'',rfl,h5⟩|⟨x'',t'',a'',rfl,h5,h6⟩<;>simp [results,asAddr, *]
theorem rt1 (fn:Func) (R:Value→PH→Prop) {t:Tmp} {v:Value} (h1:fn.results= #[.tmp t]) (h2:E t=v) (h:R v F):EE P fn R .ret E F:=⟨v,Le h1 (sG h2),h⟩
theorem rt2 (fn:Func) (R:Value→PH→Prop) {t t':Tmp} {v v':Value} (h1:fn.results= #[.tmp t,.tmp t']) (h2:E t=v) (h3:E t'=v') (h:R (.tuple #[v,v']) F):EE P fn R .ret E F:=⟨_,Lf h1 (sG h2) (sG h3),h⟩
theorem js {k:IntKind} {x:Int}:aj (.int k x):=⟨(fun _ h=>by cases h),(fun _ h=>by cases h)⟩
theorem BX {x:Sl}:aj x.v:=⟨(fun _ h=>by cases h),(fun _ h=>by cases h)⟩
end
theorem le_refl' (F:PH):F.le F:=fun _ _ h=>h
theorem aa {F G H:PH} (h:F.le G) (k:G.le H):F.le H:=fun b o hb=>k b o (h b o hb)
theorem ae {F:PH} {b:Nat} (o:Obj) (h:F b=none):F.le (F.set b o):=fun x o' hx=>by
 unfold PH.set
 by_cases hb:x=b
 ·subst hb;rw [h] at hx;cases hx
 ·simp [hb,hx]
theorem aq {F G:PH} (h:F.le G) {a:Addr} {v:Value} (hc:F.cell a=some v):G.cell a=some v:=by
 unfold PH.cell at*
 cases hb:F a.block with
 |none=>simp [hb] at hc
 |some o=>rw [h _ _ hb];rw [hb] at hc;exact hc
theorem aU {F G:PH} (h:F.le G) {b:Nat} (hb:G b=none):F b=none:=by
 cases hf:F b with
 |none=>rfl
 |some o=>rw [h _ _ hf] at hb;cases hb
theorem aG {F:PH} {b c:Nat} {o:Obj} (hb:F b=none) (hc:F c=some o):c≠b:=by
 intro e;subst e;rw [hb] at hc;cases hc
@[simp] theorem aD (b o i:Nat):Addr.add ⟨b,o,none⟩ i=⟨b,o+i,none⟩:=by
 unfold Addr.add;split<;>simp_all
@[simp] theorem an (F:PH) (b:Nat) (o:Obj):(F.set b o) b=some o:=by simp [PH.set]
theorem az (F:PH) {b x:Nat} (o:Obj) (h:x≠b):(F.set b o) x=F x:=by simp [PH.set,h]
@[simp] theorem ba (F:PH) (b:Nat) (o o':Obj):(F.set b o).set b o'=F.set b o':=xM F b o o'
theorem am {F:PH} {b i:Nat} {c:Array Value} {e:TypeId} {fr:Nat×Nat} (h:F b=some (.cells c e fr)):F.cell ⟨b,i,none⟩=c[i]? :=by simp [PH.cell,h]
@[simp] theorem Gj (F:PH) (b i:Nat) (c:Array Value) (e:TypeId) (fr:Nat×Nat):(F.set b (.cells c e fr)).cell ⟨b,i,none⟩=c[i]? :=by simp [PH.cell]
def bU (fp:Nat→Prop) (F G:PH):Prop:=∀b o,F b=some o→¬fp b→G b=some o
theorem bU.refl (fp:Nat→Prop) (F:PH):bU fp F F:=fun _ _ h _=>h
theorem bU.trans {fp:Nat→Prop} {F G H:PH} (h:bU fp F G) (k:bU fp G H):bU fp F H:=fun b o hb hn=>k b o (h b o hb hn) hn
theorem bU.of_le {fp:Nat→Prop} {F G:PH} (h:F.le G):bU fp F G:=fun b o hb _=>h b o hb
theorem bU.mono {fp fq:Nat→Prop} {F G:PH} (h:bU fp F G) (hs:∀b,fp b→fq b):bU fq F G:=fun b o hb hn=>h b o hb (fun hf=>hn (hs b hf))
theorem bU.set {fp:Nat→Prop} {F:PH} {b:Nat} (o:Obj) (h:fp b∨F b=none):bU fp F (F.set b o):=fun x o' hx hn=>by
 by_cases hb:x=b
 ·subst hb
  rcases h with h|h
  ·exact absurd h hn
  ·rw [h] at hx;cases hx
 ·rw [az F o hb];exact hx
structure RdS (F:PH) (s:Sl) (size:Nat) (vs:List Value):Prop where
 len:vs.length=s.len*size
 cap:s.len≤s.cap
 cells:0<s.len→∃b o,s.base=some ⟨b,o,none⟩∧∀i,(h:i<vs.length)→F.cell ⟨b,o+i,none⟩=some vs[i]
theorem RdS.le {F G:PH} {s:Sl} {size:Nat} {vs:List Value} (h:RdS F s size vs) (hl:F.le G):RdS G s size vs:=
 ⟨h.len,h.cap,fun hp=>by
  obtain ⟨b,o,h1,h2⟩:=h.cells hp
  exact ⟨b,o,h1,fun i hi=>aq hl (h2 i hi)⟩⟩
theorem RdS.nil (F:PH) (size:Nat):RdS F Sl.nil size []:=⟨by simp [Sl.nil],by simp [Sl.nil],by simp [Sl.nil]⟩
theorem RdS.new {F:PH} {b n cap size:Nat} {c:Array Value} {e:TypeId} {fr:Nat×Nat} {vs:List Value} (h:F b=some (.cells c e fr)) (hv:c.toList.take (n*size)=vs) (hl:vs.length=n*size) (hc:n≤cap):
  RdS F ⟨some ⟨b,0,none⟩,n,cap⟩ size vs:=⟨hl,hc,fun _=>⟨b,0,rfl,fun i hi=>by
   rw [am h]
   subst hv
   simp at hi ⊢⟩⟩
theorem RdS.row {F:PH} {s:Sl} {size:Nat} {vs:List Value} (h:RdS F s size vs) {a:Addr} (ha:s.base=some a) (k:Nat) (cs:Array Value) (hk:cs.toList=(vs.drop k).take cs.size):F.row (a.add k) cs:=by
 intro i hi
 have hlen:k+i<vs.length:=by
  have:=congrArg List.length hk
  rw [List.length_take,List.length_drop,Array.length_toList] at this
  omega
 have hp:0<s.len:=by
  rcases Nat.eq_zero_or_pos s.len with h0|h0
  ·have:=h.len;rw [h0,Nat.zero_mul] at this;omega
  ·exact h0
 obtain ⟨b,o,h1,h2⟩:=h.cells hp
 rw [ha] at h1
 cases h1
 simp only [aD]
 rw [Nat.add_assoc,h2 (k+i) hlen]
 have e1:cs.toList[i]? =some cs[i]:=by simp [hi]
 rw [hk,List.getElem?_take_of_lt hi,List.getElem?_drop,List.getElem?_eq_getElem hlen] at e1
 exact e1
theorem RdS.cell {F:PH} {s:Sl} {vs:List Value} (h:RdS F s 1 vs) {a:Addr} (ha:s.base=some a) {i:Nat} (hi:i<vs.length):F.cell (a.add i)=some vs[i]:=by
 have hp:0<s.len:=by have:=h.len;omega
 obtain ⟨b,o,h1,h2⟩:=h.cells hp
 rw [ha] at h1
 cases h1
 simp only [aD]
 exact h2 i hi
theorem RdS.cut {F:PH} {s:Sl} {size:Nat} {vs:List Value} (h:RdS F s size vs) {l r m:Nat} (h1:l≤r) (h2:r≤s.len) (h3:r≤m):RdS F (s.cut size l r m) size ((vs.drop (l*size)).take ((r - l)*size)):=by
 have hle:(r - l)*size≤s.len*size - l*size:=by rw [← Nat.sub_mul];exact Nat.mul_le_mul_right _ (by omega)
 refine ⟨by rw [List.length_take,List.length_drop,h.len];simp only [Sl.cut];omega,by simp only [Sl.cut];omega,fun hp=> ?_⟩
 simp only [Sl.cut] at hp ⊢
 obtain ⟨b,o,h4,h5⟩:=h.cells (by omega)
 have hm:¬m=l:=by omega
 refine ⟨b,o+l*size,by simp [hm,h4],fun i hi=> ?_⟩
 simp only [List.length_take,List.length_drop] at hi
 rw [Nat.add_assoc,h5 (l*size+i) (by omega)]
 simp [List.getElem_take,List.getElem_drop]
theorem gp {P:Program} {n:Nat} {F:PH} {Q:Unit→PH→Prop} (h:Q () F):aE P (askRoom n) F Q:=by
 unfold askRoom
 split
 ·exact h
 ·exact h
theorem cN {P:Program} {t e size bytes:Nat} {z:Value} {n c:Int} {k k':IntKind} {F:PH} {Q:Value→PH→Prop} (ht:P.underlying t=some (.slice e)) (hs:tsz P e=some (size,bytes)) (hz:bu P e=some z) (hzs:z.cells.size=size)
  (h0:0≤n) (hnc:n≤c) (hc:(bytes:Int)*c≤281474976710656) (hc63:c≤9223372036854775807)
  (h:∀b,F b=none→Q (Sl.v ⟨some ⟨b,0,none⟩,n.toNat,c.toNat⟩) (F.set b (.cells (Builtin.zeroCells z.cells c.toNat) e))):
  aE P (Instr.makeSlice t (.int k n) (.int k' c)) F Q:=by
 obtain ⟨i,hi,hti⟩:=cY hs
 have e1:IntKind.i64.wrap n=n:=aK (by omega) (by omega)
 have e2:IntKind.i64.wrap c=c:=aK (by omega) (by omega)
 simp only [Instr.makeSlice,aB,bG ht,asInt,asIntOf,aM,hti,hi,e1,e2]
 have hc0:0≤c:=by omega
 have g1:decide (c<0)=false:=by simpa using hc0
 have g2:decide ((bytes:Int)*c>2 ^ 48)=false:=by simp;omega
 have g3:decide (n<0)=false:=by simpa using h0
 have g4:decide (n>c)=false:=by simp;omega
 simp only [g1,g2,g3,g4,Bool.or_false,Bool.false_eq_true,if_false,aB]
 refine gp ?_
 simp only [dw hs]
 have fin:∀zz:Array Value,(Array.range (c.toNat*size)).map (fun i=>zz[i % zz.size]!)=Builtin.zeroCells z.cells c.toNat→
   aE P (do let a ← newRow e ((Array.range (c.toNat*size)).map (fun i=>zz[i % zz.size]!));pure (Value.slice (some a) n.toNat c.toNat)) F Q:=by
  intro zz hzz
  rw [hzz]
  simp only [newRow,newObj,aB,aE,aM]
  exact h
 by_cases hn0:c.toNat*size=0
 ·simp only [hn0,if_true,aM]
  have:=fin #[] (by simp [Builtin.zeroCells,hn0,hzs])
  simp only [hn0] at this
  exact this
 ·simp only [if_neg hn0,aB,cO hz,aM]
  exact fin z.cells (by simp [Builtin.zeroCells,hzs])
theorem eC {P:Program} {F:PH} {s:Sl} {size n:Nat} {vs:List Value} {Q:Array Value→PH→Prop} (h:RdS F s size vs) (hn:n≤s.len) (hq:Q (vs.take (n*size)).toArray F):aE P (Builtin.firstCells size n s.v) F Q:=by
 obtain ⟨base,len,cap⟩:=s
 cases base with
 |none=>
  have h0:len=0:=by
   rcases Nat.eq_zero_or_pos len with h0|h0
   ·exact h0
   ·obtain ⟨b,o,h1,_⟩:=h.cells h0;cases h1
  have hn0:n=0:=by simp only at hn;omega
  have:=h.len
  simp only [h0,Nat.zero_mul,List.length_eq_zero_iff] at this
  subst this
  simpa [Sl.v,Builtin.firstCells] using hq
 |some a=>
  simp only [Sl.v,Builtin.firstCells]
  have hlen:(vs.take (n*size)).toArray.size=n*size:=by
   have h1:=h.len
   have h2:n*size≤len*size:=Nat.mul_le_mul_right _ hn
   simp only at h1
   rw [List.size_toArray,List.length_take,h1];omega
  refine j5 _ _ _ _ ?_ hq
  have key:F.row a (vs.take (n*size)).toArray→rdo P (loadCells a (n*size)) F (vs.take (n*size)).toArray:=fun hr=>by
   have:=dc (P:=P) hr
   rw [hlen] at this
   exact this
  refine key ?_
  by_cases hz:n*size=0
  ·intro i hi;rw [hlen,hz] at hi;omega
  ·have:=h.row (a:=a) rfl 0 (vs.take (n*size)).toArray (by rw [hlen];simp)
   simpa [Addr.add] using this
theorem mp {P:Program} {F:PH} {s x:Sl} {t e size bytes ty:Nat} {z:Value} {olds news:List Value} {Q:Value→PH→Prop} (ht:P.underlying t=some (.slice e)) (hsz:tsz P e=some (size,bytes)) (hz:bu P e=some z) (hzs:z.cells.size=size)
  (ho:RdS F s size olds) (hn:RdS F x size news) (hst:∀v∈news,aj v) (hfit:(s.len+x.len)*bytes≤140737488355328) (hlen:s.len+x.len≤9223372036854775807)
  (h0:x.len*size=0→s.len+x.len≤s.cap→Q (Sl.v ⟨s.base,s.len+x.len,s.cap⟩) F)
  (h1:0<x.len*size→s.len+x.len≤s.cap→∃b o c e',s.base=some ⟨b,o,none⟩∧F b=some (.cells c e' (0,0))∧o+s.len*size+x.len*size≤c.size∧
   Q (Sl.v ⟨s.base,s.len+x.len,s.cap⟩) (F.set b (.cells (wr c (o+s.len*size) news) e')))
  (h2:s.cap<s.len+x.len→∀cap b,s.len+x.len≤cap→F b=none→Q (Sl.v ⟨some ⟨b,0,none⟩,s.len+x.len,cap⟩) (F.set b (.cells (olds.toArray++news.toArray++Builtin.zeroCells z.cells (cap - (s.len+x.len))) e))):
  aE P (Builtin.append_ #[t,t] ty #[s.v,x.v]) F Q:=by
 have hnl:=hn.len
 have hol:=ho.len
 have hfn:∀Q',Q' news.toArray F→aE P (Builtin.firstCells size x.len x.v) F Q':=fun Q' hq=>eC hn (Nat.le_refl _) (by rw [← hnl,List.take_length];exact hq)
 have hfo:∀Q',Q' olds.toArray F→aE P (Builtin.firstCells size s.len s.v) F Q':=fun Q' hq=>eC ho (Nat.le_refl _) (by rw [← hol,List.take_length];exact hq)
 obtain ⟨base,len,cap⟩:=s
 obtain ⟨xb,xl,xc⟩:=x
 simp only [Builtin.append_,aB,Sl.v,List.getElem?_toArray,List.getElem?_cons_zero,List.getElem?_cons_succ,bG ht,Builtin.lenOf,aM,dw hsz,Bool.false_eq_true,if_false,Bool.not_false,if_true] at*
 obtain ⟨i,hib,hti⟩:=cY hsz
 by_cases hroom:len+xl≤cap
 ·rw [if_pos hroom]
  simp only [aB]
  refine hfn _ ?_
  by_cases hz0:xl*size=0
  ·have hnil:news=[]:=List.eq_nil_of_length_eq_zero (by rw [hnl,hz0])
   cases base with
   |none=>exact h0 hz0 hroom
   |some a=>simp only [hnil,storeCells,aB,aM];exact h0 hz0 hroom
  ·obtain ⟨b,o,c,e',g1,g2,g3,g4⟩:=h1 (by omega) hroom
   cases g1
   simp only [aB]
   refine di news 0 F _ c _ (by simp) (by simpa using g2) (by simp only [aD];rw [hnl];omega) hst (fun hnn=>hz0 (by rw [← hnl,hnn];rfl)) ?_
   simpa using g4
 ·rw [if_neg hroom]
  simp only [aB,hti]
  rw [if_neg (by
   rintro ⟨ha,hb⟩
   have:(IntKind.i64.max:Int)=9223372036854775807:=by decide
   rw [this] at ha
   omega)]
  have hg:=growslice_fits (need:=len+xl) (old:=cap) (bytes:=bytes) (by omega) hfit
  simp only [aB,hti]
  rw [if_neg (by rw [hib];omega)]
  simp only [aB,choose]
  unfold aE
  rw [if_neg (by simp [Question.forced])]
  intro tt
  simp only [aE,hti]
  refine gp ?_
  refine hfo _ ?_
  refine hfn _ ?_
  simp only [cO hz,newRow,newObj,aB,aE,aM]
  intro b hb
  exact h2 (by omega) _ b (by simp only [Question.cut];omega) hb
end Go.Proofs.YtenpmjhnhepfdaaGreatDoor
