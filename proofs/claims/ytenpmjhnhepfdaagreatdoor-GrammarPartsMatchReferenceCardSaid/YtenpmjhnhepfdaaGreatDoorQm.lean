/-
  The tree of a valid pattern.
-/
import Derived.Test.YtenpmjhnhepfdaaGreatDoorPhp
import Derived.Test.YtenpmjhnhepfdaaGreatDoorEa
import Derived.Test.YtenpmjhnhepfdaaGreatDoorGbits
import Derived.Test.YtenpmjhnhepfdaaGreatDoorGpattern
namespace Go.Proofs.YtenpmjhnhepfdaaGreatDoor
open Go Go.Proofs.Tryz
variable {R:VR} {F:PH}
set_option maxRecDepth 10000
set_option maxHeartbeats 4000000
def AS (a:Sl) (R:VR) (F:PH):Prop:=Bc ((a.len:Int)=0) (R (.int .i64 40) F) (R (.int .i64 0) F)
def AT (f:Int->PH->Prop) (b c:Sl) (R:VR) (a:Int) (F:PH):Prop:=Bc (a<(IntKind.i64.wrap ((b.len:Int) - 1))) (Ix c a fun d=>Li F (Addr.add d (Int.toNat a*1)) fun e=>Bc (e≠1) (R (.int .i64 40) F) (f (IntKind.i64.wrap (a+1)) F)) (AS b R F)
def AU (b a:Sl) (R:VR) (F:PH):Prop:=Lp 0 F fun N c F=>AT N b a R c F
def nQ (c:Int->PH->Prop) (d b:Sl) (a:Int) (R:VR) (F:PH):Prop:=c (IntKind.i64.wrap (a+1)) F
def nR (j:Int->PH->Prop) (d a:Sl) (c e:Int) (R:VR) (F:PH):Prop:=Bc (2<=e) (Ix d c fun f=>Li F (Addr.add (Addr.add f (Int.toNat c*5)) 4) fun b=>Ix a b fun g=>Li F (Addr.add g (Int.toNat b*1)) fun h=>Ix a b fun i=>sto F (Addr.add i (Int.toNat b*1)) (.int .i64 (IntKind.i64.wrap (h+1))) fun F=>nQ j d a c R F) (nQ j d a c R F)
def AV (n:Int->PH->Prop) (c a:Sl) (R:VR) (b:Int) (F:PH):Prop:=Bc (b<(c.len:Int)) (Cbo 236 #[Sl.v c,.int .i64 b] F fun g F=>Bb ((!g)) (R (.int .i64 40) F) (Ix c b fun h=>Li F (Addr.add h (Int.toNat b*5)) fun i=>ae prog 237 #[.int .i64 i] F fun v F=>∃d,∃f,v=(.tuple #[.int .i64 d,.bool f])/\Bc (1<=d) (Ix c b fun j=>Li F (Addr.add (Addr.add j (Int.toNat b*5)) 3) fun e=>Ix a e fun k=>Li F (Addr.add k (Int.toNat e*1)) fun l=>Ix a e fun m=>sto F (Addr.add m (Int.toNat e*1)) (.int .i64 (IntKind.i64.wrap (l+1))) fun F=>nR n c a b d R F) (nR n c a b d R F))) (AU c a R F)
def Km (a:Sl) (R:VR) (F:PH):Prop:=Bc ((512:Int)<(a.len:Int)) (R (.int .i64 2) F) (aE prog (Instr.makeSlice 70 (.int .i64 (a.len:Int)) (.int .i64 (a.len:Int))) F fun v F=>∃b,v=(Sl.v b)/\Lp 0 F fun N c F=>AV N a b R c F)
theorem Qh {a:Sl} (h:Km a R F):ae prog 218 #[Sl.v a] F R:=Rx.sxC (args:=[Sl.v a]) (.T .N (.T .N (.T .N (.J false [] (.T .N (.L [(4,.int .i64)] (.T .N (.J false [] (.T .N (.T .N (.J false [] .N .N))) .N)))) (.J false [] (.T .N (.L [(7,.int .i64)] .N)) .N))))) (by kernel_rfl) h
def Kn (a:Sl) (b:ByteArray) (R:VR) (F:PH):Prop:=Ci 218 #[Sl.v a] F fun e F=>Bc (e=0) (Nb F (.cells #[.int .i64 0] 3) fun f F=>Cs 239 #[Sl.v a,.int .i64 (IntKind.i64.wrap ((a.len:Int) - 1)),.string b,Sl.v (Sb f 1)] F fun c F=>Cbo 238 #[Sl.v c,.int .i64 (b.size:Int)] F fun d F=>R (.bool d) F) (R (.bool false) F)
theorem Qi {a:Sl} {b:ByteArray} (h:Kn a b R F):ae prog 219 #[Sl.v a,.string b] F R:=Rx.sxC (args:=[Sl.v a,.string b]) .N (by kernel_rfl) h
def jx (d:Int) (e:Nat) (a:Int) (R:VR) (F:PH):Prop:=Bc (a<1) (Bc (a<2) (R (.bool true) F) (Li F (Am e 4) fun f=>Bc (0<=f) (Li F (Am e 4) fun g=>R (.bool (decide (g<d))) F) (R (.bool false) F))) (Li F (Am e 3) fun h=>Bc (0<=h) (Li F (Am e 3) fun i=>Bc (i<d) (Bc (a<2) (R (.bool true) F) (Li F (Am e 4) fun b=>Bc (0<=b) (Li F (Am e 4) fun c=>R (.bool (decide (c<d))) F) (R (.bool false) F))) (R (.bool false) F)) (R (.bool false) F))
def nS (b:Int) (d:Nat) (a:Int) (R:VR) (F:PH):Prop:=Bc (a<1) (Li F (Am d 3) fun e=>Bc (e≠0) (R (.bool false) F) (Bc (a<2) (Li F (Am d 4) fun f=>Bc (f≠0) (R (.bool false) F) (jx b d a R F)) (jx b d a R F))) (Bc (a<2) (Li F (Am d 4) fun c=>Bc (c≠0) (R (.bool false) F) (jx b d a R F)) (jx b d a R F))
def Ko (s:Sl) (d:Int) (R:VR) (F:PH):Prop:=Ix s d fun i=>Lr F 5 (Addr.add i (Int.toNat d*5)) fun j=>Nb F (.cells (#[.int .i64 0,.int .i64 0,.int .i64 0,.int .i64 0,.int .i64 0]) 97) fun a F=>au F (Am a 0) 5 j fun F=>Li F (Am a 0) fun k=>ae prog 237 #[.int .i64 k] F fun v F=>∃c,∃b,v=(.tuple #[.int .i64 c,.bool b])/\Bb ((!b)) (R (.bool false) F) (Li F (Am a 0) fun l=>Bc (l≠1) (Li F (Am a 1) fun m=>Bc (m≠0) (R (.bool false) F) (Li F (Am a 2) fun n=>Bc (n≠0) (R (.bool false) F) (Li F (Am a 1) fun o=>Bc (o<0) (R (.bool false) F) (Li F (Am a 1) fun p=>Li F (Am a 2) fun q=>Bc (q<p) (R (.bool false) F) (Li F (Am a 2) fun r=>Bc (255<r) (R (.bool false) F) (nS d a c R F)))))) (Li F (Am a 1) fun e=>Bc (e<0) (R (.bool false) F) (Li F (Am a 1) fun f=>Li F (Am a 2) fun g=>Bc (g<f) (R (.bool false) F) (Li F (Am a 2) fun h=>Bc (255<h) (R (.bool false) F) (nS d a c R F)))))
theorem Qj {a:Sl} {b:Int} (h:Ko a b R F):ae prog 236 #[Sl.v a,.int .i64 b] F R:=Rx.sxC (args:=[Sl.v a,.int .i64 b]) (.T .N (.T .N (.T .N (.J false [] .N (.J false [] .N .N))))) (by kernel_rfl) h
def nT (a:Int) (b:Bool) (R:VR) (F:PH):Prop:=Bb (b) (R (.tuple #[.int .i64 0,.bool true]) F) (Bc (a=4) (R (.tuple #[.int .i64 1,.bool true]) F) (Bc (a=2) (Bc (a=2) (R (.tuple #[.int .i64 2,.bool true]) F) (R (.tuple #[.int .i64 0,.bool false]) F)) (Bc (a=3) (R (.tuple #[.int .i64 2,.bool true]) F) (R (.tuple #[.int .i64 0,.bool false]) F))))
def Kp (a:Int) (R:VR) (F:PH):Prop:=Bc (a=0) (nT a (decide (a=0)) R F) (nT a (decide (a=1)) R F)
theorem Qk {a:Int} (h:Kp a R F):ae prog 237 #[.int .i64 a] F R:=Rx.sxC (args:=[.int .i64 a]) (.T .N (.T (.T .N (.J false [(5,.bool)] .N .N)) .N)) (by kernel_rfl) h
def AW (R:VR) (F:PH):Prop:=R (.bool false) F
def AX (f:Int->PH->Prop) (b:Sl) (e:Int) (R:VR) (a:Int) (F:PH):Prop:=Bc (a<(b.len:Int)) (Ix b a fun c=>Li F (Addr.add c (Int.toNat a*1)) fun d=>Bc (d=e) (R (.bool true) F) (f (IntKind.i64.wrap (a+1)) F)) (AW R F)
def Kq (a:Sl) (b:Int) (R:VR) (F:PH):Prop:=Lp 0 F fun N c F=>AX N a b R c F
theorem Ql {a:Sl} {b:Int} (h:Kq a b R F):ae prog 238 #[Sl.v a,.int .i64 b] F R:=Rx.sxC (args:=[Sl.v a,.int .i64 b]) (.T .N (.J false [] (.T .N (.L [(5,.int .i64)] .N)) .N)) (by kernel_rfl) h
def AY (a:Sl) (R:VR) (F:PH):Prop:=R (Sl.v a) F
def AZ (h:Sl->Int->PH->Prop) (f:Sl) (g:ByteArray) (i:Nat) (R:VR) (a:Sl) (e:Int) (F:PH):Prop:=Bc (e<(a.len:Int)) (Li F (Am i 3) fun b=>Cs 239 #[Sl.v f,.int .i64 b,.string g,Sl.v a] F fun c F=>Cs 243 #[Sl.v a,Sl.v c] F fun d F=>h d (a.len:Int) F) (AY a R F)
def A0 (e:Sl) (f:ByteArray) (b:Sl) (h:Nat) (R:VR) (F:PH):Prop:=(∃(g:Nat->Sl->Int->PH->Prop) (d:Nat),g d b (-1:Int) F/\∀d a c F,g d a c F-> AZ (nx2 g d) e f h R a c F)
def A1 (a:Sl) (R:VR) (F:PH):Prop:=R (Sl.v a) F
def nU (d:Sl->Int->PH->Prop) (e:ByteArray) (c:Sl) (f:Nat) (b:Int) (a:Sl) (R:VR) (F:PH):Prop:=d a (IntKind.i64.wrap (b+1)) F
def lu (j:Sl->Int->PH->Prop) (d:ByteArray) (b:Sl) (k:Nat) (a:Sl) (c:Int) (e:Bool) (R:VR) (F:PH):Prop:=Bb (e) (Ix b c fun f=>Li F (Addr.add f (Int.toNat c*1)) fun g=>Nb F (.cells #[.int .i64 (IntKind.i64.wrap (g+1))] 3) fun i F=>Ap 70 #[Sl.v a,Sl.v (Sb i 1)] F fun h F=>nU j d b k c h R F) (nU j d b k c a R F)
def uI (p:Sl->Int->PH->Prop) (d:ByteArray) (a:Sl) (i:Nat) (R:VR) (b:Sl) (c:Int) (F:PH):Prop:=Bc (c<(a.len:Int)) (Ix a c fun j=>Li F (Addr.add j (Int.toNat c*1)) fun k=>Bc (k<(d.size:Int)) (Ix a c fun l=>Li F (Addr.add l (Int.toNat c*1)) fun e=>0<=e/\e<(d.size:Int)/\∃(hx:Int.toNat e<d.size) (g:Int),g=((d[Int.toNat e]'hx).toNat:Int)/\Li F (Am i 1) fun m=>Bc (m<=(IntKind.i64.wrap g)) (Ix a c fun n=>Li F (Addr.add n (Int.toNat c*1)) fun f=>0<=f/\f<(d.size:Int)/\∃(hx:Int.toNat f<d.size) (h:Int),h=((d[Int.toNat f]'hx).toNat:Int)/\Li F (Am i 2) fun o=>lu p d a i b c (decide ((IntKind.i64.wrap h)<=o)) R F) (lu p d a i b c false R F)) (lu p d a i b c false R F)) (A1 b R F)
def td (d:Sl) (j:Int) (e:ByteArray) (a:Sl) (R:VR) (F:PH):Prop:=Ix d j fun k=>Lr F 5 (Addr.add k (Int.toNat j*5)) fun l=>Nb F (.cells (#[.int .i64 0,.int .i64 0,.int .i64 0,.int .i64 0,.int .i64 0]) 97) fun f F=>au F (Am f 0) 5 l fun F=>Nb F (.cells #[] 3) fun u F=>Li F (Am f 0) fun c=>Bc (c=0) (R (Sl.v a) F) (Bc (c=1) ((∃(v:Nat->Sl->Int->PH->Prop) (t:Nat),v t (Sb u 0) 0 F/\∀t b g F,v t b g F-> uI (nx2 v t) e a f R b g F)) (Bc (c=2) (Li F (Am f 4) fun h=>Li F (Am f 3) fun m=>Cs 239 #[Sl.v d,.int .i64 m,.string e,Sl.v a] F fun n F=>F.cell (Am f 4)=some (.int .i64 h)/\Cs 239 #[Sl.v d,.int .i64 h,.string e,Sl.v n] F fun o F=>R (Sl.v o) F) (Bc (c=3) (Li F (Am f 3) fun p=>Li F (Am f 4) fun i=>Cs 239 #[Sl.v d,.int .i64 p,.string e,Sl.v a] F fun q F=>F.cell (Am f 4)=some (.int .i64 i)/\Cs 239 #[Sl.v d,.int .i64 i,.string e,Sl.v a] F fun r F=>Cs 243 #[Sl.v q,Sl.v r] F fun s F=>R (Sl.v s) F) (A0 d e a f R F))))
theorem xo {b:Sl} {c:Int} {d:ByteArray} {a:Sl} (h:td b c d a R F):ae prog 239 #[Sl.v b,.int .i64 c,.string d,Sl.v a] F R:=Rx.sxC (args:=[Sl.v b,.int .i64 c,.string d,Sl.v a]) (.T .N (.T .N (.T .N (.J false [] (.T .N (.T .N (.T .N (.T .N (.T (.J false [(10,.sl)] (.T .N (.L [(10,.sl),(11,.int .i64)] (.T .N (.J false [(10,.sl)] (.J false [(61,.bool)] .N .N) .N)))) .N) .N))))) (.T .N (.T .N (.J false [(10,.sl)] (.L [(10,.sl),(12,.int .i64)] .N) .N))))))) (by kernel_rfl) h
def A2 (a:Sl) (R:VR) (F:PH):Prop:=R (Sl.v a) F
def nV (d:Sl->Int->PH->Prop) (c:Sl) (b:Int) (a:Sl) (R:VR) (F:PH):Prop:=d a (IntKind.i64.wrap (b+1)) F
def A3 (k:Sl->Int->PH->Prop) (b:Sl) (R:VR) (a:Sl) (c:Int) (F:PH):Prop:=Bc (c<(b.len:Int)) (Ix b c fun d=>Li F (Addr.add d (Int.toNat c*1)) fun e=>Cbo 238 #[Sl.v a,.int .i64 e] F fun f F=>Bb ((!f)) (Ix b c fun g=>Li F (Addr.add g (Int.toNat c*1)) fun h=>Nb F (.cells #[.int .i64 h] 3) fun j F=>Ap 70 #[Sl.v a,Sl.v (Sb j 1)] F fun i F=>nV k b c i R F) (nV k b c a R F)) (A2 a R F)
def Kr (e b:Sl) (R:VR) (F:PH):Prop:=Nb F (.cells #[] 3) fun h F=>Ap 70 #[Sl.v (Sb h 0),Sl.v e] F fun f F=>(∃(g:Nat->Sl->Int->PH->Prop) (d:Nat),g d f 0 F/\∀d a c F,g d a c F-> A3 (nx2 g d) b R a c F)
theorem Qm {b:Sl} {a:Sl} (h:Kr b a R F):ae prog 243 #[Sl.v b,Sl.v a] F R:=Rx.sxC (args:=[Sl.v b,Sl.v a]) (.T .N (.T .N (.J false [(5,.sl)] (.T .N (.L [(5,.sl),(6,.int .i64)] (.T .N (.J false [(5,.sl)] .N .N)))) .N))) (by kernel_rfl) h
section
variable {F:PH}
theorem rdn {s:Sl} {l:List Nd} (h:RdS F s 5 (dG l)) {i:Nat} {x:Nd} (hx:l[i]? =some x):∃a,s.base=some a/\F.row (a.add (i*5)) x.arr:=by
 obtain ⟨hi,hx⟩:=List.getElem?_eq_some_iff.1 hx
 subst hx
 have hlen:=h.nlen
 obtain ⟨b,o,hb,_⟩:=h.cells (by omega)
 exact ⟨_,hb,h.row hb (i*5) l[i].arr (by
  have:=tg l i hi
  simpa [Nd.arr,Nd.cells] using this.symm)⟩
def lw (k:Int):Int:=if k=4 then 1 else if k=2\/k=3 then 2 else 0
def eJ (k:Int):Bool:=decide (0<=k/\k<=4)
theorem jO (F:PH) (k:Int):ae prog 237 #[vi k] F fun r F'=>r=.tuple #[vi (lw k),.bool (eJ k)]/\F'=F:=by
 refine Qk ?_
 unfold Kp
 have j1:∀t:Bool,t=decide (k=0\/k=1)->nT k t (fun r F'=>r=.tuple #[vi (lw k),.bool (eJ k)]/\F'=F) F:=fun t ht=>by
  unfold nT
  refine ⟨fun h=>⟨?_,rfl⟩,fun h=> ?_⟩
  ·have:=of_decide_eq_true (ht.symm.trans h)
   have e1:lw k=0:=by unfold lw;rw [if_neg (by omega),if_neg (by omega)]
   have e2:eJ k=true:=by unfold eJ;simp;omega
   rw [e1,e2]
  ·have h01:=of_decide_eq_false (ht.symm.trans h)
   refine ⟨fun h4=>⟨?_,rfl⟩,fun h4=>⟨fun h2=>⟨fun _=>⟨?_,rfl⟩,fun h=>absurd h2 h⟩,fun h2=>⟨fun h3=>⟨?_,rfl⟩,fun h3=>⟨?_,rfl⟩⟩⟩⟩
   ·have e1:lw k=1:=by unfold lw;rw [if_pos (by omega)]
    have e2:eJ k=true:=by unfold eJ;simp;omega
    rw [e1,e2]
   ·have e1:lw k=2:=by unfold lw;rw [if_neg (by omega),if_pos (by omega)]
    have e2:eJ k=true:=by unfold eJ;simp;omega
    rw [e1,e2]
   ·have e1:lw k=2:=by unfold lw;rw [if_neg (by omega),if_pos (by omega)]
    have e2:eJ k=true:=by unfold eJ;simp;omega
    rw [e1,e2]
   ·have e1:lw k=0:=by unfold lw;rw [if_neg (by omega),if_neg (by omega)]
    have e2:eJ k=false:=by unfold eJ;simp;omega
    rw [e1,e2]
 refine ⟨fun h=>j1 _ ?_,fun h=>j1 _ ?_⟩
 ·rw [Bool.eq_iff_iff];simp;omega
 ·rw [Bool.eq_iff_iff];simp;omega
end
def ar (k:Int):Int:=if k=4 then 1 else if k=2\/k=3 then 2 else if k=0\/k=1 then 0 else -1
def okN (i:Nat) (x:Nd):Prop:=0<=ar x.k/\(x.k=1->0<=x.lo/\x.lo<=x.hi/\x.hi<=255)/\(x.k≠1->x.lo=0/\x.hi=0)/\(ar x.k<1->x.a=0)/\(ar x.k<2->x.b=0)/\
 (1<=ar x.k->0<=x.a/\x.a<i)/\(2<=ar x.k->0<=x.b/\x.b<i)
def us (x:Nd):List Int:=if 2<=ar x.k then [x.b,x.a] else if 1<=ar x.k then [x.a] else []
def usL:List Nd->List Int
 |[]=>[]
 |x::l=>usL l++us x
theorem ja (l:List Nd) (x:Nd):usL (l++[x])=us x++usL l:=by
 induction l with
 |nil=>simp [usL]
 |cons y l ih=>simp [usL,ih]
structure GoodL (l:List Nd):Prop where
 ne:l≠[]
 ok:∀i x,l[i]? =some x->okN i x
 nd:(usL l).Nodup
 all:∀i:Nat,i+1<l.length->(i:Int)∈usL l
open Classical in
noncomputable def fh (l:List Nd):Int:=if 512<l.length then 2 else if GoodL l then 0 else 40
section
variable {F0 F:PH}
theorem yO (k:Int):ae prog 202 #[vi k] F fun r F'=>r=vi (ar k)/\F'=F:=by
 refine Qx ?_
 unfold Ky
 have j1:∀t:Bool,t=decide (k=0\/k=1)->nY k t (fun r F'=>r=vi (ar k)/\F'=F) F:=fun t ht=>by
  unfold nY
  refine ⟨fun h=>⟨?_,rfl⟩,fun h=> ?_⟩
  ·have:=of_decide_eq_true (ht.symm.trans h)
   have e1:ar k=0:=by unfold ar;rw [if_neg (by omega),if_neg (by omega),if_pos (by omega)]
   rw [e1]
  ·have h01:=of_decide_eq_false (ht.symm.trans h)
   refine ⟨fun h4=>⟨?_,rfl⟩,fun h4=>⟨fun h2=>⟨fun _=>⟨?_,rfl⟩,fun h=>absurd h2 h⟩,fun h2=>⟨fun h3=>⟨?_,rfl⟩,fun h3=>⟨?_,rfl⟩⟩⟩⟩
   ·have e1:ar k=1:=by unfold ar;rw [if_pos (by omega)]
    rw [e1]
   ·have e1:ar k=2:=by unfold ar;rw [if_neg (by omega),if_pos (by omega)]
    rw [e1]
   ·have e1:ar k=2:=by unfold ar;rw [if_neg (by omega),if_pos (by omega)]
    rw [e1]
   ·have e1:ar k= -1:=by unfold ar;rw [if_neg (by omega),if_neg (by omega),if_neg (by omega)]
    rw [e1]
 refine ⟨fun h=>j1 _ ?_,fun h=>j1 _ ?_⟩
 ·rw [Bool.eq_iff_iff];simp;omega
 ·rw [Bool.eq_iff_iff];simp;omega
def gE (n:Nat) (W:List Int):List Value:=(List.range n).map fun (i:Nat)=>Value.bool (decide ((i:Int)∈W))
structure Usd (F0 F:PH) (b u n:Nat) (W:List Int):Prop where
 zb:F0 b=none
 zu:F0 u=none
 le:F0.le F
 ne:u≠b
 qb:F b=some (.cells #[Sl.v ⟨some ⟨u,0,none⟩,n,n⟩] 265)
 qu:F u=some (.cells (gE n W).toArray 4)
theorem Di (n:Nat) (W:List Int) (i:Nat) (hi:i<n):(gE n W).toArray.setIfInBounds i (.bool true)=(gE n ((i:Int)::W)).toArray:=by
 apply Array.ext'
 rw [Array.toList_setIfInBounds]
 apply List.ext_getElem?
 intro j
 rw [List.getElem?_set]
 simp only [gE,List.length_map,List.length_range,List.getElem?_map]
 by_cases h:i=j
 ·subst h
  rw [if_pos rfl,if_pos hi,List.getElem?_range hi]
  simp
 ·rw [if_neg h]
  by_cases hj:j<n
  ·rw [List.getElem?_range hj]
   simp only [Option.map_some,List.mem_cons]
   congr 2
   rw [Bool.eq_iff_iff]
   simp only [decide_eq_true_eq]
   constructor
   ·exact .inr
   ·rintro (e|e)
    ·omega
    ·exact e
  ·rw [List.getElem?_eq_none (by simp;omega)]
   rfl
theorem te {n:Nat} {W:List Int} {i:Nat} (hi:i<n):(gE n W).toArray[i]? =some (.bool (decide ((i:Int)∈W))):=by
 simp [gE,hi]
theorem qH {b u n:Nat} {W:List Int} (h:Usd F0 F b u n W) (i:Int) {at_:Nat} (ha:at_<=n):
  ae prog 201 #[vi i,vi at_,pa b] F fun r F'=>((0<=i/\i<at_/\i ∉ W)/\r=.bool true/\Usd F0 F' b u n (i::W)/\∀x,x≠u->F' x=F x)\/(¬(0<=i/\i<at_/\i ∉ W)/\r=.bool false/\F'=F):=by
 refine Qw ?_
 unfold Kx
 refine ⟨fun h0=> .inr ⟨by omega,rfl,rfl⟩,fun h0=>⟨fun h1=> .inr ⟨by omega,rfl,rfl⟩,fun h1=> ?_⟩⟩
 obtain ⟨k,rfl⟩:=Int.eq_ofNat_of_zero_le (by omega:0<=i)
 have hk:k<n:=by omega
 have hr:F.cell ((Addr.mk u 0 none).add (Int.toNat (k:Int)*1))=some (.bool (decide ((k:Int)∈W))):=by
  rw [Int.toNat_natCast,Nat.mul_one,show (Addr.mk u 0 none).add k=⟨u,k,none⟩ by simp [Addr.add,Nat.zero_add];omega,am h.qu]
  exact te hk
 have hc:F.cell ⟨b,0,none⟩=some (Sl.v ⟨some ⟨u,0,none⟩,n,n⟩):=by rw [am h.qb];rfl
 refine ⟨_,rfl,_,hc,_,rfl,by omega,by simp only;omega,_,hr,fun hm=> .inr ⟨fun hn=>hn.2.2 (of_decide_eq_true hm),rfl,rfl⟩,fun hm=>⟨_,hc,_,rfl,by omega,by simp only;omega,?_⟩⟩
 have hm:=of_decide_eq_false hm
 refine oY (b:=u) (o:=k) (by rw [Int.toNat_natCast,Nat.mul_one];simp [Addr.add];omega) h.qu (by simp [gE];exact hk) ?_
 refine .inl ⟨⟨by omega,by omega,hm⟩,rfl,⟨h.zb,h.zu,aw h.le h.zu,h.ne,?_,?_⟩,fun x hx=>az _ _ hx⟩
 ·rw [az _ _ h.ne.symm]
  exact h.qb
 ·show (F.set u (.cells ((gE n W).toArray.setIfInBounds k (.bool true)) 4)) u=_
  rw [Di n W k hk]
  exact an _ _ _
theorem Gq {s:Sl} {b u n b6 j:Nat} {W:List Int} {x:Nd} {ok:Bool} {N:Int->PH->Prop} {R:Value->PH->Prop} (h:Usd F0 F b u n W) (q6:F b6=some (.cells x.arr 97)) (hj:j<=n) (hu:u≠b6)
  (bad:¬(ok=true/\(ar x.k<1->x.a=0)/\(ar x.k<2->x.b=0)/\(1<=ar x.k->0<=x.a/\x.a<j/\x.a ∉ W)/\(2<=ar x.k->0<=x.b/\x.b<j/\x.b ∉ x.a::W))->∀F',F0.le F'->R (vi 40) F')
  (good:(ok=true/\(ar x.k<1->x.a=0)/\(ar x.k<2->x.b=0)/\(1<=ar x.k->0<=x.a/\x.a<j/\x.a ∉ W)/\(2<=ar x.k->0<=x.b/\x.b<j/\x.b ∉ x.a::W))->∀F',Usd F0 F' b u n (us x++W)->N (IntKind.i64.wrap ((j:Int)+1)) F'):
  fC N s b j b6 (ar x.k) ok R F:=by
 have cA:∀{F':PH},F' b6=some (.cells x.arr 97)->F'.cell (Addr.mk b6 3 none)=some (vi x.a):=fun h=>by rw [am h];rfl
 have cB:∀{F':PH},F' b6=some (.cells x.arr 97)->F'.cell (Addr.mk b6 4 none)=some (vi x.b):=fun h=>by rw [am h];rfl
 unfold fC
 refine ⟨fun hk=>bad (fun hg=>by rw [hg.1] at hk;cases hk) _ h.le,fun hk=> ?_⟩
 have hok:ok=true:=by simpa using hk
 refine ⟨fun h1=>⟨_,cA q6,fun ha=>bad (fun hg=>ha (hg.2.1 h1)) _ h.le,fun ha=>⟨fun h2=>⟨_,cB q6,fun hb=>bad (fun hg=>hb (hg.2.2.1 h2)) _ h.le,fun hb=>⟨fun h3=>absurd h3 (by omega),fun h3=>⟨fun h4=>absurd h4 (by omega),fun h4=> ?_⟩⟩⟩,fun h2=>absurd h2 (by omega)⟩⟩,
  fun h1=>⟨fun h2=>⟨_,cB q6,fun hb=>bad (fun hg=>hb (hg.2.2.1 h2)) _ h.le,fun hb=>⟨fun h3=>⟨_,cA q6,?_⟩,fun h3=>absurd h3 (by omega)⟩⟩,fun h2=>⟨fun h3=>⟨_,cA q6,?_⟩,fun h3=>absurd h3 (by omega)⟩⟩⟩
 ·unfold bR
  refine good ⟨hok,fun _=>by omega,fun _=>by omega,fun h=>by omega,fun h=>by omega⟩ _ ?_
  have:us x=[]:=by unfold us;rw [if_neg h4,if_neg h3]
  rw [this]
  exact h
 ·refine (qH h x.a hj).mono ?_
  rintro _ F2 (⟨hg,rfl,h2',hk2⟩|⟨hg,rfl,rfl⟩)
  ·refine ⟨_,rfl,fun h=>by simp at h,fun _=>⟨fun h4=>absurd h4 (by omega),fun h4=> ?_⟩⟩
   unfold bR
   refine good ⟨hok,fun _=>by omega,fun _=>by omega,fun _=>hg,fun h=>by omega⟩ _ ?_
   have:us x=[x.a]:=by unfold us;rw [if_neg h4,if_pos h3]
   rw [this]
   exact h2'
  ·exact ⟨_,rfl,fun _=>bad (fun hg2=>hg (hg2.2.2.2.1 h3)) _ h.le,fun h=>by simp at h⟩
 ·refine (qH h x.a hj).mono ?_
  rintro _ F2 (⟨hg,rfl,h2',hk2⟩|⟨hg,rfl,rfl⟩)
  ·have q6':F2 b6=some (.cells x.arr 97):=(hk2 _ hu.symm).trans q6
   refine ⟨_,rfl,fun h=>by simp at h,fun _=>⟨fun h4=>⟨_,cB q6',?_⟩,fun h4=>absurd h4 (by omega)⟩⟩
   refine (qH h2' x.b hj).mono ?_
   rintro _ F3 (⟨hg3,rfl,h3',hk3⟩|⟨hg3,rfl,rfl⟩)
   ·refine ⟨_,rfl,fun h=>by simp at h,fun _=> ?_⟩
    unfold bR
    refine good ⟨hok,fun _=>by omega,fun _=>by omega,fun _=>hg,fun _=>hg3⟩ _ ?_
    have:us x=[x.b,x.a]:=by unfold us;rw [if_pos h4]
    rw [this]
    exact h3'
   ·exact ⟨_,rfl,fun _=>bad (fun hg2=>hg3 (hg2.2.2.2.2 h4)) _ h2'.le,fun h=>by simp at h⟩
  ·exact ⟨_,rfl,fun _=>bad (fun hg2=>hg (hg2.2.2.2.1 h3)) _ h.le,fun h=>by simp at h⟩
end
theorem Qn:tsz prog 4=some (1,1):=by kernel_rfl
theorem Qo:bk prog 4=some (.bool false):=by kernel_rfl
structure GoodTo (l:List Nd) (j:Nat):Prop where
 ok:∀i x,i<j->l[i]? =some x->okN i x
 nd:(usL (l.take j)).Nodup
theorem GoodTo.zero (l:List Nd):GoodTo l 0:=⟨fun i x h=>by omega,by simp [usL]⟩
theorem xq {j:Nat} {x:Nd} {W:List Int}:(okN j x/\(us x++W).Nodup)↔W.Nodup/\(0<=ar x.k/\(x.k=1->0<=x.lo/\x.lo<=x.hi/\x.hi<=255)/\(x.k≠1->x.lo=0/\x.hi=0))/\
  (ar x.k<1->x.a=0)/\(ar x.k<2->x.b=0)/\(1<=ar x.k->0<=x.a/\x.a<j/\x.a ∉ W)/\(2<=ar x.k->0<=x.b/\x.b<j/\x.b ∉ x.a::W):=by
 unfold okN us
 by_cases h2:2<=ar x.k
 ·rw [if_pos h2]
  simp only [List.cons_append,List.nil_append,List.nodup_cons,List.mem_cons,not_or]
  constructor
  ·rintro ⟨⟨a1,a2,a3,a4,a5,a6,a7⟩,⟨n1,n2⟩,n3,n4⟩
   exact ⟨n4,⟨a1,a2,a3⟩,a4,a5,fun h=>⟨(a6 h).1,(a6 h).2,n3⟩,fun h=>⟨(a7 h).1,(a7 h).2,n1,n2⟩⟩
  ·rintro ⟨n4,⟨a1,a2,a3⟩,a4,a5,a6,a7⟩
   exact ⟨⟨a1,a2,a3,a4,a5,fun h=>⟨(a6 h).1,(a6 h).2.1⟩,fun h=>⟨(a7 h).1,(a7 h).2.1⟩⟩,⟨(a7 h2).2.2.1,(a7 h2).2.2.2⟩,(a6 (by omega)).2.2,n4⟩
 ·rw [if_neg h2]
  by_cases h1:1<=ar x.k
  ·rw [if_pos h1]
   simp only [List.cons_append,List.nil_append,List.nodup_cons]
   constructor
   ·rintro ⟨⟨a1,a2,a3,a4,a5,a6,a7⟩,n3,n4⟩
    exact ⟨n4,⟨a1,a2,a3⟩,a4,a5,fun h=>⟨(a6 h).1,(a6 h).2,n3⟩,fun h=>absurd h h2⟩
   ·rintro ⟨n4,⟨a1,a2,a3⟩,a4,a5,a6,a7⟩
    exact ⟨⟨a1,a2,a3,a4,a5,fun h=>⟨(a6 h).1,(a6 h).2.1⟩,fun h=>absurd h h2⟩,(a6 h1).2.2,n4⟩
  ·rw [if_neg h1]
   simp only [List.nil_append]
   constructor
   ·rintro ⟨⟨a1,a2,a3,a4,a5,a6,a7⟩,n4⟩
    exact ⟨n4,⟨a1,a2,a3⟩,a4,a5,fun h=>absurd h h1,fun h=>absurd h h2⟩
   ·rintro ⟨n4,⟨a1,a2,a3⟩,a4,a5,a6,a7⟩
    exact ⟨⟨a1,a2,a3,a4,a5,fun h=>absurd h h1,fun h=>absurd h h2⟩,n4⟩
theorem GoodTo.succ {l:List Nd} {j:Nat} {x:Nd} (hx:l[j]? =some x):GoodTo l (j+1)↔GoodTo l j/\okN j x/\(us x++usL (l.take j)).Nodup:=by
 have e:l.take (j+1)=l.take j++[x]:=by rw [List.take_add_one,hx];rfl
 constructor
 ·rintro ⟨h1,h2⟩
  rw [e,ja] at h2
  exact ⟨⟨fun i y hi hy=>h1 i y (by omega) hy,(List.nodup_append.1 h2).2.1⟩,h1 j x (by omega) hx,h2⟩
 ·rintro ⟨⟨h1,h2⟩,h3,h4⟩
  refine ⟨fun i y hi hy=> ?_,by rw [e,ja];exact h4⟩
  by_cases hij:i=j
  ·subst hij
   rw [hx] at hy
   cases hy
   exact h3
  ·exact h1 i y (by omega) hy
theorem GoodL_iff (l:List Nd):GoodL l↔GoodTo l l.length/\(∀i:Nat,i+1<l.length->(i:Int)∈usL l)/\l≠[]:=by
 constructor
 ·rintro ⟨h1,h2,h3,h4⟩
  exact ⟨⟨fun i x _ hx=>h2 i x hx,by rw [List.take_length];exact h3⟩,h4,h1⟩
 ·rintro ⟨⟨h2,h3⟩,h4,h1⟩
  rw [List.take_length] at h3
  exact ⟨h1,fun i x hx=>h2 i x (by have:=(List.getElem?_eq_some_iff.1 hx).1;omega) hx,h3,h4⟩
theorem xr {l:List Nd} (hl:l.length<=512) (h:¬GoodL l):fh l=40:=by unfold fh;rw [if_neg (by omega),if_neg h]
theorem tf {l:List Nd} (hl:l.length<=512) (h:GoodL l):fh l=0:=by unfold fh;rw [if_neg (by omega),if_pos h]
section
variable {F:PH}
theorem mR {s:Sl} {l:List Nd} (hs:RdS F s 5 (dG l)):ae prog 150 #[s.v] F fun r F'=>r=vi (fh l)/\F.le F':=by
 have hlen:=hs.nlen
 refine Qu ?_
 unfold Kv
 refine ⟨fun h=>⟨?_,le_refl' F⟩,fun h=> ?_⟩
 ·have e:fh l=2:=by unfold fh;rw [if_pos (by omega)]
  rw [e]
 have hl:l.length<=512:=by omega
 refine bU underlying265 Qn Qo rfl (by omega) (Int.le_refl _) (by omega) (by omega) ?_
 intro u hu
 rw [zc1 _ rfl,Int.toNat_natCast,hlen]
 have em:(List.replicate l.length (Value.bool false)).toArray=(gE l.length []).toArray:=by
  congr 1
  apply List.ext_getElem?
  intro j
  by_cases hj:j<l.length
  ·simp [gE,hj]
  ·rw [List.getElem?_eq_none (by simp;omega),List.getElem?_eq_none (by simp [gE];omega)]
 rw [em]
 refine ⟨_,rfl,fun b3 hb3=> ?_⟩
 refine atI ?_
 have hne:u≠b3:=fun e=>by rw [e,an] at hb3;cases hb3
 have hb3F:F b3=none:=by rwa [az _ _ hne.symm] at hb3
 refine st1 (an _ _ _) (by simp) ?_
 rw [aR]
 have hU:Usd F ((F.set u (.cells (gE l.length []).toArray 4)).set b3 (.cells #[Sl.v ⟨some ⟨u,0,none⟩,l.length,l.length⟩] 265)) b3 u l.length []:=
  ⟨hb3F,hu,aw (ac _ hu) hb3F,hne,an _ _ _,by rw [az _ _ hne];exact an _ _ _⟩
 show ∃(I2:Nat->Int->PH->Prop) (m2:Nat),_
 have e0:(#[Value.slice Option.none 0 0]:Array Value).setIfInBounds 0 (Sl.v ⟨some ⟨u,0,none⟩,l.length,l.length⟩)= #[Sl.v ⟨some ⟨u,0,none⟩,l.length,l.length⟩]:=rfl
 rw [e0]
 generalize (F.set u (.cells (gE l.length []).toArray 4)).set b3 (.cells #[Sl.v ⟨some ⟨u,0,none⟩,l.length,l.length⟩] 265)=F1 at*
 have bad:∀{F':PH},¬GoodL l->F.le F'->vi 40=vi (fh l)/\F.le F':=fun h hl'=>⟨by rw [xr hl h],hl'⟩
 refine ⟨fun m i F'=>∃j:Nat,i=j/\j<=l.length/\m=l.length - j/\GoodTo l j/\Usd F F' b3 u l.length (usL (l.take j)),l.length,⟨0,rfl,by omega,rfl,GoodTo.zero l,by simpa [usL] using hU⟩,?_⟩
 rintro _ _ F2 ⟨j,rfl,hj,rfl,hg,hW⟩
 unfold A9
 refine ⟨fun hlt=> ?_,fun hge=> ?_⟩
 ·have hjl:j<l.length:=by omega
  have hx:l[j]? =some l[j]:=List.getElem?_eq_getElem hjl
  generalize l[j]=x at hx
  obtain ⟨a,ha,hrow⟩:=rdn (hs.le hW.le) hx
  refine ⟨a,ha,by omega,by omega,x.arr,rfl,hrow,fun b6 hb6=> ?_⟩
  refine atI ?_
  refine stW (an _ _ _) rfl rfl (dJ x) ?_
  rw [aR]
  have hub:u≠b6:=aG hb6 hW.qu
  have hW6:Usd F (F2.set b6 (.cells x.arr 97)) b3 u l.length (usL (l.take j)):=⟨hW.zb,hW.zu,aw hW.le (aV hW.le hb6),hW.ne,by rw [az _ _ (aG hb6 hW.qb)];exact hW.qb,by rw [az _ _ hub];exact hW.qu⟩
  have q6:=an F2 b6 (.cells x.arr 97)
  generalize F2.set b6 (.cells x.arr 97)=F3 at*
  have j4:∀ok:Bool,(ok=true↔(0<=ar x.k/\(x.k=1->0<=x.lo/\x.lo<=x.hi/\x.hi<=255)/\(x.k≠1->x.lo=0/\x.hi=0)))->
    fC (fun y2_0 F=>∃m',m'<l.length - j/\∃j:Nat,y2_0=j/\j<=l.length/\m'=l.length - j/\GoodTo l j/\Usd _ F b3 u l.length (usL (l.take j))) s b3 j b6 (ar x.k) ok (fun r F'=>r=vi (fh l)/\PH.le _ F') F3:=fun ok hok=>by
   refine Gq hW6 q6 (by omega) hub (fun hn F' hl'=>bad (fun hG=>hn ?_) hl') fun hy F' hU'=> ?_
   ·obtain ⟨hgt,_,_⟩:=(GoodL_iff l).1 hG
    have h1:GoodTo l (j+1):=⟨fun i y hi hy=>hgt.ok i y (by omega) hy,by
     have:=hgt.nd
     rw [List.take_length] at this
     have e:usL l=usL (l.drop (j+1))++usL (l.take (j+1))\/True:=.inr trivial
     have hsub:∀(p q:List Nd),usL (p++q)=usL q++usL p:=by
      intro p q
      induction p with
      |nil=>simp [usL]
      |cons y p ih=>simp [usL,ih]
     rw [<- List.take_append_drop (j+1) l,hsub] at this
     exact (List.nodup_append.1 this).2.1⟩
    obtain ⟨_,h3⟩:=(GoodTo.succ hx).1 h1
    obtain ⟨h4,h5,h6⟩:=xq.1 h3
    exact ⟨hok.2 h5,h6⟩
   ·refine ⟨l.length - (j+1),by omega,j+1,fd (by omega),hjl,rfl,?_,?_⟩
    ·exact (GoodTo.succ hx).2 ⟨hg,xq.2 ⟨hg.nd,hok.1 hy.1,hy.2⟩⟩
    ·rw [List.take_add_one,hx]
     show Usd F F' b3 u l.length (usL (l.take j++[x]))
     rw [ja]
     exact hU'
  have c0:F3.cell (Addr.mk b6 0 none)=some (vi x.k):=by rw [am q6];rfl
  have c1:F3.cell (Addr.mk b6 1 none)=some (vi x.lo):=by rw [am q6];rfl
  have c2:F3.cell (Addr.mk b6 2 none)=some (vi x.hi):=by rw [am q6];rfl
  have a1:x.k=1->ar x.k=0:=fun h=>by unfold ar;rw [if_neg (by omega),if_neg (by omega),if_pos (by omega)]
  refine ⟨_,c0,?_⟩
  refine (yO _).mono ?_
  rintro _ F3' ⟨rfl,e⟩
  obtain rfl:=e.symm
  refine ⟨_,rfl,_,c0,fun h1=>⟨_,c1,fun h2=>⟨_,c1,_,c2,fun h3=>⟨_,c2,j4 _ ?_⟩,fun h3=>j4 _ ?_⟩,fun h2=>j4 _ ?_⟩,fun h1=>⟨_,c1,fun h2=>j4 _ ?_,fun h2=>⟨_,c2,fun h3=>j4 _ ?_,fun h3=>j4 _ ?_⟩⟩⟩
  ·have:=a1 h1
   rw [decide_eq_true_eq]
   exact ⟨fun h=>⟨by omega,fun _=>⟨h2,h3,h⟩,fun h=>absurd h1 h⟩,fun h=>(h.2.1 h1).2.2⟩
  ·exact ⟨fun h=>(by cases h),fun h=>absurd (h.2.1 h1).2.1 h3⟩
  ·exact ⟨fun h=>(by cases h),fun h=>absurd (h.2.1 h1).1 h2⟩
  ·exact ⟨fun h=>(by cases h),fun h=>absurd (h.2.2 h1).1 h2⟩
  ·exact ⟨fun h=>(by cases h),fun h=>absurd (h.2.2 h1).2 h3⟩
  ·rw [decide_eq_true_eq]
   exact ⟨fun h=>⟨h,fun h=>absurd h h1,fun _=>⟨by omega,by omega⟩⟩,fun h=>h.1⟩
 ·obtain rfl:j=l.length:=by omega
  rw [List.take_length] at hW
  unfold A8
  have ew:IntKind.i64.wrap ((s.len:Int) - 1)=(l.length:Int) - 1:=by rw [hlen,aN (by omega) (by omega)]
  refine ⟨fun m i F'=>∃j:Nat,i=j/\j<=l.length/\m=l.length - j/\F'=F2/\∀i:Nat,i<j->(i:Int)∈usL l,l.length,⟨0,rfl,by omega,rfl,rfl,fun i hi=>by omega⟩,?_⟩
  rintro _ _ F3 ⟨j,rfl,hj',rfl,e3,hall⟩
  obtain rfl:=e3.symm
  unfold A7
  rw [ew]
  refine ⟨fun hlt=> ?_,fun hge=> ?_⟩
  ·have hjl:j<l.length:=by omega
   have hr:F2.cell ((Addr.mk u 0 none).add (Int.toNat (j:Int)*1))=some (.bool (decide ((j:Int)∈usL l))):=by
    rw [Int.toNat_natCast,Nat.mul_one,show (Addr.mk u 0 none).add j=⟨u,j,none⟩ by simp [Addr.add,Nat.zero_add];omega,am hW.qu]
    exact te hjl
   refine ⟨_,by rw [am hW.qb];rfl,_,rfl,by omega,by simp only;omega,_,hr,fun hm=>bad (fun hG=> ?_) hW.le,fun hm=>⟨l.length - (j+1),by omega,j+1,fd (by omega),hjl,rfl,rfl,fun i hi=> ?_⟩⟩
   ·have:=hG.all j (by omega)
    simp [this] at hm
   ·by_cases hij:i=j
    ·subst hij
     simpa using hm
    ·exact hall i (by omega)
  ·unfold A6
   refine ⟨fun h0=>bad (fun hG=>hG.ne (List.length_eq_zero_iff.1 (by omega))) hW.le,fun h0=>⟨?_,hW.le⟩⟩
   rw [tf hl ((GoodL_iff l).2 ⟨hg,fun i hi=>hall i (by omega),fun e=>by rw [e] at hlen;simp at hlen;omega⟩)]
end
def Par (l:List Nd) (j k:Nat):Prop:=∃x,l[k]? =some x/\(j:Int)∈us x
inductive Up (l:List Nd):Nat->Nat->Prop where
 |refl (j:Nat):Up l j j
 |step {j k m:Nat}:Up l j k->Par l k m->Up l j m
inductive cu (l:List Nd):Nat->Lt->List Nat->Prop where
 |emp {i:Nat} {x:Nd}:l[i]? =some x->x.k=0->cu l i .emp [i]
 |rng {i lo hi:Nat} {x:Nd}:l[i]? =some x->x.k=1->x.lo=lo->x.hi=hi->lo<=hi->hi<=255->cu l i (.rng i lo hi) [i]
 |seq {i a b:Nat} {x:Nd} {t u:Lt} {na nb:List Nat}:l[i]? =some x->x.k=2->x.a=a->x.b=b->cu l a t na->cu l b u nb->cu l i (.seq t u) (i::na++nb)
 |alt {i a b:Nat} {x:Nd} {t u:Lt} {na nb:List Nat}:l[i]? =some x->x.k=3->x.a=a->x.b=b->cu l a t na->cu l b u nb->cu l i (.alt t u) (i::na++nb)
 |rep {i a:Nat} {x:Nd} {t:Lt} {na:List Nat}:l[i]? =some x->x.k=4->x.a=a->cu l a t na->cu l i (.rep t) (i::na)
theorem ic {x:Nd} (h:x.k=2\/x.k=3):us x=[x.b,x.a]:=by
 have:ar x.k=2:=by unfold ar;rw [if_neg (by omega),if_pos h]
 unfold us
 rw [this]
 rfl
theorem Gs {x:Nd} (h:x.k=4):us x=[x.a]:=by
 have:ar x.k=1:=by unfold ar;rw [if_pos h]
 unfold us
 rw [this]
 rfl
theorem qI {k:Int} (h:0<=ar k):k=0\/k=1\/k=2\/k=3\/k=4:=by
 unfold ar at h
 split at h
 ·omega
 ·split at h
  ·omega
  ·split at h<;>omega
theorem uJ {k:Int} (h:k=2\/k=3):ar k=2:=by unfold ar;rw [if_neg (by omega),if_pos h]
theorem Gt {k:Int} (h:k=4):ar k=1:=by unfold ar;rw [if_pos h]
theorem A4 {k:Int} (h:k=0\/k=1):ar k=0:=by unfold ar;rw [if_neg (by omega),if_neg (by omega),if_pos h]
section
variable {l:List Nd} (hG:GoodL l)
include hG
theorem A5:∀(n i:Nat),i<n->i<l.length->∃t ns,cu l i t ns:=by
 intro n
 induction n with
 |zero=>intro i h;omega
 |succ n ih=>
  intro i hi hl
  have hx:=List.getElem?_eq_getElem hl
  have ho:=hG.ok i _ hx
  generalize l[i]=x at hx ho
  obtain ⟨h0,h1,h2,h3,h4,h5,h6⟩:=ho
  rcases qI h0 with hk|hk|hk|hk|hk
  ·exact ⟨_,_,.emp hx hk⟩
  ·obtain ⟨a,b,c⟩:=h1 hk
   exact ⟨_,_,.rng (lo:=x.lo.toNat) (hi:=x.hi.toNat) hx hk (by omega) (by omega) (by omega) (by omega)⟩
  ·have e:=uJ (k:=x.k) (.inl hk)
   obtain ⟨a1,a2⟩:=h5 (by omega)
   obtain ⟨b1,b2⟩:=h6 (by omega)
   obtain ⟨t,na,ht⟩:=ih x.a.toNat (by omega) (by omega)
   obtain ⟨u,nb,hu⟩:=ih x.b.toNat (by omega) (by omega)
   exact ⟨_,_,.seq hx hk (by omega) (by omega) ht hu⟩
  ·have e:=uJ (k:=x.k) (.inr hk)
   obtain ⟨a1,a2⟩:=h5 (by omega)
   obtain ⟨b1,b2⟩:=h6 (by omega)
   obtain ⟨t,na,ht⟩:=ih x.a.toNat (by omega) (by omega)
   obtain ⟨u,nb,hu⟩:=ih x.b.toNat (by omega) (by omega)
   exact ⟨_,_,.alt hx hk (by omega) (by omega) ht hu⟩
  ·have e:=Gt (k:=x.k) hk
   obtain ⟨a1,a2⟩:=h5 (by omega)
   obtain ⟨t,na,ht⟩:=ih x.a.toNat (by omega) (by omega)
   exact ⟨_,_,.rep hx hk (by omega) ht⟩
theorem Par.lt {j k:Nat} (h:Par l j k):j<k/\k<l.length:=by
 obtain ⟨x,hx,hm⟩:=h
 have hlt:=(List.getElem?_eq_some_iff.1 hx).1
 obtain ⟨h0,h1,h2,h3,h4,h5,h6⟩:=hG.ok k x hx
 rcases qI h0 with hk|hk|hk|hk|hk
 ·have e:=A4 (k:=x.k) (.inl hk)
  unfold us at hm
  rw [e] at hm
  simp at hm
 ·have e:=A4 (k:=x.k) (.inr hk)
  unfold us at hm
  rw [e] at hm
  simp at hm
 ·have e:=uJ (k:=x.k) (.inl hk)
  rw [ic (.inl hk)] at hm
  have:=h5 (by omega)
  have:=h6 (by omega)
  simp at hm
  omega
 ·have e:=uJ (k:=x.k) (.inr hk)
  rw [ic (.inr hk)] at hm
  have:=h5 (by omega)
  have:=h6 (by omega)
  simp at hm
  omega
 ·have e:=Gt (k:=x.k) hk
  rw [Gs hk] at hm
  have:=h5 (by omega)
  simp at hm
  omega
omit hG in
theorem uK {j:Int}:∀(l:List Nd) {k:Nat} {x:Nd},l[k]? =some x->j∈us x->j∈usL l
 |y::l,0,x,h,hm=>by
  simp at h
  subst h
  simp [usL,hm]
 |y::l,k+1,x,h,hm=>by
  simp at h
  simp only [usL,List.mem_append]
  exact .inl (uK l h hm)
omit hG in
theorem xu {j:Int}:∀(l:List Nd),(usL l).Nodup->∀{k m:Nat} {x y:Nd},l[k]? =some x->l[m]? =some y->j∈us x->j∈us y->k=m
 |z::l,hn,0,0,x,y,h1,h2,h3,h4=>rfl
 |z::l,hn,0,m+1,x,y,h1,h2,h3,h4=>by
  simp at h1 h2
  subst h1
  rw [usL] at hn
  exact absurd rfl ((List.nodup_append.1 hn).2.2 j (uK l h2 h4) j h3)
 |z::l,hn,k+1,0,x,y,h1,h2,h3,h4=>by
  simp at h1 h2
  subst h2
  rw [usL] at hn
  exact absurd rfl ((List.nodup_append.1 hn).2.2 j (uK l h1 h3) j h4)
 |z::l,hn,k+1,m+1,x,y,h1,h2,h3,h4=>by
  simp at h1 h2
  rw [usL] at hn
  rw [xu l (List.nodup_append.1 hn).1 h1 h2 h3 h4]
theorem Par.uniq {j k m:Nat} (h1:Par l j k) (h2:Par l j m):k=m:=by
 obtain ⟨x,hx,hm⟩:=h1
 obtain ⟨y,hy,hn⟩:=h2
 exact xu l hG.nd hx hy hm hn
omit hG in
theorem Up.trans {j k m:Nat} (h1:Up l j k) (h2:Up l k m):Up l j m:=by
 induction h2 with
 |refl=>exact h1
 |step _ h ih=>exact ih.step h
omit hG in
theorem Up.head {j m:Nat} (h:Up l j m):j=m\/∃k,Par l j k/\Up l k m:=by
 induction h with
 |refl=>exact .inl rfl
 | @step k m h hp ih=>
  rcases ih with rfl|⟨c,h1,h2⟩
  ·exact .inr ⟨m,hp,.refl m⟩
  ·exact .inr ⟨c,h1,h2.step hp⟩
theorem Up.le {j m:Nat} (h:Up l j m):j<=m:=by
 induction h with
 |refl=>exact Nat.le_refl _
 |step _ hp ih=>have:=hp.lt hG;omega
theorem Up.chain {j a b:Nat} (ha:Up l j a) (hb:Up l j b):Up l a b\/Up l b a:=by
 induction ha with
 |refl=>exact .inl hb
 | @step k m h hp ih=>
  rcases ih with h1|h1
  ·rcases h1.head with rfl|⟨c,h2,h3⟩
   ·exact .inr ((Up.refl k).step hp)
   ·rw [h2.uniq hG hp] at h3
    exact .inl h3
  ·exact .inr (h1.step hp)
omit hG in
theorem nW {i:Nat} {t:Lt} {ns:List Nat} (h:cu l i t ns):∀j∈ns,Up l j i:=by
 induction h with
 | @emp i x hx hk=>intro j hj;simp at hj;subst hj;exact .refl _
 | @rng i lo hi x hx hk _ _ _ _=>intro j hj;simp at hj;subst hj;exact .refl _
 | @seq i a b x t u na nb hx hk ha hb h1 h2 i1 i2=>
  intro j hj
  simp only [List.cons_append,List.mem_cons,List.mem_append] at hj
  rcases hj with rfl|hj|hj
  ·exact .refl _
  ·exact (i1 j hj).step ⟨x,hx,by rw [ic (.inl hk),ha];simp⟩
  ·exact (i2 j hj).step ⟨x,hx,by rw [ic (.inl hk),hb];simp⟩
 | @alt i a b x t u na nb hx hk ha hb h1 h2 i1 i2=>
  intro j hj
  simp only [List.cons_append,List.mem_cons,List.mem_append] at hj
  rcases hj with rfl|hj|hj
  ·exact .refl _
  ·exact (i1 j hj).step ⟨x,hx,by rw [ic (.inr hk),ha];simp⟩
  ·exact (i2 j hj).step ⟨x,hx,by rw [ic (.inr hk),hb];simp⟩
 | @rep i a x t na hx hk ha h1 i1=>
  intro j hj
  simp only [List.mem_cons] at hj
  rcases hj with rfl|hj
  ·exact .refl _
  ·exact (i1 j hj).step ⟨x,hx,by rw [Gs hk,ha];simp⟩
theorem Qp {i a b:Nat} {x:Nd} (hx:l[i]? =some x) (hk:x.k=2\/x.k=3) (ha:x.a=a) (hb:x.b=b):a≠b:=by
 intro e
 have hn:=hG.nd
 have hsub:∀(l:List Nd) (i:Nat),l[i]? =some x->(usL l).Nodup->(us x).Nodup:=by
  intro l
  induction l with
  |nil=>intro i h;simp at h
  |cons y l ih=>
   intro i h hn
   rw [usL] at hn
   cases i with
   |zero=>
    simp at h
    subst h
    exact (List.nodup_append.1 hn).2.1
   |succ i=>
    simp at h
    exact ih i h (List.nodup_append.1 hn).1
 have:=hsub l i hx hn
 rw [ic hk,ha,hb,e] at this
 simp at this
theorem Kt {i a b j:Nat} {x:Nd} (hx:l[i]? =some x) (hk:x.k=2\/x.k=3) (ha:x.a=a) (hb:x.b=b) (h1:Up l j a) (h2:Up l j b):False:=by
 have pa:Par l a i:=⟨x,hx,by rw [ic hk,ha];simp⟩
 have pb:Par l b i:=⟨x,hx,by rw [ic hk,hb];simp⟩
 have hne:=Qp hG hx hk ha hb
 rcases h1.chain hG h2 with h|h
 ·rcases h.head with e|⟨c,h3,h4⟩
  ·exact hne e
  ·rw [h3.uniq hG pa] at h4
   have:=h4.le hG
   have:=pb.lt hG
   omega
 ·rcases h.head with e|⟨c,h3,h4⟩
  ·exact hne e.symm
  ·rw [h3.uniq hG pb] at h4
   have:=h4.le hG
   have:=pa.lt hG
   omega
end
end Go.Proofs.YtenpmjhnhepfdaaGreatDoor
