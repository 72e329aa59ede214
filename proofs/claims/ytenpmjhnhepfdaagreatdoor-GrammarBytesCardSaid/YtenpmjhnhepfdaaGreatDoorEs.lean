/-
  The diagrams: equality of the reference; results by meaning; local variables that hold diagrams.
-/
import Derived.Test.YtenpmjhnhepfdaaGreatDoorPhp
import Derived.Test.YtenpmjhnhepfdaaGreatDoorPhz
import Derived.Test.YtenpmjhnhepfdaaGreatDoorEr
namespace Go.Proofs.YtenpmjhnhepfdaaGreatDoor
open Go Go.Proofs.Tryz
variable {R:VR} {F:PH}
set_option maxRecDepth 10000
set_option maxHeartbeats 4000000
def KB (l_0:Sl) (n_1:Int) (R:VR) (F:PH):Prop:=
 Nb F (.cells zD 33) fun b4 F=>
 Ca 106 #[(Sl.v l_0),(.int .i64 (max 0 (min n_1 6))),(.int .i64 0),(.int .i64 0)] F fun v_10 F=>
 aA F (Am b4 0) 2 v_10 fun F=>
 Rr 2 (Am b4 0) R F
theorem Pg {l_0:Sl} {n_1:Int} (h:KB l_0 n_1 R F):ac prog 35 #[(Sl.v l_0),(.int .i64 n_1)] F R:=Rx.sxC (args:=[(Sl.v l_0),(.int .i64 n_1)]) .N (by kernel_rfl) h
def KC (value_0:Bool) (R:VR) (F:PH):Prop:=
 Nb F (.cells zD 33) fun b2 F=>
 (Bb (value_0) (
  aA F (Am b2 0) 2 (#[.slice none 0 0,(.int .i64 1)]:Array Value) fun F=>
  Rr 2 (Am b2 0) R F) (
  aA F (Am b2 0) 2 zD fun F=>
  Rr 2 (Am b2 0) R F))
theorem Ph {value_0:Bool} (h:KC value_0 R F):ac prog 89 #[(.bool value_0)] F R:=Rx.sxC (args:=[(.bool value_0)]) .N (by kernel_rfl) h
def KD (a_0:Array Value) (R:VR) (F:PH):Prop:=
 Nb F (.cells a_0 33) fun b1 F=>
 Nb F (.cells zD 33) fun b2 F=>
 Lr F 2 (Am b1 0) fun v_3=>
 Ca 89 #[(.bool true)] F fun v_4 F=>
 F.row (Am b1 0) v_3∧Ca 166 #[(.agg v_3),(.agg v_4),(.int .i64 2)] F fun v_5 F=>
 aA F (Am b2 0) 2 v_5 fun F=>
 Rr 2 (Am b2 0) R F
theorem Pi {a_0:Array Value} (h:KD a_0 R F):ac prog 97 #[(.agg a_0)] F R:=Rx.sxC (args:=[(.agg a_0)]) .N (by kernel_rfl) h
def BA (l_0:Sl) (n_1 v_2 k_3:Int) (R:VR) (F:PH):Prop:=
 Nb F (.cells zD 33) fun b8 F=>
 (Bc (v_2=n_1) (
  (Bc ((IntKind.i64.wrap (Int.tdiv k_3 8))<(l_0.len:Int)) (
   Ix l_0 (IntKind.i64.wrap (Int.tdiv k_3 8)) fun a23_=>
   ∃v_24,F.cell (Addr.add a23_ (Int.toNat (IntKind.i64.wrap (Int.tdiv k_3 8))*1))=some (.int .u8 v_24)∧
   0≤(IntKind.u64.wrap (Int.tmod k_3 8))∧Ca 89 #[(.bool (decide ((IntKind.u8.wrap ((BitVec.ofInt (IntKind.u8).bits (Int.fdiv v_24 (2 ^ (min (Int.toNat (IntKind.u64.wrap (Int.tmod k_3 8))) (IntKind.u8).bits))) &&& BitVec.ofInt (IntKind.u8).bits 1).toNat))=1)))] F fun v_32 F=>
   aA F (Am b8 0) 2 v_32 fun F=>
   Rr 2 (Am b8 0) R F) (
   Ca 89 #[(.bool false)] F fun v_32_1 F=>
   aA F (Am b8 0) 2 v_32_1 fun F=>
   Rr 2 (Am b8 0) R F))) (
  ac prog 165 #[(.int .i64 v_2)] F fun v F=>∃v_35,∃v_35_1,v=(.tuple #[(.agg v_35),(.int .i64 v_35_1)])∧
  Nb F (.cells zD 33) fun b9 F=>
  aA F (Am b9 0) 2 v_35 fun F=>
  Lr F 2 (Am b9 0) fun v_38=>
  0≤(IntKind.u64.wrap v_2)∧Lr F 2 (Am b9 0) fun v_56=>
  Ca 106 #[(Sl.v l_0),(.int .i64 n_1),(.int .i64 (IntKind.i64.wrap (v_2+1))),(.int .i64 (IntKind.i64.wrap (k_3+(IntKind.i64.wrap (1*2 ^ (min (Int.toNat (IntKind.u64.wrap v_2)) (IntKind.i64).bits))))))] F fun v_48 F=>
  F.row (Am b9 0) v_56∧F.row (Am b9 0) v_38∧Ca 170 #[(.agg v_38),(.agg v_48)] F fun v_49 F=>
  F.row (Am b9 0) v_56∧Ca 106 #[(Sl.v l_0),(.int .i64 n_1),(.int .i64 (IntKind.i64.wrap (v_2+1))),(.int .i64 k_3)] F fun v_55 F=>
  F.row (Am b9 0) v_56∧Ca 171 #[(.agg v_55),(.agg v_56)] F fun v_57 F=>
  Ca 169 #[(.agg v_49),(.agg v_57)] F fun v_58 F=>
  aA F (Am b8 0) 2 v_58 fun F=>
  Rr 2 (Am b8 0) R F))
theorem FE {l_0:Sl} {n_1:Int} {v_2:Int} {k_3:Int} (h:BA l_0 n_1 v_2 k_3 R F):ac prog 106 #[(Sl.v l_0),(.int .i64 n_1),(.int .i64 v_2),(.int .i64 k_3)] F R:=Rx.sxC (args:=[(Sl.v l_0),(.int .i64 n_1),(.int .i64 v_2),(.int .i64 k_3)]) .N (by kernel_rfl) h
def jU (v_0:Int) (b2:Nat) (v_9:Bool) (R:VR) (F:PH):Prop:=
 (Bb (v_9) (
  aA F (Am b2 0) 2 zD fun F=>
  Lr F 2 (Am b2 0) fun vres_2=>R (.tuple #[(.agg vres_2),(.int .i64 1)]) F) (
  (#[(.int .i64 v_0),(.int .i64 0),(.int .i64 1)]:Array Value).size=3∧Nb F (.cells (#[(.int .i64 v_0),(.int .i64 0),(.int .i64 1)]:Array Value) 103) fun b13 F=>
  aA F (Am b2 0) 2 (#[(Sl.v (Sb b13 1)),(.int .i64 2)]:Array Value) fun F=>
  Lr F 2 (Am b2 0) fun vres_2_1=>R (.tuple #[(.agg vres_2_1),(.int .i64 0)]) F))
def FF (v_0:Int) (R:VR) (F:PH):Prop:=
 Nb F (.cells zD 33) fun b2 F=>
 (Bc (v_0<0) (
  jU v_0 b2 true R F) (
  jU v_0 b2 (decide (63<v_0)) R F))
theorem KE {v_0:Int} (h:FF v_0 R F):ac prog 165 #[(.int .i64 v_0)] F R:=Rx.sxC (args:=[(.int .i64 v_0)]) (.T .N (.T (.J false [(9,.bool)] .N .N) .N)) (by kernel_rfl) h
def FG (a_0 b_1:Array Value) (op_2:Int) (R:VR) (F:PH):Prop:=
 Nb F (.cells a_0 33) fun b3 F=>
 Nb F (.cells b_1 33) fun b4 F=>
 Nb F (.cells zD 33) fun b6 F=>
 Lr F 2 (Am b3 0) fun v_9=>
 Lr F 2 (Am b4 0) fun v_10=>
 v_9.size=2∧v_10.size=2∧Nb F (.cells (Array.setIfInBounds (wr (wr (#[.slice none 0 0,.int .i64 0,.slice none 0 0,.int .i64 0,.int .i64 0,.slice none 0 0,.slice none 0 0]:Array Value) 0 v_9.toList) 2 v_10.toList) 4 (.int .i64 op_2)) 296) fun b13 F=>
 Li F (Am b3 1) fun v_16=>
 Li F (Am b4 1) fun v_18=>
 Ci 213 #[(.pointer (some (Am b13 0))),(.int .i64 v_16),(.int .i64 v_18)] F fun v_19 F=>
 Ls F (Am b13 5) fun v_23=>
 Ca 214 #[(Sl.v v_23),(.int .i64 v_19)] F fun v_25 F=>
 aA F (Am b6 0) 2 v_25 fun F=>
 Rr 2 (Am b6 0) R F
theorem KG {a_0:Array Value} {b_1:Array Value} {op_2:Int} (h:FG a_0 b_1 op_2 R F):ac prog 166 #[(.agg a_0),(.agg b_1),(.int .i64 op_2)] F R:=Rx.sxC (args:=[(.agg a_0),(.agg b_1),(.int .i64 op_2)]) .N (by kernel_rfl) h
def FH (a_0 b_1:Array Value) (R:VR) (F:PH):Prop:=
 Nb F (.cells a_0 33) fun b2 F=>
 Nb F (.cells b_1 33) fun b3 F=>
 Nb F (.cells zD 33) fun b4 F=>
 Lr F 2 (Am b2 0) fun v_5=>
 Lr F 2 (Am b3 0) fun v_6=>
 Ca 166 #[(.agg v_5),(.agg v_6),(.int .i64 1)] F fun v_7 F=>
 aA F (Am b4 0) 2 v_7 fun F=>
 Rr 2 (Am b4 0) R F
theorem KH {a_0:Array Value} {b_1:Array Value} (h:FH a_0 b_1 R F):ac prog 169 #[(.agg a_0),(.agg b_1)] F R:=Rx.sxC (args:=[(.agg a_0),(.agg b_1)]) .N (by kernel_rfl) h
def FI (a_0 b_1:Array Value) (R:VR) (F:PH):Prop:=
 Nb F (.cells a_0 33) fun b2 F=>
 Nb F (.cells b_1 33) fun b3 F=>
 Nb F (.cells zD 33) fun b4 F=>
 Lr F 2 (Am b2 0) fun v_5=>
 Lr F 2 (Am b3 0) fun v_6=>
 Ca 166 #[(.agg v_5),(.agg v_6),(.int .i64 0)] F fun v_7 F=>
 aA F (Am b4 0) 2 v_7 fun F=>
 Rr 2 (Am b4 0) R F
theorem KI {a_0:Array Value} {b_1:Array Value} (h:FI a_0 b_1 R F):ac prog 170 #[(.agg a_0),(.agg b_1)] F R:=Rx.sxC (args:=[(.agg a_0),(.agg b_1)]) .N (by kernel_rfl) h
def FJ (a_0 b_1:Array Value) (R:VR) (F:PH):Prop:=
 Nb F (.cells a_0 33) fun b2 F=>
 Nb F (.cells b_1 33) fun b3 F=>
 Nb F (.cells zD 33) fun b4 F=>
 Lr F 2 (Am b2 0) fun v_5=>
 Lr F 2 (Am b3 0) fun v_6=>
 Ca 97 #[(.agg v_6)] F fun v_7 F=>
 F.row (Am b2 0) v_5∧Ca 170 #[(.agg v_5),(.agg v_7)] F fun v_8 F=>
 aA F (Am b4 0) 2 v_8 fun F=>
 Rr 2 (Am b4 0) R F
theorem KJ {a_0:Array Value} {b_1:Array Value} (h:FJ a_0 b_1 R F):ac prog 171 #[(.agg a_0),(.agg b_1)] F R:=Rx.sxC (args:=[(.agg a_0),(.agg b_1)]) .N (by kernel_rfl) h
def sq (p_0:Option Addr) (x_1 y_2:Int) (R:VR) (F:PH):Prop:=
 ∃p0a_,p_0=some p0a_∧Lr F 2 p0a_ fun v_69=>
 Lr F 2 (Addr.add p0a_ 2) fun v_75=>
 Ci 231 #[(.agg v_69),(.int .i64 x_1)] F fun v_71 F=>
 F.row (Addr.add p0a_ 2) v_75∧Ci 231 #[(.agg v_75),(.int .i64 y_2)] F fun v_77 F=>
 Lr F 2 p0a_ fun v_83=>
 ac prog 232 #[(.agg v_83),(.int .i64 x_1),(.int .i64 (min v_71 v_77))] F fun v F=>∃v_86,∃v_86_1,v=(.tuple #[(.int .i64 v_86),(.int .i64 v_86_1)])∧
 Lr F 2 (Addr.add p0a_ 2) fun v_93=>
 ac prog 232 #[(.agg v_93),(.int .i64 y_2),(.int .i64 (min v_71 v_77))] F fun v F=>∃v_96,∃v_96_1,v=(.tuple #[(.int .i64 v_96),(.int .i64 v_96_1)])∧
 Ci 213 #[(.pointer (some p0a_)),(.int .i64 v_86),(.int .i64 v_96)] F fun v_102 F=>
 Ci 213 #[(.pointer (some p0a_)),(.int .i64 v_86_1),(.int .i64 v_96_1)] F fun v_106 F=>
 Ls F (Addr.add p0a_ 5) fun v_111=>
 ac prog 233 #[(Sl.v v_111),(.agg (#[(.int .i64 (min v_71 v_77)),(.int .i64 v_102),(.int .i64 v_106)]:Array Value))] F fun v F=>∃v_116,∃v_116_1,v=(.tuple #[(Sl.v v_116),(.int .i64 v_116_1)])∧
 sto F (Addr.add p0a_ 5) (Sl.v v_116) fun F=>
 Ls F (Addr.add p0a_ 6) fun v_127=>
 (#[(.int .i64 x_1),(.int .i64 y_2),(.int .i64 v_116_1)]:Array Value).size=3∧Nb F (.cells (#[(.int .i64 x_1),(.int .i64 y_2),(.int .i64 v_116_1)]:Array Value) 289) fun b132 F=>
 Ap 294 #[(Sl.v v_127),(Sl.v (Sb b132 1))] F fun v_133 F=>
 sto F (Addr.add p0a_ 6) (Sl.v v_133) fun F=>
 R (.int .i64 v_116_1) F
def mM (N1:Int→PH→Prop) (p0a__1:Addr) (x_1 y_2 i_7:Int) (v_57:Bool) (R:VR) (F:PH):Prop:=
 (Bb (v_57) (
  Ls F (Addr.add p0a__1 6) fun v_61=>
  Ix v_61 i_7 fun a63_=>
  0≤(2:Int)∧(2:Int)<3∧
  Li F (Addr.add (Addr.add a63_ (Int.toNat i_7*3)) (Int.toNat 2*1)) fun v_65=>
  R (.int .i64 v_65) F) (
  N1 (IntKind.i64.wrap (i_7+1)) F))
def xA (N1:Int→PH→Prop) (p_0:Option Addr) (x_1 y_2:Int) (R:VR) (i_7:Int) (F:PH):Prop:=
 ∃p0a__1,p_0=some p0a__1∧Ls F (Addr.add p0a__1 6) fun v_31=>
 (Bc (i_7<(v_31.len:Int)) (
  Ls F (Addr.add p0a__1 6) fun v_39=>
  Ix v_39 i_7 fun a41_=>
  0≤(0:Int)∧(0:Int)<3∧
  Li F (Addr.add (Addr.add a41_ (Int.toNat i_7*3)) (Int.toNat 0*1)) fun v_43=>
  (Bc (v_43=x_1) (
   Ls F (Addr.add p0a__1 6) fun v_50=>
   Ix v_50 i_7 fun a52_=>
   0≤(1:Int)∧(1:Int)<3∧
   Li F (Addr.add (Addr.add a52_ (Int.toNat i_7*3)) (Int.toNat 1*1)) fun v_54=>
   mM N1 p0a__1 x_1 y_2 i_7 (decide (v_54=y_2)) R F) (
   mM N1 p0a__1 x_1 y_2 i_7 false R F))) (
  sq (some p0a__1) x_1 y_2 R F))
def jV (p_0:Option Addr) (x_1 y_2:Int) (v_22:Bool) (R:VR) (F:PH):Prop:=
 (Bb (v_22) (
  Ci 230 #[(.pointer p_0),(.int .i64 x_1),(.int .i64 y_2)] F fun v_26 F=>
  R (.int .i64 v_26) F) (
  (Lp 0 F fun N i_7 F=>
   xA N p_0 x_1 y_2 R i_7 F)))
def FK (p_0:Option Addr) (x_1 y_2:Int) (R:VR) (F:PH):Prop:=
 (Bc (x_1<2) (
  jV p_0 x_1 y_2 (decide (y_2<2)) R F) (
  jV p_0 x_1 y_2 false R F))
theorem KL {p_0:Option Addr} {x_1:Int} {y_2:Int} (h:FK p_0 x_1 y_2 R F):ac prog 213 #[(.pointer p_0),(.int .i64 x_1),(.int .i64 y_2)] F R:=Rx.sxC (args:=[(.pointer p_0),(.int .i64 x_1),(.int .i64 y_2)]) (.T .N (.T (.J false [(22,.bool)] .N .N) (.J false [(0,.ptr)] (.T .N (.L [(7,.int .i64)] (.T .N (.T (.J false [(57,.bool)] .N .N) .N)))) .N))) (by kernel_rfl) h
def FL (nodes_0:Sl) (root_1:Int) (R:VR) (F:PH):Prop:=
 Nb F (.cells zD 33) fun b4 F=>
 aE prog (Instr.makeSlice 70 (.int .i64 (nodes_0.len:Int)) (.int .i64 (nodes_0.len:Int))) F fun v F=>∃v_10,v=(Sl.v v_10)∧
 Nb F (.cells (#[(Sl.v nodes_0),(Sl.v v_10),.slice none 0 0]:Array Value) 313) fun b12 F=>
 Ci 234 #[(.pointer (some (Am b12 0))),(.int .i64 root_1)] F fun v_15 F=>
 Ls F (Am b12 2) fun v_19=>
 aA F (Am b4 0) 2 (#[(Sl.v v_19),(.int .i64 v_15)]:Array Value) fun F=>
 Rr 2 (Am b4 0) R F
theorem KM {nodes_0:Sl} {root_1:Int} (h:FL nodes_0 root_1 R F):ac prog 214 #[(Sl.v nodes_0),(.int .i64 root_1)] F R:=Rx.sxC (args:=[(Sl.v nodes_0),(.int .i64 root_1)]) .N (by kernel_rfl) h
def FM (d_0:Array Value) (R:VR) (F:PH):Prop:=
 Nb F (.cells d_0 33) fun b1 F=>
 Ls F (Am b1 0) fun v_4=>
 (Bc ((4096:Int)<(v_4.len:Int)) (
  R (.int .i64 2) F) (
  Lr F 2 (Am b1 0) fun v_7=>
  Cbo 235 #[(.agg v_7)] F fun v_8 F=>
  (Bb ((!v_8)) (
   R (.int .i64 20) F) (
   R (.int .i64 0) F))))
theorem KN {d_0:Array Value} (h:FM d_0 R F):ac prog 216 #[(.agg d_0)] F R:=Rx.sxC (args:=[(.agg d_0)]) .N (by kernel_rfl) h
def FN (p_0:Option Addr) (x_1 y_2:Int) (R:VR) (F:PH):Prop:=
 ∃p0a_,p_0=some p0a_∧Li F (Addr.add p0a_ 4) fun v_10=>
 (Bc (v_10=0) (
  R (.int .i64 (IntKind.i64.wrap (x_1*y_2))) F) (
  (Bc (v_10=1) (
   R (.int .i64 (max x_1 y_2)) F) (
   R (.int .i64 (Int.tmod (IntKind.i64.wrap (x_1+y_2)) 2)) F))))
theorem KO {p_0:Option Addr} {x_1:Int} {y_2:Int} (h:FN p_0 x_1 y_2 R F):ac prog 230 #[(.pointer p_0),(.int .i64 x_1),(.int .i64 y_2)] F R:=Rx.sxC (args:=[(.pointer p_0),(.int .i64 x_1),(.int .i64 y_2)]) .N (by kernel_rfl) h
def FO (d_0:Array Value) (n_1:Int) (R:VR) (F:PH):Prop:=
 Nb F (.cells d_0 33) fun b2 F=>
 (Bc (n_1<2) (
  R (.int .i64 64) F) (
  Ls F (Am b2 0) fun v_8=>
  Ix v_8 (IntKind.i64.wrap (n_1 - 2)) fun a11_=>
  ∃v_13,F.cell (Addr.add a11_ (Int.toNat (IntKind.i64.wrap (n_1 - 2))*3))=some (.int .i64 v_13)∧
  R (.int .i64 v_13) F))
theorem KP {d_0:Array Value} {n_1:Int} (h:FO d_0 n_1 R F):ac prog 231 #[(.agg d_0),(.int .i64 n_1)] F R:=Rx.sxC (args:=[(.agg d_0),(.int .i64 n_1)]) .N (by kernel_rfl) h
def FP (d_0:Array Value) (n_1 v_2:Int) (R:VR) (F:PH):Prop:=
 Nb F (.cells d_0 33) fun b3 F=>
 Lr F 2 (Am b3 0) fun v_8=>
 Ci 231 #[(.agg v_8),(.int .i64 n_1)] F fun v_10 F=>
 (Bc (v_10≠v_2) (
  R (.tuple #[(.int .i64 n_1),(.int .i64 n_1)]) F) (
  Ls F (Am b3 0) fun v_16=>
  Ix v_16 (IntKind.i64.wrap (n_1 - 2)) fun a19_=>
  ∃v_21,F.cell (Addr.add (Addr.add a19_ (Int.toNat (IntKind.i64.wrap (n_1 - 2))*3)) 1)=some (.int .i64 v_21)∧
  Ls F (Am b3 0) fun v_23=>
  Ix v_23 (IntKind.i64.wrap (n_1 - 2)) fun a26_=>
  ∃v_28,F.cell (Addr.add (Addr.add a26_ (Int.toNat (IntKind.i64.wrap (n_1 - 2))*3)) 2)=some (.int .i64 v_28)∧
  R (.tuple #[(.int .i64 v_21),(.int .i64 v_28)]) F))
theorem KQ {d_0:Array Value} {n_1:Int} {v_2:Int} (h:FP d_0 n_1 v_2 R F):ac prog 232 #[(.agg d_0),(.int .i64 n_1),(.int .i64 v_2)] F R:=Rx.sxC (args:=[(.agg d_0),(.int .i64 n_1),(.int .i64 v_2)]) .N (by kernel_rfl) h
def xB (l_0:Sl) (b3:Nat) (R:VR) (F:PH):Prop:=
 Lr F 3 (Am b3 0) fun v_31=>
 v_31.size=3∧Nb F (.cells v_31 103) fun b32 F=>
 Ap 31 #[(Sl.v l_0),(Sl.v (Sb b32 1))] F fun v_33 F=>
 R (.tuple #[(Sl.v v_33),(.int .i64 (IntKind.i64.wrap ((v_33.len:Int)+1)))]) F
def xC (N1:Int→PH→Prop) (l_0:Sl) (b3:Nat) (R:VR) (i_6:Int) (F:PH):Prop:=
 (Bc (i_6<(l_0.len:Int)) (
  Ix l_0 i_6 fun a23_=>
  Lr F 3 (Addr.add a23_ (Int.toNat i_6*3)) fun v_24=>
  Lr F 3 (Am b3 0) fun v_25=>
  ∃v_26,(∀F,rdo prog (Op.equal 103 (.agg v_24) (.agg v_25)) F v_26)∧
  (Bb (v_26) (
   R (.tuple #[(Sl.v l_0),(.int .i64 (IntKind.i64.wrap (i_6+2)))]) F) (
   N1 (IntKind.i64.wrap (i_6+1)) F))) (
  xB l_0 b3 R F))
def FQ (l_0:Sl) (b_1:Array Value) (R:VR) (F:PH):Prop:=
 Nb F (.cells b_1 103) fun b3 F=>
 Li F (Am b3 1) fun v_8=>
 Li F (Am b3 2) fun v_10=>
 (Bc (v_8=v_10) (
  Li F (Am b3 1) fun v_14=>
  R (.tuple #[(Sl.v l_0),(.int .i64 v_14)]) F) (
  (Lp 0 F fun N i_6 F=>
   xC N l_0 b3 R i_6 F)))
theorem KR {l_0:Sl} {b_1:Array Value} (h:FQ l_0 b_1 R F):ac prog 233 #[(Sl.v l_0),(.agg b_1)] F R:=Rx.sxC (args:=[(Sl.v l_0),(.agg b_1)]) (.T .N (.T .N (.J false [] (.T .N (.L [(6,.int .i64)] .N)) .N))) (by kernel_rfl) h
def BB (w_0:Option Addr) (n_1:Int) (R:VR) (F:PH):Prop:=
 (Bc (n_1<2) (
  R (.int .i64 n_1) F) (
  ∃w0a_,w_0=some w0a_∧Ls F (Addr.add w0a_ 1) fun v_14=>
  Ix v_14 (IntKind.i64.wrap (n_1 - 2)) fun a17_=>
  ∃v_18,F.cell (Addr.add a17_ (Int.toNat (IntKind.i64.wrap (n_1 - 2))*1))=some (.int .i64 v_18)∧
  (Bc (0<v_18) (
   Ls F (Addr.add w0a_ 1) fun v_23=>
   Ix v_23 (IntKind.i64.wrap (n_1 - 2)) fun a26_=>
   ∃v_27,F.cell (Addr.add a26_ (Int.toNat (IntKind.i64.wrap (n_1 - 2))*1))=some (.int .i64 v_27)∧
   R (.int .i64 v_27) F) (
   Ls F w0a_ fun v_31=>
   Ix v_31 (IntKind.i64.wrap (n_1 - 2)) fun a34_=>
   ∃v_35,v_35.size=3∧F.row (Addr.add a34_ (Int.toNat (IntKind.i64.wrap (n_1 - 2))*3)) v_35∧
   Nb F (.cells (#[.int .i64 0,.int .i64 0,.int .i64 0]) 103) fun b5 F=>
   aA F (Am b5 0) 3 v_35 fun F=>
   Li F (Am b5 1) fun v_38=>
   Ci 234 #[(.pointer (some w0a_)),(.int .i64 v_38)] F fun v_39 F=>
   Li F (Am b5 2) fun v_42=>
   Ci 234 #[(.pointer (some w0a_)),(.int .i64 v_42)] F fun v_43 F=>
   Ls F (Addr.add w0a_ 2) fun v_48=>
   Li F (Am b5 0) fun v_50=>
   (#[(.int .i64 v_50),(.int .i64 v_39),(.int .i64 v_43)]:Array Value).size=3∧Nb F (.cells (#[(.int .i64 v_50),(.int .i64 v_39),(.int .i64 v_43)]:Array Value) 103) fun b54 F=>
   Ap 31 #[(Sl.v v_48),(Sl.v (Sb b54 1))] F fun v_55 F=>
   F.cell (Am b5 0)=some (.int .i64 v_50)∧sto F (Addr.add w0a_ 2) (Sl.v v_55) fun F=>
   Ls F (Addr.add w0a_ 1) fun v_61=>
   Ls F (Addr.add w0a_ 2) fun v_67=>
   Ix v_61 (IntKind.i64.wrap (n_1 - 2)) fun a70_=>
   sto F (Addr.add a70_ (Int.toNat (IntKind.i64.wrap (n_1 - 2))*1)) (.int .i64 (IntKind.i64.wrap ((v_67.len:Int)+1))) fun F=>
   Ls F (Addr.add w0a_ 2) fun v_74=>
   R (.int .i64 (IntKind.i64.wrap ((v_74.len:Int)+1))) F))))
theorem FR {w_0:Option Addr} {n_1:Int} (h:BB w_0 n_1 R F):ac prog 234 #[(.pointer w_0),(.int .i64 n_1)] F R:=Rx.sxC (args:=[(.pointer w_0),(.int .i64 n_1)]) .N (by kernel_rfl) h
def xD (b1:Nat) (R:VR) (F:PH):Prop:=
 Lr F 2 (Am b1 0) fun v_27=>
 Ls F (Am b1 0) fun v_29=>
 Li F (Am b1 1) fun v_31=>
 Ca 214 #[(Sl.v v_29),(.int .i64 v_31)] F fun v_32 F=>
 F.row (Am b1 0) v_27∧Cbo 242 #[(.agg v_27),(.agg v_32)] F fun v_33 F=>
 R (.bool v_33) F
def xE (N1:Int→PH→Prop) (b1:Nat) (R:VR) (n_3:Int) (F:PH):Prop:=
 Ls F (Am b1 0) fun v_18=>
 (Bc (n_3<(v_18.len:Int)) (
  Lr F 2 (Am b1 0) fun v_23=>
  Cbo 241 #[(.agg v_23),(.int .i64 n_3)] F fun v_25 F=>
  (Bb ((!v_25)) (
   R (.bool false) F) (
   N1 (IntKind.i64.wrap (n_3+1)) F))) (
  xD b1 R F))
def FS (d_0:Array Value) (R:VR) (F:PH):Prop:=
 Nb F (.cells d_0 33) fun b1 F=>
 Li F (Am b1 1) fun v_5=>
 (Bc (v_5<0) (
  R (.bool false) F) (
  Li F (Am b1 1) fun v_9=>
  Ls F (Am b1 0) fun v_11=>
  (Bc ((IntKind.i64.wrap ((v_11.len:Int)+2))≤v_9) (
   R (.bool false) F) (
   (Lp 0 F fun N n_3 F=>
    xE N b1 R n_3 F)))))
theorem KT {d_0:Array Value} (h:FS d_0 R F):ac prog 235 #[(.agg d_0)] F R:=Rx.sxC (args:=[(.agg d_0)]) (.T .N (.T .N (.J false [] (.T .N (.L [(3,.int .i64)] .N)) .N))) (by kernel_rfl) h
def xF (R:VR) (F:PH):Prop:=
 R (.bool true) F
def xG (N1:Int→PH→Prop) (n_1:Int) (b2 b5:Nat) (R:VR) (i_6:Int) (F:PH):Prop:=
 (Bc (i_6<n_1) (
  Ls F (Am b2 0) fun v_73=>
  Ix v_73 i_6 fun a75_=>
  Lr F 3 (Addr.add a75_ (Int.toNat i_6*3)) fun v_76=>
  Lr F 3 (Am b5 0) fun v_77=>
  ∃v_78,(∀F,rdo prog (Op.equal 103 (.agg v_76) (.agg v_77)) F v_78)∧
  (Bb (v_78) (
   R (.bool false) F) (
   N1 (IntKind.i64.wrap (i_6+1)) F))) (
  xF R F))
def FT (d_0:Array Value) (n_1:Int) (R:VR) (F:PH):Prop:=
 Nb F (.cells d_0 33) fun b2 F=>
 Ls F (Am b2 0) fun v_8=>
 Ix v_8 n_1 fun a10_=>
 Lr F 3 (Addr.add a10_ (Int.toNat n_1*3)) fun v_11=>
 Nb F (.cells (#[.int .i64 0,.int .i64 0,.int .i64 0]) 103) fun b5 F=>
 aA F (Am b5 0) 3 v_11 fun F=>
 Li F (Am b5 0) fun v_13=>
 (Bc (v_13<0) (
  R (.bool false) F) (
  Li F (Am b5 0) fun v_17=>
  (Bc (63<v_17) (
   R (.bool false) F) (
   Li F (Am b5 1) fun v_22=>
   (Bc (v_22<0) (
    R (.bool false) F) (
    Li F (Am b5 2) fun v_27=>
    (Bc (v_27<0) (
     R (.bool false) F) (
     Li F (Am b5 1) fun v_32=>
     (Bc ((IntKind.i64.wrap (n_1+2))≤v_32) (
      R (.bool false) F) (
      Li F (Am b5 2) fun v_39=>
      (Bc ((IntKind.i64.wrap (n_1+2))≤v_39) (
       R (.bool false) F) (
       Li F (Am b5 1) fun v_46=>
       Li F (Am b5 2) fun v_48=>
       (Bc (v_46=v_48) (
        R (.bool false) F) (
        Lr F 2 (Am b2 0) fun v_51=>
        Li F (Am b5 1) fun v_53=>
        Li F (Am b5 0) fun v_56=>
        Ci 231 #[(.agg v_51),(.int .i64 v_53)] F fun v_54 F=>
        F.cell (Am b5 0)=some (.int .i64 v_56)∧(Bc (v_54≤v_56) (
         R (.bool false) F) (
         Lr F 2 (Am b2 0) fun v_59=>
         Li F (Am b5 2) fun v_61=>
         Li F (Am b5 0) fun v_64=>
         Ci 231 #[(.agg v_59),(.int .i64 v_61)] F fun v_62 F=>
         F.cell (Am b5 0)=some (.int .i64 v_64)∧F.cell (Am b5 0)=some (.int .i64 v_56)∧(Bc (v_62≤v_64) (
          R (.bool false) F) (
          (Lp 0 F fun N i_6 F=>
           xG N n_1 b2 b5 R i_6 F)))))))))))))))))))
theorem KU {d_0:Array Value} {n_1:Int} (h:FT d_0 n_1 R F):ac prog 241 #[(.agg d_0),(.int .i64 n_1)] F R:=Rx.sxC (args:=[(.agg d_0),(.int .i64 n_1)]) (.T .N (.T .N (.T .N (.T .N (.J false [] (.T .N (.L [(6,.int .i64)] .N)) .N))))) (by kernel_rfl) h
def Ei (R:VR) (F:PH):Prop:=
 R (.bool true) F
def xH (N1:Int→PH→Prop) (b2 b3:Nat) (R:VR) (i_5:Int) (F:PH):Prop:=
 Ls F (Am b2 0) fun v_22=>
 (Bc (i_5<(v_22.len:Int)) (
  Ls F (Am b2 0) fun v_28=>
  Ix v_28 i_5 fun a30_=>
  Lr F 3 (Addr.add a30_ (Int.toNat i_5*3)) fun v_31=>
  Ls F (Am b3 0) fun v_33=>
  Ix v_33 i_5 fun a35_=>
  Lr F 3 (Addr.add a35_ (Int.toNat i_5*3)) fun v_36=>
  ∃v_37,(∀F,rdo prog (Op.equal 103 (.agg v_31) (.agg v_36)) F v_37)∧
  (Bb ((!v_37)) (
   R (.bool false) F) (
   N1 (IntKind.i64.wrap (i_5+1)) F))) (
  Ei R F))
def FU (a_0 b_1:Array Value) (R:VR) (F:PH):Prop:=
 Nb F (.cells a_0 33) fun b2 F=>
 Nb F (.cells b_1 33) fun b3 F=>
 Li F (Am b2 1) fun v_7=>
 Li F (Am b3 1) fun v_9=>
 (Bc (v_7≠v_9) (
  R (.bool false) F) (
  Ls F (Am b2 0) fun v_13=>
  Ls F (Am b3 0) fun v_16=>
  (Bc ((v_13.len:Int)≠(v_16.len:Int)) (
   R (.bool false) F) (
   (Lp 0 F fun N i_5 F=>
    xH N b2 b3 R i_5 F)))))
theorem KV {a_0:Array Value} {b_1:Array Value} (h:FU a_0 b_1 R F):ac prog 242 #[(.agg a_0),(.agg b_1)] F R:=Rx.sxC (args:=[(.agg a_0),(.agg b_1)]) (.T .N (.T .N (.J false [] (.T .N (.L [(5,.int .i64)] .N)) .N))) (by kernel_rfl) h
end Go.Proofs.YtenpmjhnhepfdaaGreatDoor
namespace Go.Proofs.YtenpmjhnhepfdaaGreatDoor
open Go Go.Proofs.Tryz Tr
set_option maxRecDepth 10000
theorem vV {F:PH} {v w:Array Value} {d e:Dia} (hd:DV F v d) (he:DV F w e) (hl:Fit d.1.length):ac prog 242 #[.agg v,.agg w] F fun r F'=>r=.bool (decide (d=e))∧F.le F':=by
 obtain ⟨s,rfl,hr⟩:=hd
 obtain ⟨t,rfl,ht⟩:=he
 refine KV ?_
 unfold FU
 intro b2 hb2
 refine atI ?_
 have hle2:=ae (.cells #[s.v,vi d.2] 33) hb2
 intro b3 hb3
 refine atI ?_
 have hle3:=ae (.cells #[t.v,vi e.2] 33) hb3
 have hle:F.le _:=fun b o h=>hle3 b o (hle2 b o h)
 have hc2:=hle3 _ _ (an F b2 (.cells #[s.v,vi d.2] 33))
 have hc3:=an (F.set b2 (.cells #[s.v,vi d.2] 33)) b3 (.cells #[t.v,vi e.2] 33)
 generalize (F.set b2 (.cells #[s.v,vi d.2] 33)).set b3 (.cells #[t.v,vi e.2] 33)=G at*
 replace hr:=hr.le hle
 replace ht:=ht.le hle
 have lens:=hr.blen
 have lent:=ht.blen
 have cs:G.cell ⟨b2,0,none⟩=some s.v:=by rw [am hc2];rfl
 have ct:G.cell ⟨b3,0,none⟩=some t.v:=by rw [am hc3];rfl
 obtain ⟨x,d2⟩:=d
 obtain ⟨y,e2⟩:=e
 simp only at hl lens lent hr ht hc2 hc3
 refine ⟨d2,by rw [am hc2];rfl,e2,by rw [am hc3];rfl,fun h=> ?_,fun h=> ?_⟩
 ·refine ⟨?_,hle⟩
  simp [h]
 have h:d2=e2:=by omega
 subst h
 refine ⟨s,cs,t,ct,fun hn=> ?_,fun hn=> ?_⟩
 ·refine ⟨?_,hle⟩
  have:¬x=y:=fun e=>by subst e;omega
  simp [this]
 have hlen:x.length=y.length:=by omega
 refine ⟨fun m i F'=>∃k:Nat,i=k∧k≤x.length∧m=x.length - k∧F'=G∧x.take k=y.take k,x.length,⟨0,rfl,by omega,rfl,rfl,rfl⟩,?_⟩
 rintro m i F' ⟨k,rfl,hk,rfl,rfl,htake⟩
 unfold xH
 refine ⟨s,cs,fun hlt=> ?_,fun hge=> ?_⟩
 ·have hkx:k<x.length:=by omega
  have hky:k<y.length:=by omega
  obtain ⟨p,hp,hpr,_⟩:=rdb hr (List.getElem?_eq_getElem hkx)
  obtain ⟨q,hq,hqr,_⟩:=rdb ht (List.getElem?_eq_getElem hky)
  refine ⟨s,cs,p,hp,by omega,hlt,aP x[k],rfl,by simpa using hpr,t,ct,q,hq,by omega,by omega,aP y[k],rfl,by simpa using hqr,decide (x[k]=y[k]),fun F=>CQ x[k] y[k] F,fun hne=> ?_,fun heq=> ?_⟩
  ·refine ⟨?_,hle⟩
   have:¬x=y:=by rintro rfl;simp at hne
   simp [this]
  ·refine ⟨x.length - (k+1),by omega,k+1,i6 (by omega),by omega,rfl,rfl,?_⟩
   rw [List.take_succ_eq_append_getElem hkx,List.take_succ_eq_append_getElem hky,htake]
   simp at heq
   rw [heq]
 ·refine ⟨?_,hle⟩
  have hk':k=x.length:=by omega
  rw [hk',List.take_length,hlen,List.take_length] at htake
  simp [htake]
theorem Ej {v:Nat} (h:v<64):qt v=(dia (tv v),0):=by
 unfold qt
 rw [if_neg (by omega),Int.toNat_natCast]
def LoD (F:PH) (b:Nat) (d:Dia):Prop:=∃w,F b=some (.cells w 33)∧DV F w d
def Los (F:PH) (l:List (Nat×Dia)):Prop:=∀p∈l,LoD F p.1 p.2
theorem LoD.le {F G:PH} {b:Nat} {d:Dia} (h:LoD F b d) (hl:F.le G):LoD G b d:=by
 obtain ⟨w,h1,h2⟩:=h
 exact ⟨w,hl _ _ h1,h2.le hl⟩
theorem Los.le {F G:PH} {l:List (Nat×Dia)} (h:Los F l) (hl:F.le G):Los G l:=fun p hp=>(h p hp).le hl
theorem Los.nil (F:PH):Los F []:=fun p hp=>by cases hp
theorem getD {F:PH} {b:Nat} {d:Dia} {l:List (Nat×Dia)} {K:Array Value→Prop} (hl:Los F l) (hm:(b,d)∈l) (k:∀w,DV F w d→K w):∃v:Array Value,v.size=2∧F.row (Addr.mk b 0 none) v∧K v:=by
 obtain ⟨w,h1,h2⟩:=hl _ hm
 exact ⟨w,h2.size,ak h1,k w h2⟩
end Go.Proofs.YtenpmjhnhepfdaaGreatDoor
