/-
  What functions of the program do, in a clean form, each with the proof that its code does so. Printed by a program.
-/
import Derived.Test.YtenpmjhnhepfdaaGreatDoorPhp
import Derived.Test.YtenpmjhnhepfdaaGreatDoorPhz
namespace Go.Proofs.YtenpmjhnhepfdaaGreatDoor
open Go Go.Proofs.Tryz
variable {R:VR} {F:PH}
set_option maxRecDepth 10000
set_option maxHeartbeats 4000000
def LP (a_0 b_1:Array Value) (R:VR) (F:PH):Prop:=
 Nb F (.cells a_0 33) fun b2 F=>
 Nb F (.cells b_1 33) fun b3 F=>
 Nb F (.cells zD 33) fun b4 F=>
 Lr F 2 (Am b2 0) fun v_6=>
 Lr F 2 (Am b3 0) fun v_7=>
 ae prog 94 #[(.agg v_6),(.agg v_7),(.func (.func 95) #[] #[])] F fun v F=>∃v_8,∃v_8_1,v=(.tuple #[(.agg v_8),(.int .i64 v_8_1)])∧
 aA F (Am b4 0) 2 v_8 fun F=>
 Lr F 2 (Am b4 0) fun vres_4=>R (.tuple #[(.agg vres_4),(.int .i64 v_8_1)]) F
theorem Pd {a_0:Array Value} {b_1:Array Value} (h:LP a_0 b_1 R F):ae prog 27 #[(.agg a_0),(.agg b_1)] F R:=Rx.sxC (args:=[(.agg a_0),(.agg b_1)]) .N (by kernel_rfl) h
def LQ (a_0 b_1:Array Value) (R:VR) (F:PH):Prop:=
 Nb F (.cells a_0 33) fun b2 F=>
 Nb F (.cells b_1 33) fun b3 F=>
 Li F (Am b2 1) fun v_6=>
 Li F (Am b3 1) fun v_8=>
 (Bc (v_6=v_8) (
  Ls F (Am b2 0) fun v_12=>
  Ls F (Am b3 0) fun v_14=>
  Cbo 98 #[(Sl.v v_12),(Sl.v v_14)] F fun v_15 F=>
  R (.bool v_15) F) (
  R (.bool false) F))
theorem Pe {a_0:Array Value} {b_1:Array Value} (h:LQ a_0 b_1 R F):ae prog 29 #[(.agg a_0),(.agg b_1)] F R:=Rx.sxC (args:=[(.agg a_0),(.agg b_1)]) .N (by kernel_rfl) h
def LU (value_0:Bool) (R:VR) (F:PH):Prop:=
 Nb F (.cells zD 33) fun b2 F=>
 (Bb (value_0) (
  aA F (Am b2 0) 2 (#[.slice none 0 0,(.int .i64 1)]:Array Value) fun F=>
  Rr 2 (Am b2 0) R F) (
  aA F (Am b2 0) 2 zD fun F=>
  Rr 2 (Am b2 0) R F))
theorem Pf {value_0:Bool} (h:LU value_0 R F):ae prog 30 #[(.bool value_0)] F R:=Rx.sxC (args:=[(.bool value_0)]) .N (by kernel_rfl) h
def py (v_1:Int) (value_2:Bool) (b3 b6:Nat) (v_20:Bool) (R:VR) (F:PH):Prop:=
 (Bb (v_20) (
  aA F (Am b6 0) 2 zD fun F=>
  Lr F 2 (Am b6 0) fun vres_6_1=>R (.tuple #[(.agg vres_6_1),(.int .i64 1)]) F) (
  Lr F 2 (Am b3 0) fun v_22=>
  Ca 161 #[(.agg v_22),(.int .i64 v_1),(.bool value_2)] F fun v_25 F=>
  ae prog 160 #[(.agg v_25)] F fun v F=>∃v_26,∃v_26_1,v=(.tuple #[(.agg v_26),(.int .i64 v_26_1)])∧
  aA F (Am b6 0) 2 v_26 fun F=>
  Lr F 2 (Am b6 0) fun vres_6_2=>R (.tuple #[(.agg vres_6_2),(.int .i64 v_26_1)]) F))
def LV (a_0:Array Value) (v_1:Int) (value_2:Bool) (R:VR) (F:PH):Prop:=
 Nb F (.cells a_0 33) fun b3 F=>
 Nb F (.cells zD 33) fun b6 F=>
 Lr F 2 (Am b3 0) fun v_9=>
 Ci 99 #[(.agg v_9)] F fun v_10 F=>
 (Bc (v_10≠0) (
  aA F (Am b6 0) 2 zD fun F=>
  Lr F 2 (Am b6 0) fun vres_6=>R (.tuple #[(.agg vres_6),(.int .i64 v_10)]) F) (
  (Bc (v_1<0) (
   py v_1 value_2 b3 b6 true R F) (
   py v_1 value_2 b3 b6 (decide (63<v_1)) R F))))
theorem Pg {a_0:Array Value} {v_1:Int} {value_2:Bool} (h:LV a_0 v_1 value_2 R F):ae prog 92 #[(.agg a_0),(.int .i64 v_1),(.bool value_2)] F R:=Rx.sxC (args:=[(.agg a_0),(.int .i64 v_1),(.bool value_2)]) (.T .N (.T .N (.T (.J false [(20,.bool)] .N .N) .N))) (by kernel_rfl) h
def LW (a_0 b_1:Array Value) (op_2:Value) (R:VR) (F:PH):Prop:=
 Nb F (.cells a_0 33) fun b3 F=>
 Nb F (.cells b_1 33) fun b4 F=>
 op_2.cells= #[op_2]∧Nb F (.cells #[op_2] 160) fun b5 F=>
 Nb F (.cells zD 33) fun b6 F=>
 Lr F 2 (Am b3 0) fun v_9=>
 Lr F 2 (Am b4 0) fun v_10=>
 v_9.size=2∧v_10.size=2∧Nb F (.cells (wr (wr zL 0 v_9.toList) 2 v_10.toList) 33) fun b11 F=>
 Ci 162 #[(Sl.v (Sb b11 2))] F fun v_12 F=>
 (Bc (v_12≠0) (
  aA F (Am b6 0) 2 zD fun F=>
  Lr F 2 (Am b6 0) fun vres_6=>R (.tuple #[(.agg vres_6),(.int .i64 v_12)]) F) (
  Lr F 2 (Am b3 0) fun v_17=>
  Lr F 2 (Am b4 0) fun v_18=>
  v_17.size=2∧v_18.size=2∧zD.size=2∧Ca 163 #[(.agg (wr (wr (wr (#[.slice none 0 0,.int .i64 0,.slice none 0 0,.int .i64 0,.slice none 0 0,.int .i64 0]:Array Value) 0 v_17.toList) 2 v_18.toList) 4 zD.toList)),(.func (.func 164) #[] #[(.pointer (some (Am b5 0)))])] F fun v_22 F=>
  ae prog 160 #[(.agg v_22)] F fun v F=>∃v_23,∃v_23_1,v=(.tuple #[(.agg v_23),(.int .i64 v_23_1)])∧
  aA F (Am b6 0) 2 v_23 fun F=>
  Lr F 2 (Am b6 0) fun vres_6_1=>R (.tuple #[(.agg vres_6_1),(.int .i64 v_23_1)]) F))
theorem Ph {a_0:Array Value} {b_1:Array Value} {op_2:Value} (h:LW a_0 b_1 op_2 R F):ae prog 94 #[(.agg a_0),(.agg b_1),op_2] F R:=Rx.sxC (args:=[(.agg a_0),(.agg b_1),op_2]) .N (by kernel_rfl) h
def LX (x_0 y_1:Bool) (R:VR) (F:PH):Prop:=
 (Bb (x_0) (
  R (.bool y_1) F) (
  R (.bool false) F))
theorem Pi {x_0:Bool} {y_1:Bool} (h:LX x_0 y_1 R F):ae prog 95 #[(.bool x_0),(.bool y_1)] F R:=Rx.sxC (args:=[(.bool x_0),(.bool y_1)]) .N (by kernel_rfl) h
def CX (b1:Nat) (R:VR) (F:PH):Prop:=
 Li F (Am b1 1) fun v_84=>
 (Bc (v_84<0) (
  R (.int .i64 20) F) (
  Li F (Am b1 1) fun v_88=>
  Ls F (Am b1 0) fun v_90=>
  (Bc ((IntKind.i64.wrap ((v_90.len:Int)+1))<v_88) (
   R (.int .i64 20) F) (
   Ls F (Am b1 0) fun v_96=>
   Nb F (.cells (#[(Sl.v v_96),.map none]:Array Value) 228) fun b98 F=>
   Li F (Am b1 1) fun v_100=>
   Ca 167 #[(.pointer (some (Am b98 0))),(.int .i64 v_100)] F fun v_101 F=>
   Nb F (.cells zD 33) fun b6 F=>
   aA F (Am b6 0) 2 v_101 fun F=>
   Lr F 2 (Am b6 0) fun v_102=>
   Lr F 2 (Am b1 0) fun v_103=>
   Cbo 29 #[(.agg v_102),(.agg v_103)] F fun v_104 F=>
   (Bb ((!v_104)) (
    R (.int .i64 20) F) (
    R (.int .i64 0) F))))))
def CY (N1:Int→PH→Prop) (b1 b11:Nat) (v_13:Sl) (R:VR) (v_15:Int) (F:PH):Prop:=
 (Bc (v_15<(v_13.len:Int)) (
  Ix v_13 v_15 fun a18_=>
  Lr F 3 (Addr.add a18_ (Int.toNat v_15*3)) fun v_19=>
  Nb F (.cells (#[.int .i64 0,.int .i64 0,.int .i64 0]) 103) fun b5 F=>
  aA F (Am b5 0) 3 v_19 fun F=>
  Li F (Am b5 0) fun v_21=>
  (Bc (v_21<0) (
   R (.int .i64 20) F) (
   Li F (Am b5 0) fun v_25=>
   (Bc (63<v_25) (
    R (.int .i64 20) F) (
    Li F (Am b5 1) fun v_30=>
    (Bc (v_30<0) (
     R (.int .i64 20) F) (
     Li F (Am b5 2) fun v_35=>
     (Bc (v_35<0) (
      R (.int .i64 20) F) (
      Li F (Am b5 1) fun v_40=>
      (Bc ((IntKind.i64.wrap (v_15+1))<v_40) (
       R (.int .i64 20) F) (
       Li F (Am b5 2) fun v_47=>
       (Bc ((IntKind.i64.wrap (v_15+1))<v_47) (
        R (.int .i64 20) F) (
        Li F (Am b5 1) fun v_54=>
        Li F (Am b5 2) fun v_56=>
        (Bc (v_54=v_56) (
         R (.int .i64 20) F) (
         Lr F 3 (Am b5 0) fun v_61=>
         ∃v_62,rdo prog (Instr.lookup 224 (.map (some b11)) (.agg v_61) false) F (.bool v_62)∧
         (Bb (v_62) (
          R (.int .i64 20) F) (
          Lr F 2 (Am b1 0) fun v_64=>
          Li F (Am b5 1) fun v_66=>
          Li F (Am b5 0) fun v_69=>
          Ci 102 #[(.agg v_64),(.int .i64 v_66)] F fun v_67 F=>
          F.cell (Am b5 0)=some (.int .i64 v_69)∧(Bc (v_67≤v_69) (
           R (.int .i64 20) F) (
           Lr F 2 (Am b1 0) fun v_72=>
           Li F (Am b5 2) fun v_74=>
           Li F (Am b5 0) fun v_77=>
           Ci 102 #[(.agg v_72),(.int .i64 v_74)] F fun v_75 F=>
           F.cell (Am b5 0)=some (.int .i64 v_77)∧F.cell (Am b5 0)=some (.int .i64 v_69)∧(Bc (v_75≤v_77) (
            R (.int .i64 20) F) (
            Lr F 3 (Am b5 0) fun v_81=>
            aD prog (Instr.mapUpdate 224 (.map (some b11)) (.agg v_81) (.bool true)) F fun _ F=>
            N1 (IntKind.i64.wrap (v_15+1)) F))))))))))))))))))))) (
  CX b1 R F))
def LY (d_0:Array Value) (R:VR) (F:PH):Prop:=
 Nb F (.cells d_0 33) fun b1 F=>
 Ls F (Am b1 0) fun v_8=>
 (Bc ((4096:Int)<(v_8.len:Int)) (
  R (.int .i64 2) F) (
  Nb F (.map #[] 0) fun b11 F=>
  Ls F (Am b1 0) fun v_13=>
  (Lp 0 F fun N v_15 F=>
   CY N b1 b11 v_13 R v_15 F)))
theorem Pj {d_0:Array Value} (h:LY d_0 R F):ae prog 99 #[(.agg d_0)] F R:=Rx.sxC (args:=[(.agg d_0)]) (.T .N (.T .N (.T .N (.J false [] (.T .N (.L [(15,.int .i64)] .N)) .N)))) (by kernel_rfl) h
def FZ (d_0:Array Value) (n_1:Int) (R:VR) (F:PH):Prop:=
 Nb F (.cells d_0 33) fun b2 F=>
 (Bc (n_1<2) (
  R (.int .i64 64) F) (
  Ls F (Am b2 0) fun v_8=>
  Ix v_8 (IntKind.i64.wrap (n_1 - 2)) fun a11_=>
  ∃v_13,F.cell (Addr.add a11_ (Int.toNat (IntKind.i64.wrap (n_1 - 2))*3))=some (.int .i64 v_13)∧
  R (.int .i64 v_13) F))
theorem LZ {d_0:Array Value} {n_1:Int} (h:FZ d_0 n_1 R F):ae prog 102 #[(.agg d_0),(.int .i64 n_1)] F R:=Rx.sxC (args:=[(.agg d_0),(.int .i64 n_1)]) .N (by kernel_rfl) h
def Gg (d_0:Array Value) (R:VR) (F:PH):Prop:=
 Nb F (.cells d_0 33) fun b1 F=>
 Nb F (.cells zD 33) fun b2 F=>
 Ls F (Am b1 0) fun v_5=>
 (Bc ((4096:Int)<(v_5.len:Int)) (
  aA F (Am b2 0) 2 zD fun F=>
  Lr F 2 (Am b2 0) fun vres_2=>R (.tuple #[(.agg vres_2),(.int .i64 2)]) F) (
  Lr F 2 (Am b1 0) fun v_9=>
  aA F (Am b2 0) 2 v_9 fun F=>
  Lr F 2 (Am b2 0) fun vres_2_1=>R (.tuple #[(.agg vres_2_1),(.int .i64 0)]) F))
theorem L0 {d_0:Array Value} (h:Gg d_0 R F):ae prog 160 #[(.agg d_0)] F R:=Rx.sxC (args:=[(.agg d_0)]) .N (by kernel_rfl) h
def yi (b3 b6:Nat) (v_13:Option Addr) (v_18:Sl) (R:VR) (F:PH):Prop:=
 Li F (Am b3 1) fun v_60=>
 Ix v_18 v_60 fun a61_=>
 Li F (Addr.add a61_ (Int.toNat v_60*1)) fun v_62=>
 Ca 167 #[(.pointer v_13),(.int .i64 v_62)] F fun v_63 F=>
 aA F (Am b6 0) 2 v_63 fun F=>
 Rr 2 (Am b6 0) R F
def kC (N1:Int→PH→Prop) (v_1:Int) (value_2:Bool) (b3 b6:Nat) (v_13:Option Addr) (v_18:Sl) (v_24:Int) (b10:Nat) (v_22:Sl) (low_11 high_12:Int) (R:VR) (F:PH):Prop:=
 Li F (Am b10 0) fun v_51=>
 Ci 210 #[(.pointer v_13),(.int .i64 v_51),(.int .i64 low_11),(.int .i64 high_12)] F fun v_54 F=>
 Ix v_18 (IntKind.i64.wrap (v_24+2)) fun a55_=>
 sto F (Addr.add a55_ (Int.toNat (IntKind.i64.wrap (v_24+2))*1)) (.int .i64 v_54) fun F=>
 N1 (IntKind.i64.wrap (v_24+1)) F
def yj (N1:Int→PH→Prop) (v_1:Int) (value_2:Bool) (b3 b6:Nat) (v_13:Option Addr) (v_18 v_22:Sl) (R:VR) (v_24:Int) (F:PH):Prop:=
 (Bc (v_24<(v_22.len:Int)) (
  Ix v_22 v_24 fun a27_=>
  Lr F 3 (Addr.add a27_ (Int.toNat v_24*3)) fun v_28=>
  Nb F (.cells (#[.int .i64 0,.int .i64 0,.int .i64 0]) 103) fun b10 F=>
  aA F (Am b10 0) 3 v_28 fun F=>
  Li F (Am b10 1) fun v_31=>
  Ix v_18 v_31 fun a32_=>
  Li F (Addr.add a32_ (Int.toNat v_31*1)) fun v_33=>
  Li F (Am b10 2) fun v_36=>
  Ix v_18 v_36 fun a37_=>
  Li F (Addr.add a37_ (Int.toNat v_36*1)) fun v_38=>
  Li F (Am b10 0) fun v_40=>
  (Bc (v_40=v_1) (
   (Bb (value_2) (
    kC N1 v_1 value_2 b3 b6 v_13 v_18 v_24 b10 v_22 v_38 v_38 R F) (
    kC N1 v_1 value_2 b3 b6 v_13 v_18 v_24 b10 v_22 v_33 v_33 R F))) (
   kC N1 v_1 value_2 b3 b6 v_13 v_18 v_24 b10 v_22 v_33 v_38 R F))) (
  yi b3 b6 v_13 v_18 R F))
def Gh (a_0:Array Value) (v_1:Int) (value_2:Bool) (R:VR) (F:PH):Prop:=
 Nb F (.cells a_0 33) fun b3 F=>
 Nb F (.cells zD 33) fun b6 F=>
 ae prog 209 #[] F fun v F=>∃v_13,v=(.pointer v_13)∧
 Ls F (Am b3 0) fun v_15=>
 aD prog (Instr.makeSlice 70 (.int .i64 (IntKind.i64.wrap ((v_15.len:Int)+2))) (.int .i64 (IntKind.i64.wrap ((v_15.len:Int)+2)))) F fun v F=>∃v_18,v=(Sl.v v_18)∧
 Ix v_18 1 fun a20_=>
 sto F (Addr.add a20_ (Int.toNat 1*1)) (.int .i64 1) fun F=>
 Ls F (Am b3 0) fun v_22=>
 (Lp 0 F fun N v_24 F=>
  yj N v_1 value_2 b3 b6 v_13 v_18 v_22 R v_24 F)
theorem L3 {a_0:Array Value} {v_1:Int} {value_2:Bool} (h:Gh a_0 v_1 value_2 R F):ae prog 161 #[(.agg a_0),(.int .i64 v_1),(.bool value_2)] F R:=Rx.sxC (args:=[(.agg a_0),(.int .i64 v_1),(.bool value_2)]) (.T .N (.T .N (.T .N (.T .N (.J false [] (.T .N (.L [(24,.int .i64)] (.T .N (.T .N (.T (.T .N (.T .N (.J false [(11,.int .i64),(12,.int .i64)] .N .N))) .N))))) .N))))) (by kernel_rfl) h
def yk (R:VR) (F:PH):Prop:=
 R (.int .i64 0) F
def yl (N1:Int→PH→Prop) (l_0:Sl) (R:VR) (v_8:Int) (F:PH):Prop:=
 (Bc (v_8<(l_0.len:Int)) (
  Ix l_0 v_8 fun a10_=>
  Lr F 2 (Addr.add a10_ (Int.toNat v_8*2)) fun v_11=>
  Nb F (.cells zD 33) fun b4 F=>
  aA F (Am b4 0) 2 v_11 fun F=>
  Lr F 2 (Am b4 0) fun v_12=>
  Ci 99 #[(.agg v_12)] F fun v_13 F=>
  (Bc (v_13≠0) (
   R (.int .i64 v_13) F) (
   N1 (IntKind.i64.wrap (v_8+1)) F))) (
  yk R F))
def Gi (l_0:Sl) (R:VR) (F:PH):Prop:=
 (Lp 0 F fun N v_8 F=>
  yl N l_0 R v_8 F)
theorem L4 {l_0:Sl} (h:Gi l_0 R F):ae prog 162 #[(Sl.v l_0)] F R:=Rx.sxC (args:=[(Sl.v l_0)]) (.T .N (.J false [] (.T .N (.L [(8,.int .i64)] .N)) .N)) (by kernel_rfl) h
def Gj (l_0:Array Value) (op_1:Value) (R:VR) (F:PH):Prop:=
 Nb F (.cells l_0 220) fun b2 F=>
 op_1.cells= #[op_1]∧Nb F (.cells #[op_1] 221) fun b3 F=>
 Nb F (.cells zD 33) fun b4 F=>
 ae prog 209 #[] F fun v F=>∃v_8,v=(.pointer v_8)∧
 Nb F (.cells (#[.pointer none]) 225) fun b5 F=>
 sto F (Am b5 0) (.pointer v_8) fun F=>
 Nb F (.map #[] 0) fun b9 F=>
 Nb F (.cells (#[.map none]) 287) fun b6 F=>
 sto F (Am b6 0) (.map (some b9)) fun F=>
 Nb F (.cells (#[.nilFunc]) 288) fun b7 F=>
 sto F (Am b7 0) (.func (.func 211) #[] #[(.pointer (some (Am b3 0))),(.pointer (some (Am b6 0))),(.pointer (some (Am b2 0))),(.pointer (some (Am b7 0))),(.pointer (some (Am b5 0)))]) fun F=>
 Lq F (Am b5 0) fun v_11=>
 ∃v_12:Value,F.cell (Am b7 0)=some v_12∧
 0≤(0:Int)∧(0:Int)<3∧
 ∃v_15,F.cell (Addr.add (Addr.add (Am b2 0) (Int.toNat 0*2)) 1)=some (.int .i64 v_15)∧
 0≤(1:Int)∧(1:Int)<3∧
 ∃v_18,F.cell (Addr.add (Addr.add (Am b2 0) (Int.toNat 1*2)) 1)=some (.int .i64 v_18)∧
 0≤(2:Int)∧(2:Int)<3∧
 ∃v_21,F.cell (Addr.add (Addr.add (Am b2 0) (Int.toNat 2*2)) 1)=some (.int .i64 v_21)∧
 Fn v_12 fun k23 fst23 cap23=>ae prog k23 (fst23++([(Value.agg (#[(Value.int .i64 v_15),(Value.int .i64 v_18),(Value.int .i64 v_21)]:Array Value))]).toArray++cap23) F fun v F=>∃v_23,v=(Value.int .i64 v_23)∧
 F.cell (Addr.add (Addr.add (Am b2 0) (Int.toNat 2*2)) 1)=some (.int .i64 v_21)∧F.cell (Addr.add (Addr.add (Am b2 0) (Int.toNat 1*2)) 1)=some (.int .i64 v_18)∧F.cell (Addr.add (Addr.add (Am b2 0) (Int.toNat 0*2)) 1)=some (.int .i64 v_15)∧F.cell (Am b5 0)=some (.pointer v_11)∧Ca 167 #[(.pointer v_11),(.int .i64 v_23)] F fun v_24 F=>
 F.cell (Addr.add (Addr.add (Am b2 0) (Int.toNat 2*2)) 1)=some (.int .i64 v_21)∧F.cell (Addr.add (Addr.add (Am b2 0) (Int.toNat 1*2)) 1)=some (.int .i64 v_18)∧F.cell (Addr.add (Addr.add (Am b2 0) (Int.toNat 0*2)) 1)=some (.int .i64 v_15)∧aA F (Am b4 0) 2 v_24 fun F=>
 Rr 2 (Am b4 0) R F
theorem L5 {l_0:Array Value} {op_1:Value} (h:Gj l_0 op_1 R F):ae prog 163 #[(.agg l_0),op_1] F R:=Rx.sxC (args:=[(.agg l_0),op_1]) .N (by kernel_rfl) h
def Gk (x_0 y_1 v_2:Bool) (v_3:Option Addr) (R:VR) (F:PH):Prop:=
 ∃v3a_,v_3=some v3a_∧∃v_8:Value,F.cell v3a_=some v_8∧
 Fn v_8 fun k11 fst11 cap11=>ae prog k11 (fst11++([(Value.bool x_0),(Value.bool y_1)]).toArray++cap11) F fun v F=>∃v_11,v=(Value.bool v_11)∧
 R (.bool v_11) F
theorem L6 {x_0:Bool} {y_1:Bool} {v_2:Bool} {v_3:Option Addr} (h:Gk x_0 y_1 v_2 v_3 R F):ae prog 164 #[(.bool x_0),(.bool y_1),(.bool v_2),(.pointer v_3)] F R:=Rx.sxC (args:=[(.bool x_0),(.bool y_1),(.bool v_2),(.pointer v_3)]) .N (by kernel_rfl) h
def Gl (b_0:Option Addr) (root_1:Int) (R:VR) (F:PH):Prop:=
 Nb F (.cells #[(.pointer b_0)] 225) fun b2 F=>
 Nb F (.cells zD 33) fun b4 F=>
 Nb F (.cells zD 33) fun b5 F=>
 aA F (Am b5 0) 2 zD fun F=>
 Nb F (.map #[] 0) fun b9 F=>
 aD prog (Instr.mapUpdate 299 (.map (some b9)) (.int .i64 0) (.int .i64 0)) F fun _ F=>
 aD prog (Instr.mapUpdate 299 (.map (some b9)) (.int .i64 1) (.int .i64 1)) F fun _ F=>
 Nb F (.cells (#[.map none]) 299) fun b6 F=>
 sto F (Am b6 0) (.map (some b9)) fun F=>
 Nb F (.cells (#[.nilFunc]) 167) fun b7 F=>
 sto F (Am b7 0) (.func (.func 215) #[] #[(.pointer (some (Am b6 0))),(.pointer (some (Am b2 0))),(.pointer (some (Am b7 0))),(.pointer (some (Am b5 0)))]) fun F=>
 ∃v_12:Value,F.cell (Am b7 0)=some v_12∧
 Fn v_12 fun k14 fst14 cap14=>ae prog k14 (fst14++([(Value.int .i64 root_1)]).toArray++cap14) F fun v F=>∃v_14,v=(Value.int .i64 v_14)∧
 sto F (Am b5 1) (.int .i64 v_14) fun F=>
 Lr F 2 (Am b5 0) fun v_16=>
 aA F (Am b4 0) 2 v_16 fun F=>
 Rr 2 (Am b4 0) R F
theorem L7 {b_0:Option Addr} {root_1:Int} (h:Gl b_0 root_1 R F):ae prog 167 #[(.pointer b_0),(.int .i64 root_1)] F R:=Rx.sxC (args:=[(.pointer b_0),(.int .i64 root_1)]) .N (by kernel_rfl) h
def Gm (R:VR) (F:PH):Prop:=
 Nb F (.map #[] 0) fun b1 F=>
 Nb F (.cells (#[.slice none 0 0,(.map (some b1))]:Array Value) 228) fun b3 F=>
 R (.pointer (some (Am b3 0))) F
theorem L8 (h:Gm R F):ae prog 209 #[] F R:=Rx.sxC (args:=[]) .N (by kernel_rfl) h
def Gn (b_0:Option Addr) (v_1 low_2 high_3:Int) (R:VR) (F:PH):Prop:=
 (Bc (low_2=high_3) (
  R (.int .i64 low_2) F) (
  Nb F (.cells (#[.int .i64 0,.int .i64 0,.int .i64 0]) 103) fun b9 F=>
  aA F (Am b9 0) 3 (#[(.int .i64 v_1),(.int .i64 low_2),(.int .i64 high_3)]:Array Value) fun F=>
  ∃b0a_,b_0=some b0a_∧∃v_24:Option Nat,F.cell (Addr.add b0a_ 1)=some (.map v_24)∧
  Lr F 3 (Am b9 0) fun v_25=>
  ∃(v_26:Int) (ok26_:Bool),rdo prog (Instr.lookup 226 (.map v_24) (.agg v_25) true) F (.tuple #[(.int .i64 v_26),(.bool ok26_)])∧
  (Bb ((!ok26_)) (
   Ls F b0a_ fun v_35=>
   Lr F 3 (Am b9 0) fun v_36=>
   v_36.size=3∧Nb F (.cells v_36 103) fun b37 F=>
   Ap 31 #[(Sl.v v_35),(Sl.v (Sb b37 1))] F fun v_38 F=>
   sto F b0a_ (Sl.v v_38) fun F=>
   Ls F b0a_ fun v_44=>
   ∃v_50:Option Nat,F.cell (Addr.add b0a_ 1)=some (.map v_50)∧
   Lr F 3 (Am b9 0) fun v_51=>
   aD prog (Instr.mapUpdate 226 (.map v_50) (.agg v_51) (.int .i64 (IntKind.i64.wrap ((v_44.len:Int)+1)))) F fun _ F=>
   R (.int .i64 (IntKind.i64.wrap ((v_44.len:Int)+1))) F) (
   R (.int .i64 v_26) F))))
theorem L9 {b_0:Option Addr} {v_1:Int} {low_2:Int} {high_3:Int} (h:Gn b_0 v_1 low_2 high_3 R F):ae prog 210 #[(.pointer b_0),(.int .i64 v_1),(.int .i64 low_2),(.int .i64 high_3)] F R:=Rx.sxC (args:=[(.pointer b_0),(.int .i64 v_1),(.int .i64 low_2),(.int .i64 high_3)]) .N (by kernel_rfl) h
def ym (v2a_:Addr) (v_4 v_5:Option Addr) (b6:Nat) (v_52 v_57 v_62:Int) (b11 b12:Nat) (R:VR) (F:PH):Prop:=
 ∃v4a_,v_4=some v4a_∧∃v_83:Value,F.cell v4a_=some v_83∧
 Lr F 3 (Am b11 0) fun v_84=>
 Fn v_83 fun k85 fst85 cap85=>ae prog k85 (fst85++([(Value.agg v_84)]).toArray++cap85) F fun v F=>∃v_85,v=(Value.int .i64 v_85)∧
 ∃v5a_,v_5=some v5a_∧Lq F v5a_ fun v_86=>
 ∃v_89:Value,F.cell v4a_=some v_89∧
 Lr F 3 (Am b12 0) fun v_90=>
 Fn v_89 fun k91 fst91 cap91=>ae prog k91 (fst91++([(Value.agg v_90)]).toArray++cap91) F fun v F=>∃v_91,v=(Value.int .i64 v_91)∧
 F.cell v5a_=some (.pointer v_86)∧Ci 210 #[(.pointer v_86),(.int .i64 (min (min v_52 v_57) v_62)),(.int .i64 v_85),(.int .i64 v_91)] F fun v_92 F=>
 ∃v_93:Option Nat,F.cell v2a_=some (.map v_93)∧
 Lr F 3 (Am b6 0) fun v_94=>
 aD prog (Instr.mapUpdate 287 (.map v_93) (.agg v_94) (.int .i64 v_92)) F fun _ F=>
 R (.int .i64 v_92) F
def yn (N1:Int→PH→Prop) (v2a_ v3a_:Addr) (v_4 v_5:Option Addr) (b6:Nat) (v_52 v_57 v_62:Int) (b11 b12:Nat) (R:VR) (v_64:Int) (F:PH):Prop:=
 (Bc (v_64<3) (
  0≤v_64∧v_64<3∧
  Lr F 2 (Addr.add v3a_ (Int.toNat v_64*2)) fun v_72=>
  0≤v_64∧v_64<3∧
  Li F (Addr.add (Am b6 0) (Int.toNat v_64*1)) fun v_75=>
  ae prog 212 #[(.agg v_72),(.int .i64 v_75),(.int .i64 (min (min v_52 v_57) v_62))] F fun v F=>∃v_77,∃v_77_1,v=(.tuple #[(.int .i64 v_77),(.int .i64 v_77_1)])∧
  0≤v_64∧v_64<3∧
  sto F (Addr.add (Am b11 0) (Int.toNat v_64*1)) (.int .i64 v_77) fun F=>
  0≤v_64∧v_64<3∧
  sto F (Addr.add (Am b12 0) (Int.toNat v_64*1)) (.int .i64 v_77_1) fun F=>
  N1 (IntKind.i64.wrap (v_64+1)) F) (
  ym v2a_ v_4 v_5 b6 v_52 v_57 v_62 b11 b12 R F))
def fo (v_1 v_2 v_3 v_4 v_5:Option Addr) (b6:Nat) (v_28:Bool) (R:VR) (F:PH):Prop:=
 (Bb (v_28) (
  ∃v1a_,v_1=some v1a_∧∃v_29:Value,F.cell v1a_=some v_29∧
  0≤(0:Int)∧(0:Int)<3∧
  Li F (Addr.add (Am b6 0) (Int.toNat 0*1)) fun v_31=>
  0≤(1:Int)∧(1:Int)<3∧
  Li F (Addr.add (Am b6 0) (Int.toNat 1*1)) fun v_34=>
  0≤(2:Int)∧(2:Int)<3∧
  Li F (Addr.add (Am b6 0) (Int.toNat 2*1)) fun v_37=>
  Fn v_29 fun k39 fst39 cap39=>ae prog k39 (fst39++([(Value.bool (decide (v_31=1))),(Value.bool (decide (v_34=1))),(Value.bool (decide (v_37=1)))]).toArray++cap39) F fun v F=>∃v_39,v=(Value.bool v_39)∧
  (Bb (v_39) (
   R (.int .i64 1) F) (
   R (.int .i64 0) F))) (
  ∃v2a_,v_2=some v2a_∧∃v_41:Option Nat,F.cell v2a_=some (.map v_41)∧
  Lr F 3 (Am b6 0) fun v_42=>
  ∃(v_43:Int) (ok43_:Bool),rdo prog (Instr.lookup 287 (.map v_41) (.agg v_42) true) F (.tuple #[(.int .i64 v_43),(.bool ok43_)])∧
  (Bb (ok43_) (
   R (.int .i64 v_43) F) (
   ∃v3a_,v_3=some v3a_∧0≤(0:Int)∧(0:Int)<3∧
   Lr F 2 (Addr.add v3a_ (Int.toNat 0*2)) fun v_49=>
   0≤(0:Int)∧(0:Int)<3∧
   Li F (Addr.add (Am b6 0) (Int.toNat 0*1)) fun v_51=>
   0≤(1:Int)∧(1:Int)<3∧
   Lr F 2 (Addr.add v3a_ (Int.toNat 1*2)) fun v_54=>
   0≤(1:Int)∧(1:Int)<3∧
   Li F (Addr.add (Am b6 0) (Int.toNat 1*1)) fun v_56=>
   0≤(2:Int)∧(2:Int)<3∧
   Lr F 2 (Addr.add v3a_ (Int.toNat 2*2)) fun v_59=>
   0≤(2:Int)∧(2:Int)<3∧
   Li F (Addr.add (Am b6 0) (Int.toNat 2*1)) fun v_61=>
   Ci 102 #[(.agg v_49),(.int .i64 v_51)] F fun v_52 F=>
   F.cell (Addr.add (Am b6 0) (Int.toNat 2*1))=some (.int .i64 v_61)∧F.row (Addr.add v3a_ (Int.toNat 2*2)) v_59∧F.cell (Addr.add (Am b6 0) (Int.toNat 1*1))=some (.int .i64 v_56)∧F.row (Addr.add v3a_ (Int.toNat 1*2)) v_54∧Ci 102 #[(.agg v_54),(.int .i64 v_56)] F fun v_57 F=>
   F.cell (Addr.add (Am b6 0) (Int.toNat 2*1))=some (.int .i64 v_61)∧F.row (Addr.add v3a_ (Int.toNat 2*2)) v_59∧Ci 102 #[(.agg v_59),(.int .i64 v_61)] F fun v_62 F=>
   Nb F (.cells (#[.int .i64 0,.int .i64 0,.int .i64 0]) 289) fun b11 F=>
   Nb F (.cells (#[.int .i64 0,.int .i64 0,.int .i64 0]) 289) fun b12 F=>
   (Lp 0 F fun N v_64 F=>
    yn N v2a_ v3a_ v_4 v_5 b6 v_52 v_57 v_62 b11 b12 R v_64 F)))))
def Gp (n_0:Array Value) (v_1 v_2 v_3 v_4 v_5:Option Addr) (R:VR) (F:PH):Prop:=
 Nb F (.cells n_0 289) fun b6 F=>
 0≤(0:Int)∧(0:Int)<3∧
 Li F (Addr.add (Am b6 0) (Int.toNat 0*1)) fun v_17=>
 (Bc (v_17<2) (
  0≤(1:Int)∧(1:Int)<3∧
  Li F (Addr.add (Am b6 0) (Int.toNat 1*1)) fun v_21=>
  (Bc (v_21<2) (
   0≤(2:Int)∧(2:Int)<3∧
   Li F (Addr.add (Am b6 0) (Int.toNat 2*1)) fun v_26=>
   fo v_1 v_2 v_3 v_4 v_5 b6 (decide (v_26<2)) R F) (
   fo v_1 v_2 v_3 v_4 v_5 b6 false R F))) (
  fo v_1 v_2 v_3 v_4 v_5 b6 false R F))
theorem Ma {n_0:Array Value} {v_1:Option Addr} {v_2:Option Addr} {v_3:Option Addr} {v_4:Option Addr} {v_5:Option Addr} (h:Gp n_0 v_1 v_2 v_3 v_4 v_5 R F):ae prog 211 #[(.agg n_0),(.pointer v_1),(.pointer v_2),(.pointer v_3),(.pointer v_4),(.pointer v_5)] F R:=Rx.sxC (args:=[(.agg n_0),(.pointer v_1),(.pointer v_2),(.pointer v_3),(.pointer v_4),(.pointer v_5)]) (.T .N (.T (.J false [(28,.bool)] .N .N) (.T .N (.T .N (.T .N (.J false [] (.T .N (.L [(64,.int .i64)] .N)) .N)))))) (by kernel_rfl) h
def Gq (d_0:Array Value) (n_1 v_2:Int) (R:VR) (F:PH):Prop:=
 Nb F (.cells d_0 33) fun b3 F=>
 Lr F 2 (Am b3 0) fun v_8=>
 Ci 102 #[(.agg v_8),(.int .i64 n_1)] F fun v_10 F=>
 (Bc (v_10≠v_2) (
  R (.tuple #[(.int .i64 n_1),(.int .i64 n_1)]) F) (
  Ls F (Am b3 0) fun v_16=>
  Ix v_16 (IntKind.i64.wrap (n_1 - 2)) fun a19_=>
  ∃v_21,F.cell (Addr.add (Addr.add a19_ (Int.toNat (IntKind.i64.wrap (n_1 - 2))*3)) 1)=some (.int .i64 v_21)∧
  Ls F (Am b3 0) fun v_23=>
  Ix v_23 (IntKind.i64.wrap (n_1 - 2)) fun a26_=>
  ∃v_28,F.cell (Addr.add (Addr.add a26_ (Int.toNat (IntKind.i64.wrap (n_1 - 2))*3)) 2)=some (.int .i64 v_28)∧
  R (.tuple #[(.int .i64 v_21),(.int .i64 v_28)]) F))
theorem Mb {d_0:Array Value} {n_1:Int} {v_2:Int} (h:Gq d_0 n_1 v_2 R F):ae prog 212 #[(.agg d_0),(.int .i64 n_1),(.int .i64 v_2)] F R:=Rx.sxC (args:=[(.agg d_0),(.int .i64 n_1),(.int .i64 v_2)]) .N (by kernel_rfl) h
def CZ (n_0:Int) (v_1 v_2 v_3 v_4:Option Addr) (R:VR) (F:PH):Prop:=
 ∃v1a_,v_1=some v1a_∧∃v_13:Option Nat,F.cell v1a_=some (.map v_13)∧
 ∃(v_15:Int) (ok15_:Bool),rdo prog (Instr.lookup 299 (.map v_13) (.int .i64 n_0) true) F (.tuple #[(.int .i64 v_15),(.bool ok15_)])∧
 (Bb (ok15_) (
  R (.int .i64 v_15) F) (
  ∃v2a_,v_2=some v2a_∧Lq F v2a_ fun v_20=>
  ∃v20a_,v_20=some v20a_∧Ls F v20a_ fun v_23=>
  Ix v_23 (IntKind.i64.wrap (n_0 - 2)) fun a26_=>
  ∃v_27,v_27.size=3∧F.row (Addr.add a26_ (Int.toNat (IntKind.i64.wrap (n_0 - 2))*3)) v_27∧
  Nb F (.cells (#[.int .i64 0,.int .i64 0,.int .i64 0]) 103) fun b9 F=>
  aA F (Am b9 0) 3 v_27 fun F=>
  ∃v3a_,v_3=some v3a_∧∃v_28:Value,F.cell v3a_=some v_28∧
  Li F (Am b9 1) fun v_30=>
  Fn v_28 fun k31 fst31 cap31=>ae prog k31 (fst31++([(Value.int .i64 v_30)]).toArray++cap31) F fun v F=>∃v_31,v=(Value.int .i64 v_31)∧
  ∃v_32:Value,F.cell v3a_=some v_32∧
  Li F (Am b9 2) fun v_34=>
  Fn v_32 fun k35 fst35 cap35=>ae prog k35 (fst35++([(Value.int .i64 v_34)]).toArray++cap35) F fun v F=>∃v_35,v=(Value.int .i64 v_35)∧
  ∃v4a_,v_4=some v4a_∧Ls F v4a_ fun v_37=>
  Li F (Am b9 0) fun v_39=>
  (#[(.int .i64 v_39),(.int .i64 v_31),(.int .i64 v_35)]:Array Value).size=3∧Nb F (.cells (#[(.int .i64 v_39),(.int .i64 v_31),(.int .i64 v_35)]:Array Value) 103) fun b43 F=>
  Ap 31 #[(Sl.v v_37),(Sl.v (Sb b43 1))] F fun v_44 F=>
  sto F v4a_ (Sl.v v_44) fun F=>
  ∃v_46:Option Nat,F.cell v1a_=some (.map v_46)∧
  Ls F v4a_ fun v_49=>
  aD prog (Instr.mapUpdate 299 (.map v_46) (.int .i64 n_0) (.int .i64 (IntKind.i64.wrap ((v_49.len:Int)+1)))) F fun _ F=>
  ∃v_52:Option Nat,F.cell v1a_=some (.map v_52)∧
  ∃v_54,rdo prog (Instr.lookup 299 (.map v_52) (.int .i64 n_0) false) F (.int .i64 v_54)∧
  R (.int .i64 v_54) F))
theorem Gs {n_0:Int} {v_1:Option Addr} {v_2:Option Addr} {v_3:Option Addr} {v_4:Option Addr} (h:CZ n_0 v_1 v_2 v_3 v_4 R F):ae prog 215 #[(.int .i64 n_0),(.pointer v_1),(.pointer v_2),(.pointer v_3),(.pointer v_4)] F R:=Rx.sxC (args:=[(.int .i64 n_0),(.pointer v_1),(.pointer v_2),(.pointer v_3),(.pointer v_4)]) .N (by kernel_rfl) h
variable {R:VR} {F:PH}
set_option maxRecDepth 10000
set_option maxHeartbeats 4000000
def C0 (R:VR) (F:PH):Prop:=
 R (.bool true) F
def wP (N1:Int→PH→Prop) (s1_0 s2_1:Sl) (R:VR) (v_13:Int) (F:PH):Prop:=
 (Bc (v_13<(s1_0.len:Int)) (
  Ix s1_0 v_13 fun a18_=>
  Lx F (Addr.add a18_ (Int.toNat v_13*1)) fun v_19=>
  Ix s2_1 v_13 fun a22_=>
  Lx F (Addr.add a22_ (Int.toNat v_13*1)) fun v_23=>
  (Bb ((!(v_19.toList==v_23.toList))) (
   R (.bool false) F) (
   N1 (IntKind.i64.wrap (v_13+1)) F))) (
  C0 R F))
def Mc (s1_0 s2_1:Sl) (R:VR) (F:PH):Prop:=
 (Bc ((s1_0.len:Int)≠(s2_1.len:Int)) (
  R (.bool false) F) (
  (Lp 0 F fun N v_13 F=>
   wP N s1_0 s2_1 R v_13 F)))
theorem Pk {s1_0:Sl} {s2_1:Sl} (h:Mc s1_0 s2_1 R F):ae prog 61 #[(Sl.v s1_0),(Sl.v s2_1)] F R:=Rx.sxC (args:=[(Sl.v s1_0),(Sl.v s2_1)]) (.T .N (.T .N (.J false [] (.T .N (.L [(13,.int .i64)] .N)) .N))) (by kernel_rfl) h
def JC (R:VR) (F:PH):Prop:=
 R (.bool true) F
def JD (N1:Int→PH→Prop) (s2_1:Sl) (eq_2:Value) (s1_0:Sl) (R:VR) (v_17:Int) (F:PH):Prop:=
 (Bc (v_17<(s1_0.len:Int)) (
  Ix s1_0 v_17 fun a20_=>
  Lr F 7 (Addr.add a20_ (Int.toNat v_17*7)) fun v_21=>
  Nb F (.cells zT 79) fun b8 F=>
  aA F (Am b8 0) 7 v_21 fun F=>
  Ix s2_1 v_17 fun a24_=>
  Lr F 7 (Addr.add a24_ (Int.toNat v_17*7)) fun v_25=>
  Nb F (.cells zT 79) fun b9 F=>
  aA F (Am b9 0) 7 v_25 fun F=>
  Lr F 7 (Am b8 0) fun v_27=>
  Lr F 7 (Am b9 0) fun v_28=>
  Fn eq_2 fun k29 fst29 cap29=>ae prog k29 (fst29++([(Value.agg v_27),(Value.agg v_28)]).toArray++cap29) F fun v F=>∃v_29,v=(Value.bool v_29)∧
  (Bb ((!v_29)) (
   R (.bool false) F) (
   N1 (IntKind.i64.wrap (v_17+1)) F))) (
  JC R F))
def Pm (s1_0 s2_1:Sl) (eq_2:Value) (R:VR) (F:PH):Prop:=
 (Bc ((s1_0.len:Int)≠(s2_1.len:Int)) (
  R (.bool false) F) (
  (Lp 0 F fun N v_17 F=>
   JD N s2_1 eq_2 s1_0 R v_17 F)))
theorem Po {s1_0:Sl} {s2_1:Sl} {eq_2:Value} (h:Pm s1_0 s2_1 eq_2 R F):ae prog 62 #[(Sl.v s1_0),(Sl.v s2_1),eq_2] F R:=Rx.sxC (args:=[(Sl.v s1_0),(Sl.v s2_1),eq_2]) (.T .N (.T .N (.J false [] (.T .N (.L [(17,.int .i64)] .N)) .N))) (by kernel_rfl) h
def JE (R:VR) (F:PH):Prop:=
 R (.bool true) F
def JF (N1:Int→PH→Prop) (s1_0 s2_1:Sl) (R:VR) (v_13:Int) (F:PH):Prop:=
 (Bc (v_13<(s1_0.len:Int)) (
  Ix s1_0 v_13 fun a18_=>
  Lr F 5 (Addr.add a18_ (Int.toNat v_13*5)) fun v_19=>
  Ix s2_1 v_13 fun a22_=>
  Lr F 5 (Addr.add a22_ (Int.toNat v_13*5)) fun v_23=>
  ∃v_24,(∀F,rdo prog (Op.equal 97 (.agg v_19) (.agg v_23)) F v_24)∧
  (Bb ((!v_24)) (
   R (.bool false) F) (
   N1 (IntKind.i64.wrap (v_13+1)) F))) (
  JE R F))
def Pp (s1_0 s2_1:Sl) (R:VR) (F:PH):Prop:=
 (Bc ((s1_0.len:Int)≠(s2_1.len:Int)) (
  R (.bool false) F) (
  (Lp 0 F fun N v_13 F=>
   JF N s1_0 s2_1 R v_13 F)))
theorem Pq {s1_0:Sl} {s2_1:Sl} (h:Pp s1_0 s2_1 R F):ae prog 64 #[(Sl.v s1_0),(Sl.v s2_1)] F R:=Rx.sxC (args:=[(Sl.v s1_0),(Sl.v s2_1)]) (.T .N (.T .N (.J false [] (.T .N (.L [(13,.int .i64)] .N)) .N))) (by kernel_rfl) h
def JG (R:VR) (F:PH):Prop:=
 R (.bool true) F
def JH (N1:Int→PH→Prop) (s2_1:Sl) (eq_2:Value) (s1_0:Sl) (R:VR) (v_17:Int) (F:PH):Prop:=
 (Bc (v_17<(s1_0.len:Int)) (
  Ix s1_0 v_17 fun a20_=>
  Lr F 13 (Addr.add a20_ (Int.toNat v_17*13)) fun v_21=>
  Nb F (.cells zP 67) fun b8 F=>
  aA F (Am b8 0) 13 v_21 fun F=>
  Ix s2_1 v_17 fun a24_=>
  Lr F 13 (Addr.add a24_ (Int.toNat v_17*13)) fun v_25=>
  Nb F (.cells zP 67) fun b9 F=>
  aA F (Am b9 0) 13 v_25 fun F=>
  Lr F 13 (Am b8 0) fun v_27=>
  Lr F 13 (Am b9 0) fun v_28=>
  Fn eq_2 fun k29 fst29 cap29=>ae prog k29 (fst29++([(Value.agg v_27),(Value.agg v_28)]).toArray++cap29) F fun v F=>∃v_29,v=(Value.bool v_29)∧
  (Bb ((!v_29)) (
   R (.bool false) F) (
   N1 (IntKind.i64.wrap (v_17+1)) F))) (
  JG R F))
def Ps (s1_0 s2_1:Sl) (eq_2:Value) (R:VR) (F:PH):Prop:=
 (Bc ((s1_0.len:Int)≠(s2_1.len:Int)) (
  R (.bool false) F) (
  (Lp 0 F fun N v_17 F=>
   JH N s2_1 eq_2 s1_0 R v_17 F)))
theorem Pt {s1_0:Sl} {s2_1:Sl} {eq_2:Value} (h:Ps s1_0 s2_1 eq_2 R F):ae prog 65 #[(Sl.v s1_0),(Sl.v s2_1),eq_2] F R:=Rx.sxC (args:=[(Sl.v s1_0),(Sl.v s2_1),eq_2]) (.T .N (.T .N (.J false [] (.T .N (.L [(17,.int .i64)] .N)) .N))) (by kernel_rfl) h
def JI (R:VR) (F:PH):Prop:=
 R (.bool true) F
def JJ (N1:Int→PH→Prop) (s1_0 s2_1:Sl) (R:VR) (v_13:Int) (F:PH):Prop:=
 (Bc (v_13<(s1_0.len:Int)) (
  Ix s1_0 v_13 fun a18_=>
  Lr F 2 (Addr.add a18_ (Int.toNat v_13*2)) fun v_19=>
  Ix s2_1 v_13 fun a22_=>
  Lr F 2 (Addr.add a22_ (Int.toNat v_13*2)) fun v_23=>
  ∃v_24,(∀F,rdo prog (Op.equal 69 (.agg v_19) (.agg v_23)) F v_24)∧
  (Bb ((!v_24)) (
   R (.bool false) F) (
   N1 (IntKind.i64.wrap (v_13+1)) F))) (
  JI R F))
def Pu (s1_0 s2_1:Sl) (R:VR) (F:PH):Prop:=
 (Bc ((s1_0.len:Int)≠(s2_1.len:Int)) (
  R (.bool false) F) (
  (Lp 0 F fun N v_13 F=>
   JJ N s1_0 s2_1 R v_13 F)))
theorem Pv {s1_0:Sl} {s2_1:Sl} (h:Pu s1_0 s2_1 R F):ae prog 67 #[(Sl.v s1_0),(Sl.v s2_1)] F R:=Rx.sxC (args:=[(Sl.v s1_0),(Sl.v s2_1)]) (.T .N (.T .N (.J false [] (.T .N (.L [(13,.int .i64)] .N)) .N))) (by kernel_rfl) h
def JK (R:VR) (F:PH):Prop:=
 R (.bool true) F
def JL (N1:Int→PH→Prop) (s1_0 s2_1:Sl) (R:VR) (v_13:Int) (F:PH):Prop:=
 (Bc (v_13<(s1_0.len:Int)) (
  Ix s1_0 v_13 fun a18_=>
  Lr F 3 (Addr.add a18_ (Int.toNat v_13*3)) fun v_19=>
  Ix s2_1 v_13 fun a22_=>
  Lr F 3 (Addr.add a22_ (Int.toNat v_13*3)) fun v_23=>
  ∃v_24,(∀F,rdo prog (Op.equal 101 (.agg v_19) (.agg v_23)) F v_24)∧
  (Bb ((!v_24)) (
   R (.bool false) F) (
   N1 (IntKind.i64.wrap (v_13+1)) F))) (
  JK R F))
def Pw (s1_0 s2_1:Sl) (R:VR) (F:PH):Prop:=
 (Bc ((s1_0.len:Int)≠(s2_1.len:Int)) (
  R (.bool false) F) (
  (Lp 0 F fun N v_13 F=>
   JL N s1_0 s2_1 R v_13 F)))
theorem Px {s1_0:Sl} {s2_1:Sl} (h:Pw s1_0 s2_1 R F):ae prog 68 #[(Sl.v s1_0),(Sl.v s2_1)] F R:=Rx.sxC (args:=[(Sl.v s1_0),(Sl.v s2_1)]) (.T .N (.T .N (.J false [] (.T .N (.L [(13,.int .i64)] .N)) .N))) (by kernel_rfl) h
def JM (R:VR) (F:PH):Prop:=
 R (.bool true) F
def JN (N1:Int→PH→Prop) (s2_1:Sl) (eq_2:Value) (s1_0:Sl) (R:VR) (v_17:Int) (F:PH):Prop:=
 (Bc (v_17<(s1_0.len:Int)) (
  Ix s1_0 v_17 fun a20_=>
  Lr F 4 (Addr.add a20_ (Int.toNat v_17*4)) fun v_21=>
  Nb F (.cells zL 72) fun b8 F=>
  aA F (Am b8 0) 4 v_21 fun F=>
  Ix s2_1 v_17 fun a24_=>
  Lr F 4 (Addr.add a24_ (Int.toNat v_17*4)) fun v_25=>
  Nb F (.cells zL 72) fun b9 F=>
  aA F (Am b9 0) 4 v_25 fun F=>
  Lr F 4 (Am b8 0) fun v_27=>
  Lr F 4 (Am b9 0) fun v_28=>
  Fn eq_2 fun k29 fst29 cap29=>ae prog k29 (fst29++([(Value.agg v_27),(Value.agg v_28)]).toArray++cap29) F fun v F=>∃v_29,v=(Value.bool v_29)∧
  (Bb ((!v_29)) (
   R (.bool false) F) (
   N1 (IntKind.i64.wrap (v_17+1)) F))) (
  JM R F))
def Py (s1_0 s2_1:Sl) (eq_2:Value) (R:VR) (F:PH):Prop:=
 (Bc ((s1_0.len:Int)≠(s2_1.len:Int)) (
  R (.bool false) F) (
  (Lp 0 F fun N v_17 F=>
   JN N s2_1 eq_2 s1_0 R v_17 F)))
theorem Pz {s1_0:Sl} {s2_1:Sl} {eq_2:Value} (h:Py s1_0 s2_1 eq_2 R F):ae prog 69 #[(Sl.v s1_0),(Sl.v s2_1),eq_2] F R:=Rx.sxC (args:=[(Sl.v s1_0),(Sl.v s2_1),eq_2]) (.T .N (.T .N (.J false [] (.T .N (.L [(17,.int .i64)] .N)) .N))) (by kernel_rfl) h
def C1 (R:VR) (F:PH):Prop:=
 R (.bool true) F
def wQ (N1:Int→PH→Prop) (s1_0 s2_1:Sl) (R:VR) (v_13:Int) (F:PH):Prop:=
 (Bc (v_13<(s1_0.len:Int)) (
  Ix s1_0 v_13 fun a18_=>
  Li F (Addr.add a18_ (Int.toNat v_13*1)) fun v_19=>
  Ix s2_1 v_13 fun a22_=>
  Li F (Addr.add a22_ (Int.toNat v_13*1)) fun v_23=>
  (Bc (v_19≠v_23) (
   R (.bool false) F) (
   N1 (IntKind.i64.wrap (v_13+1)) F))) (
  C1 R F))
def Md (s1_0 s2_1:Sl) (R:VR) (F:PH):Prop:=
 (Bc ((s1_0.len:Int)≠(s2_1.len:Int)) (
  R (.bool false) F) (
  (Lp 0 F fun N v_13 F=>
   wQ N s1_0 s2_1 R v_13 F)))
theorem PA {s1_0:Sl} {s2_1:Sl} (h:Md s1_0 s2_1 R F):ae prog 71 #[(Sl.v s1_0),(Sl.v s2_1)] F R:=Rx.sxC (args:=[(Sl.v s1_0),(Sl.v s2_1)]) (.T .N (.T .N (.J false [] (.T .N (.L [(13,.int .i64)] .N)) .N))) (by kernel_rfl) h
def JO (R:VR) (F:PH):Prop:=
 R (.bool true) F
def JP (N1:Int→PH→Prop) (s2_1:Sl) (eq_2:Value) (s1_0:Sl) (R:VR) (v_17:Int) (F:PH):Prop:=
 (Bc (v_17<(s1_0.len:Int)) (
  Ix s1_0 v_17 fun a20_=>
  Lr F 9 (Addr.add a20_ (Int.toNat v_17*9)) fun v_21=>
  Nb F (.cells zF 74) fun b8 F=>
  aA F (Am b8 0) 9 v_21 fun F=>
  Ix s2_1 v_17 fun a24_=>
  Lr F 9 (Addr.add a24_ (Int.toNat v_17*9)) fun v_25=>
  Nb F (.cells zF 74) fun b9 F=>
  aA F (Am b9 0) 9 v_25 fun F=>
  Lr F 9 (Am b8 0) fun v_27=>
  Lr F 9 (Am b9 0) fun v_28=>
  Fn eq_2 fun k29 fst29 cap29=>ae prog k29 (fst29++([(Value.agg v_27),(Value.agg v_28)]).toArray++cap29) F fun v F=>∃v_29,v=(Value.bool v_29)∧
  (Bb ((!v_29)) (
   R (.bool false) F) (
   N1 (IntKind.i64.wrap (v_17+1)) F))) (
  JO R F))
def PB (s1_0 s2_1:Sl) (eq_2:Value) (R:VR) (F:PH):Prop:=
 (Bc ((s1_0.len:Int)≠(s2_1.len:Int)) (
  R (.bool false) F) (
  (Lp 0 F fun N v_17 F=>
   JP N s2_1 eq_2 s1_0 R v_17 F)))
theorem PC {s1_0:Sl} {s2_1:Sl} {eq_2:Value} (h:PB s1_0 s2_1 eq_2 R F):ae prog 72 #[(Sl.v s1_0),(Sl.v s2_1),eq_2] F R:=Rx.sxC (args:=[(Sl.v s1_0),(Sl.v s2_1),eq_2]) (.T .N (.T .N (.J false [] (.T .N (.L [(17,.int .i64)] .N)) .N))) (by kernel_rfl) h
def JQ (R:VR) (F:PH):Prop:=
 R (.bool true) F
def C2 (N1:Int→PH→Prop) (s1_0 s2_1:Sl) (R:VR) (v_13:Int) (F:PH):Prop:=
 (Bc (v_13<(s1_0.len:Int)) (
  Ix s1_0 v_13 fun a18_=>
  Lr F 3 (Addr.add a18_ (Int.toNat v_13*3)) fun v_19=>
  Ix s2_1 v_13 fun a22_=>
  Lr F 3 (Addr.add a22_ (Int.toNat v_13*3)) fun v_23=>
  ∃v_24,(∀F,rdo prog (Op.equal 103 (.agg v_19) (.agg v_23)) F v_24)∧
  (Bb ((!v_24)) (
   R (.bool false) F) (
   N1 (IntKind.i64.wrap (v_13+1)) F))) (
  JQ R F))
def Me (s1_0 s2_1:Sl) (R:VR) (F:PH):Prop:=
 (Bc ((s1_0.len:Int)≠(s2_1.len:Int)) (
  R (.bool false) F) (
  (Lp 0 F fun N v_13 F=>
   C2 N s1_0 s2_1 R v_13 F)))
theorem PD {s1_0:Sl} {s2_1:Sl} (h:Me s1_0 s2_1 R F):ae prog 98 #[(Sl.v s1_0),(Sl.v s2_1)] F R:=Rx.sxC (args:=[(Sl.v s1_0),(Sl.v s2_1)]) (.T .N (.T .N (.J false [] (.T .N (.L [(13,.int .i64)] .N)) .N))) (by kernel_rfl) h
def Gt (s_0:Sl) (f_1:Value) (R:VR) (F:PH):Prop:=
 Ci 197 #[(Sl.v s_0),f_1] F fun v_7 F=>
 R (.bool (decide (0≤v_7))) F
theorem Mf {s_0:Sl} {f_1:Value} (h:Gt s_0 f_1 R F):ae prog 145 #[(Sl.v s_0),f_1] F R:=Rx.sxC (args:=[(Sl.v s_0),f_1]) .N (by kernel_rfl) h
def Gu (s_0:Sl) (f_1:Value) (R:VR) (F:PH):Prop:=
 Ci 206 #[(Sl.v s_0),f_1] F fun v_7 F=>
 R (.bool (decide (0≤v_7))) F
theorem Mg {s_0:Sl} {f_1:Value} (h:Gu s_0 f_1 R F):ae prog 154 #[(Sl.v s_0),f_1] F R:=Rx.sxC (args:=[(Sl.v s_0),f_1]) .N (by kernel_rfl) h
def ES (R:VR) (F:PH):Prop:=
 R (.int .i64 (-1:Int)) F
def ET (N1:Int→PH→Prop) (s_0:Sl) (f_1:Value) (R:VR) (v_8:Int) (F:PH):Prop:=
 (Bc (v_8<(s_0.len:Int)) (
  Ix s_0 v_8 fun a14_=>
  Lr F 13 (Addr.add a14_ (Int.toNat v_8*13)) fun v_15=>
  Fn f_1 fun k16 fst16 cap16=>ae prog k16 (fst16++([(Value.agg v_15)]).toArray++cap16) F fun v F=>∃v_16,v=(Value.bool v_16)∧
  (Bb (v_16) (
   R (.int .i64 v_8) F) (
   N1 (IntKind.i64.wrap (v_8+1)) F))) (
  ES R F))
def Mh (s_0:Sl) (f_1:Value) (R:VR) (F:PH):Prop:=
 (Lp 0 F fun N v_8 F=>
  ET N s_0 f_1 R v_8 F)
theorem Mi {s_0:Sl} {f_1:Value} (h:Mh s_0 f_1 R F):ae prog 197 #[(Sl.v s_0),f_1] F R:=Rx.sxC (args:=[(Sl.v s_0),f_1]) (.T .N (.J false [] (.T .N (.L [(8,.int .i64)] .N)) .N)) (by kernel_rfl) h
def Gv (s_0:Sl) (f_1:Value) (R:VR) (F:PH):Prop:=
 Ci 221 #[(Sl.v s_0),f_1] F fun v_7 F=>
 R (.bool (decide (0≤v_7))) F
theorem Mj {s_0:Sl} {f_1:Value} (h:Gv s_0 f_1 R F):ae prog 199 #[(Sl.v s_0),f_1] F R:=Rx.sxC (args:=[(Sl.v s_0),f_1]) .N (by kernel_rfl) h
def EU (R:VR) (F:PH):Prop:=
 R (.int .i64 (-1:Int)) F
def EV (N1:Int→PH→Prop) (s_0:Sl) (f_1:Value) (R:VR) (v_8:Int) (F:PH):Prop:=
 (Bc (v_8<(s_0.len:Int)) (
  Ix s_0 v_8 fun a14_=>
  Lr F 2 (Addr.add a14_ (Int.toNat v_8*2)) fun v_15=>
  Fn f_1 fun k16 fst16 cap16=>ae prog k16 (fst16++([(Value.agg v_15)]).toArray++cap16) F fun v F=>∃v_16,v=(Value.bool v_16)∧
  (Bb (v_16) (
   R (.int .i64 v_8) F) (
   N1 (IntKind.i64.wrap (v_8+1)) F))) (
  EU R F))
def Mk (s_0:Sl) (f_1:Value) (R:VR) (F:PH):Prop:=
 (Lp 0 F fun N v_8 F=>
  EV N s_0 f_1 R v_8 F)
theorem Ml {s_0:Sl} {f_1:Value} (h:Mk s_0 f_1 R F):ae prog 206 #[(Sl.v s_0),f_1] F R:=Rx.sxC (args:=[(Sl.v s_0),f_1]) (.T .N (.J false [] (.T .N (.L [(8,.int .i64)] .N)) .N)) (by kernel_rfl) h
def EW (R:VR) (F:PH):Prop:=
 R (.int .i64 (-1:Int)) F
def EX (N1:Int→PH→Prop) (s_0:Sl) (f_1:Value) (R:VR) (v_8:Int) (F:PH):Prop:=
 (Bc (v_8<(s_0.len:Int)) (
  Ix s_0 v_8 fun a14_=>
  Lr F 3 (Addr.add a14_ (Int.toNat v_8*3)) fun v_15=>
  Fn f_1 fun k16 fst16 cap16=>ae prog k16 (fst16++([(Value.agg v_15)]).toArray++cap16) F fun v F=>∃v_16,v=(Value.bool v_16)∧
  (Bb (v_16) (
   R (.int .i64 v_8) F) (
   N1 (IntKind.i64.wrap (v_8+1)) F))) (
  EW R F))
def Mm (s_0:Sl) (f_1:Value) (R:VR) (F:PH):Prop:=
 (Lp 0 F fun N v_8 F=>
  EX N s_0 f_1 R v_8 F)
theorem Mn {s_0:Sl} {f_1:Value} (h:Mm s_0 f_1 R F):ae prog 221 #[(Sl.v s_0),f_1] F R:=Rx.sxC (args:=[(Sl.v s_0),f_1]) (.T .N (.J false [] (.T .N (.L [(8,.int .i64)] .N)) .N)) (by kernel_rfl) h
end Go.Proofs.YtenpmjhnhepfdaaGreatDoor
