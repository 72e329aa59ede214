/-
  Patterns as trees: the strings that they match, and the places that a match can begin and end with and that can follow one another.
-/
import Derived.Test.YtenpmjhnhepfdaaGreatDoorPhp
import Derived.Test.YtenpmjhnhepfdaaGreatDoorPhz
import Derived.Test.YtenpmjhnhepfdaaGreatDoorPhn
namespace Go.Proofs.YtenpmjhnhepfdaaGreatDoor
open Go Go.Proofs.Tryz
variable {R:VR} {F:PH}
set_option maxRecDepth 10000
set_option maxHeartbeats 4000000
def Ju (a_0 b_1:Array Value) (R:VR) (F:PH):Prop:=
 Nb F (.cells a_0 33) fun b2 F=>
 Nb F (.cells b_1 33) fun b3 F=>
 Li F (Am b2 1) fun v_6=>
 Li F (Am b3 1) fun v_8=>
 (Bc (v_6=v_8) (
  Ls F (Am b2 0) fun v_12=>
  Ls F (Am b3 0) fun v_14=>
  Cbo 98 #[(Sl.v v_12),(Sl.v v_14)] F fun v_15 F=>
  R (.bool v_15) F) (
  R (.bool false) F))
theorem M8 {a_0:Array Value} {b_1:Array Value} (h:Ju a_0 b_1 R F):ae prog 29 #[(.agg a_0),(.agg b_1)] F R:=Rx.sxC (args:=[(.agg a_0),(.agg b_1)]) .N (by kernel_rfl) h
def Jv (value_0:Bool) (R:VR) (F:PH):Prop:=
 Nb F (.cells zD 33) fun b2 F=>
 (Bb (value_0) (
  az F (Am b2 0) 2 (#[.slice none 0 0,(.int .i64 1)]:Array Value) fun F=>
  Rr 2 (Am b2 0) R F) (
  az F (Am b2 0) 2 zD fun F=>
  Rr 2 (Am b2 0) R F))
theorem M9 {value_0:Bool} (h:Jv value_0 R F):ae prog 30 #[(.bool value_0)] F R:=Rx.sxC (args:=[(.bool value_0)]) .N (by kernel_rfl) h
def A0 (n_5:Int) (R:VR) (F:PH):Prop:=
 R (.bool (decide (n_5=1))) F
def A1 (N1:Int→PH→Prop) (c_1:Int) (b2:Nat) (R:VR) (n_5_1:Int) (F:PH):Prop:=
 (Bc (1<n_5_1) (
  Ls F (Am b2 0) fun v_15=>
  Ix v_15 (IntKind.i64.wrap (n_5_1 - 2)) fun a18_=>
  ∃v_19,v_19.size=3∧F.row (Addr.add a18_ (Int.toNat (IntKind.i64.wrap (n_5_1 - 2))*3)) v_19∧
  Nb F (.cells (#[.int .i64 0,.int .i64 0,.int .i64 0]) 103) fun b6 F=>
  az F (Am b6 0) 3 v_19 fun F=>
  Li F (Am b6 0) fun v_22=>
  0≤v_22∧(Bc ((IntKind.u64.wrap ((BitVec.ofInt (IntKind.u64).bits (Int.fdiv c_1 (2 ^ (min (Int.toNat v_22) (IntKind.u64).bits))) &&& BitVec.ofInt (IntKind.u64).bits 1).toNat))=1) (
   Li F (Am b6 2) fun v_27=>
   N1 v_27 F) (
   Li F (Am b6 1) fun v_29=>
   N1 v_29 F))) (
  A0 n_5_1 R F))
def Jw (a_0:Array Value) (c_1:Int) (R:VR) (F:PH):Prop:=
 Nb F (.cells a_0 33) fun b2 F=>
 Lr F 2 (Am b2 0) fun v_7=>
 Ci 99 #[(.agg v_7)] F fun v_8 F=>
 (Bc (v_8≠0) (
  R (.bool false) F) (
  Li F (Am b2 1) fun v_11=>
  (Lp v_11 F fun N n_5_1 F=>
   A1 N c_1 b2 R n_5_1 F)))
theorem Na {a_0:Array Value} {c_1:Int} (h:Jw a_0 c_1 R F):ae prog 31 #[(.agg a_0),(.int .u64 c_1)] F R:=Rx.sxC (args:=[(.agg a_0),(.int .u64 c_1)]) (.T .N (.T .N (.T .N (.J false [(5,.int .i64)] (.L [(5,.int .i64)] .N) .N)))) (by kernel_rfl) h
def nU (v_1:Int) (value_2:Bool) (b3 b6:Nat) (v_20:Bool) (R:VR) (F:PH):Prop:=
 (Bb (v_20) (
  az F (Am b6 0) 2 zD fun F=>
  Lr F 2 (Am b6 0) fun vres_6_1=>R (.tuple #[(.agg vres_6_1),(.int .i64 1)]) F) (
  Lr F 2 (Am b3 0) fun v_22=>
  Ca 161 #[(.agg v_22),(.int .i64 v_1),(.bool value_2)] F fun v_25 F=>
  ae prog 160 #[(.agg v_25)] F fun v F=>∃v_26,∃v_26_1,v=(.tuple #[(.agg v_26),(.int .i64 v_26_1)])∧
  az F (Am b6 0) 2 v_26 fun F=>
  Lr F 2 (Am b6 0) fun vres_6_2=>R (.tuple #[(.agg vres_6_2),(.int .i64 v_26_1)]) F))
def Jx (a_0:Array Value) (v_1:Int) (value_2:Bool) (R:VR) (F:PH):Prop:=
 Nb F (.cells a_0 33) fun b3 F=>
 Nb F (.cells zD 33) fun b6 F=>
 Lr F 2 (Am b3 0) fun v_9=>
 Ci 99 #[(.agg v_9)] F fun v_10 F=>
 (Bc (v_10≠0) (
  az F (Am b6 0) 2 zD fun F=>
  Lr F 2 (Am b6 0) fun vres_6=>R (.tuple #[(.agg vres_6),(.int .i64 v_10)]) F) (
  (Bc (v_1<0) (
   nU v_1 value_2 b3 b6 true R F) (
   nU v_1 value_2 b3 b6 (decide (63<v_1)) R F))))
theorem Nc {a_0:Array Value} {v_1:Int} {value_2:Bool} (h:Jx a_0 v_1 value_2 R F):ae prog 92 #[(.agg a_0),(.int .i64 v_1),(.bool value_2)] F R:=Rx.sxC (args:=[(.agg a_0),(.int .i64 v_1),(.bool value_2)]) (.T .N (.T .N (.T (.J false [(20,.bool)] .N .N) .N))) (by kernel_rfl) h
def A2 (b1:Nat) (R:VR) (F:PH):Prop:=
 Li F (Am b1 1) fun v_84=>
 (Bc (v_84<0) (
  R (.int .i64 20) F) (
  Li F (Am b1 1) fun v_88=>
  Ls F (Am b1 0) fun v_90=>
  (Bc ((IntKind.i64.wrap ((v_90.len:Int)+1))<v_88) (
   R (.int .i64 20) F) (
   Ls F (Am b1 0) fun v_96=>
   Nb F (.cells (#[(Sl.v v_96),.map none]:Array Value) 228) fun b98 F=>
   Li F (Am b1 1) fun v_100=>
   Ca 167 #[(.pointer (some (Am b98 0))),(.int .i64 v_100)] F fun v_101 F=>
   Nb F (.cells zD 33) fun b6 F=>
   az F (Am b6 0) 2 v_101 fun F=>
   Lr F 2 (Am b6 0) fun v_102=>
   Lr F 2 (Am b1 0) fun v_103=>
   Cbo 29 #[(.agg v_102),(.agg v_103)] F fun v_104 F=>
   (Bb ((!v_104)) (
    R (.int .i64 20) F) (
    R (.int .i64 0) F))))))
def A3 (N1:Int→PH→Prop) (b1 b11:Nat) (v_13:Sl) (R:VR) (v_15:Int) (F:PH):Prop:=
 (Bc (v_15<(v_13.len:Int)) (
  Ix v_13 v_15 fun a18_=>
  Lr F 3 (Addr.add a18_ (Int.toNat v_15*3)) fun v_19=>
  Nb F (.cells (#[.int .i64 0,.int .i64 0,.int .i64 0]) 103) fun b5 F=>
  az F (Am b5 0) 3 v_19 fun F=>
  Li F (Am b5 0) fun v_21=>
  (Bc (v_21<0) (
   R (.int .i64 20) F) (
   Li F (Am b5 0) fun v_25=>
   (Bc (63<v_25) (
    R (.int .i64 20) F) (
    Li F (Am b5 1) fun v_30=>
    (Bc (v_30<0) (
     R (.int .i64 20) F) (
     Li F (Am b5 2) fun v_35=>
     (Bc (v_35<0) (
      R (.int .i64 20) F) (
      Li F (Am b5 1) fun v_40=>
      (Bc ((IntKind.i64.wrap (v_15+1))<v_40) (
       R (.int .i64 20) F) (
       Li F (Am b5 2) fun v_47=>
       (Bc ((IntKind.i64.wrap (v_15+1))<v_47) (
        R (.int .i64 20) F) (
        Li F (Am b5 1) fun v_54=>
        Li F (Am b5 2) fun v_56=>
        (Bc (v_54=v_56) (
         R (.int .i64 20) F) (
         Lr F 3 (Am b5 0) fun v_61=>
         ∃v_62,rdo prog (Instr.lookup 224 (.map (some b11)) (.agg v_61) false) F (.bool v_62)∧
         (Bb (v_62) (
          R (.int .i64 20) F) (
          Lr F 2 (Am b1 0) fun v_64=>
          Li F (Am b5 1) fun v_66=>
          Li F (Am b5 0) fun v_69=>
          Ci 102 #[(.agg v_64),(.int .i64 v_66)] F fun v_67 F=>
          F.cell (Am b5 0)=some (.int .i64 v_69)∧(Bc (v_67≤v_69) (
           R (.int .i64 20) F) (
           Lr F 2 (Am b1 0) fun v_72=>
           Li F (Am b5 2) fun v_74=>
           Li F (Am b5 0) fun v_77=>
           Ci 102 #[(.agg v_72),(.int .i64 v_74)] F fun v_75 F=>
           F.cell (Am b5 0)=some (.int .i64 v_77)∧F.cell (Am b5 0)=some (.int .i64 v_69)∧(Bc (v_75≤v_77) (
            R (.int .i64 20) F) (
            Lr F 3 (Am b5 0) fun v_81=>
            aC prog (Instr.mapUpdate 224 (.map (some b11)) (.agg v_81) (.bool true)) F fun _ F=>
            N1 (IntKind.i64.wrap (v_15+1)) F))))))))))))))))))))) (
  A2 b1 R F))
def Jy (d_0:Array Value) (R:VR) (F:PH):Prop:=
 Nb F (.cells d_0 33) fun b1 F=>
 Ls F (Am b1 0) fun v_8=>
 (Bc ((4096:Int)<(v_8.len:Int)) (
  R (.int .i64 2) F) (
  Nb F (.map #[] 0) fun b11 F=>
  Ls F (Am b1 0) fun v_13=>
  (Lp 0 F fun N v_15 F=>
   A3 N b1 b11 v_13 R v_15 F)))
theorem Nf {d_0:Array Value} (h:Jy d_0 R F):ae prog 99 #[(.agg d_0)] F R:=Rx.sxC (args:=[(.agg d_0)]) (.T .N (.T .N (.T .N (.J false [] (.T .N (.L [(15,.int .i64)] .N)) .N)))) (by kernel_rfl) h
def EE (d_0:Array Value) (n_1:Int) (R:VR) (F:PH):Prop:=
 Nb F (.cells d_0 33) fun b2 F=>
 (Bc (n_1<2) (
  R (.int .i64 64) F) (
  Ls F (Am b2 0) fun v_8=>
  Ix v_8 (IntKind.i64.wrap (n_1 - 2)) fun a11_=>
  ∃v_13,F.cell (Addr.add a11_ (Int.toNat (IntKind.i64.wrap (n_1 - 2))*3))=some (.int .i64 v_13)∧
  R (.int .i64 v_13) F))
theorem Jz {d_0:Array Value} {n_1:Int} (h:EE d_0 n_1 R F):ae prog 102 #[(.agg d_0),(.int .i64 n_1)] F R:=Rx.sxC (args:=[(.agg d_0),(.int .i64 n_1)]) .N (by kernel_rfl) h
def EF (d_0:Array Value) (R:VR) (F:PH):Prop:=
 Nb F (.cells d_0 33) fun b1 F=>
 Nb F (.cells zD 33) fun b2 F=>
 Ls F (Am b1 0) fun v_5=>
 (Bc ((4096:Int)<(v_5.len:Int)) (
  az F (Am b2 0) 2 zD fun F=>
  Lr F 2 (Am b2 0) fun vres_2=>R (.tuple #[(.agg vres_2),(.int .i64 2)]) F) (
  Lr F 2 (Am b1 0) fun v_9=>
  az F (Am b2 0) 2 v_9 fun F=>
  Lr F 2 (Am b2 0) fun vres_2_1=>R (.tuple #[(.agg vres_2_1),(.int .i64 0)]) F))
theorem JA {d_0:Array Value} (h:EF d_0 R F):ae prog 160 #[(.agg d_0)] F R:=Rx.sxC (args:=[(.agg d_0)]) .N (by kernel_rfl) h
def wT (b3 b6:Nat) (v_13:Option Addr) (v_18:Sl) (R:VR) (F:PH):Prop:=
 Li F (Am b3 1) fun v_60=>
 Ix v_18 v_60 fun a61_=>
 Li F (Addr.add a61_ (Int.toNat v_60*1)) fun v_62=>
 Ca 167 #[(.pointer v_13),(.int .i64 v_62)] F fun v_63 F=>
 az F (Am b6 0) 2 v_63 fun F=>
 Rr 2 (Am b6 0) R F
def jG (N1:Int→PH→Prop) (v_1:Int) (value_2:Bool) (b3 b6:Nat) (v_13:Option Addr) (v_18:Sl) (v_24:Int) (b10:Nat) (v_22:Sl) (low_11 high_12:Int) (R:VR) (F:PH):Prop:=
 Li F (Am b10 0) fun v_51=>
 Ci 210 #[(.pointer v_13),(.int .i64 v_51),(.int .i64 low_11),(.int .i64 high_12)] F fun v_54 F=>
 Ix v_18 (IntKind.i64.wrap (v_24+2)) fun a55_=>
 sto F (Addr.add a55_ (Int.toNat (IntKind.i64.wrap (v_24+2))*1)) (.int .i64 v_54) fun F=>
 N1 (IntKind.i64.wrap (v_24+1)) F
def wU (N1:Int→PH→Prop) (v_1:Int) (value_2:Bool) (b3 b6:Nat) (v_13:Option Addr) (v_18 v_22:Sl) (R:VR) (v_24:Int) (F:PH):Prop:=
 (Bc (v_24<(v_22.len:Int)) (
  Ix v_22 v_24 fun a27_=>
  Lr F 3 (Addr.add a27_ (Int.toNat v_24*3)) fun v_28=>
  Nb F (.cells (#[.int .i64 0,.int .i64 0,.int .i64 0]) 103) fun b10 F=>
  az F (Am b10 0) 3 v_28 fun F=>
  Li F (Am b10 1) fun v_31=>
  Ix v_18 v_31 fun a32_=>
  Li F (Addr.add a32_ (Int.toNat v_31*1)) fun v_33=>
  Li F (Am b10 2) fun v_36=>
  Ix v_18 v_36 fun a37_=>
  Li F (Addr.add a37_ (Int.toNat v_36*1)) fun v_38=>
  Li F (Am b10 0) fun v_40=>
  (Bc (v_40=v_1) (
   (Bb (value_2) (
    jG N1 v_1 value_2 b3 b6 v_13 v_18 v_24 b10 v_22 v_38 v_38 R F) (
    jG N1 v_1 value_2 b3 b6 v_13 v_18 v_24 b10 v_22 v_33 v_33 R F))) (
   jG N1 v_1 value_2 b3 b6 v_13 v_18 v_24 b10 v_22 v_33 v_38 R F))) (
  wT b3 b6 v_13 v_18 R F))
def EG (a_0:Array Value) (v_1:Int) (value_2:Bool) (R:VR) (F:PH):Prop:=
 Nb F (.cells a_0 33) fun b3 F=>
 Nb F (.cells zD 33) fun b6 F=>
 ae prog 209 #[] F fun v F=>∃v_13,v=(.pointer v_13)∧
 Ls F (Am b3 0) fun v_15=>
 aC prog (Instr.makeSlice 70 (.int .i64 (IntKind.i64.wrap ((v_15.len:Int)+2))) (.int .i64 (IntKind.i64.wrap ((v_15.len:Int)+2)))) F fun v F=>∃v_18,v=(Sl.v v_18)∧
 Ix v_18 1 fun a20_=>
 sto F (Addr.add a20_ (Int.toNat 1*1)) (.int .i64 1) fun F=>
 Ls F (Am b3 0) fun v_22=>
 (Lp 0 F fun N v_24 F=>
  wU N v_1 value_2 b3 b6 v_13 v_18 v_22 R v_24 F)
theorem JB {a_0:Array Value} {v_1:Int} {value_2:Bool} (h:EG a_0 v_1 value_2 R F):ae prog 161 #[(.agg a_0),(.int .i64 v_1),(.bool value_2)] F R:=Rx.sxC (args:=[(.agg a_0),(.int .i64 v_1),(.bool value_2)]) (.T .N (.T .N (.T .N (.T .N (.J false [] (.T .N (.L [(24,.int .i64)] (.T .N (.T .N (.T (.T .N (.T .N (.J false [(11,.int .i64),(12,.int .i64)] .N .N))) .N))))) .N))))) (by kernel_rfl) h
def EH (b_0:Option Addr) (root_1:Int) (R:VR) (F:PH):Prop:=
 Nb F (.cells #[(.pointer b_0)] 225) fun b2 F=>
 Nb F (.cells zD 33) fun b4 F=>
 Nb F (.cells zD 33) fun b5 F=>
 az F (Am b5 0) 2 zD fun F=>
 Nb F (.map #[] 0) fun b9 F=>
 aC prog (Instr.mapUpdate 299 (.map (some b9)) (.int .i64 0) (.int .i64 0)) F fun _ F=>
 aC prog (Instr.mapUpdate 299 (.map (some b9)) (.int .i64 1) (.int .i64 1)) F fun _ F=>
 Nb F (.cells (#[.map none]) 299) fun b6 F=>
 sto F (Am b6 0) (.map (some b9)) fun F=>
 Nb F (.cells (#[.nilFunc]) 167) fun b7 F=>
 sto F (Am b7 0) (.func (.func 215) #[] #[(.pointer (some (Am b6 0))),(.pointer (some (Am b2 0))),(.pointer (some (Am b7 0))),(.pointer (some (Am b5 0)))]) fun F=>
 ∃v_12:Value,F.cell (Am b7 0)=some v_12∧
 Fn v_12 fun k14 fst14 cap14=>ae prog k14 (fst14++([(Value.int .i64 root_1)]).toArray++cap14) F fun v F=>∃v_14,v=(Value.int .i64 v_14)∧
 sto F (Am b5 1) (.int .i64 v_14) fun F=>
 Lr F 2 (Am b5 0) fun v_16=>
 az F (Am b4 0) 2 v_16 fun F=>
 Rr 2 (Am b4 0) R F
theorem JC {b_0:Option Addr} {root_1:Int} (h:EH b_0 root_1 R F):ae prog 167 #[(.pointer b_0),(.int .i64 root_1)] F R:=Rx.sxC (args:=[(.pointer b_0),(.int .i64 root_1)]) .N (by kernel_rfl) h
def EI (R:VR) (F:PH):Prop:=
 Nb F (.map #[] 0) fun b1 F=>
 Nb F (.cells (#[.slice none 0 0,(.map (some b1))]:Array Value) 228) fun b3 F=>
 R (.pointer (some (Am b3 0))) F
theorem JD (h:EI R F):ae prog 209 #[] F R:=Rx.sxC (args:=[]) .N (by kernel_rfl) h
def EJ (b_0:Option Addr) (v_1 low_2 high_3:Int) (R:VR) (F:PH):Prop:=
 (Bc (low_2=high_3) (
  R (.int .i64 low_2) F) (
  Nb F (.cells (#[.int .i64 0,.int .i64 0,.int .i64 0]) 103) fun b9 F=>
  az F (Am b9 0) 3 (#[(.int .i64 v_1),(.int .i64 low_2),(.int .i64 high_3)]:Array Value) fun F=>
  ∃b0a_,b_0=some b0a_∧∃v_24:Option Nat,F.cell (Addr.add b0a_ 1)=some (.map v_24)∧
  Lr F 3 (Am b9 0) fun v_25=>
  ∃(v_26:Int) (ok26_:Bool),rdo prog (Instr.lookup 226 (.map v_24) (.agg v_25) true) F (.tuple #[(.int .i64 v_26),(.bool ok26_)])∧
  (Bb ((!ok26_)) (
   Ls F b0a_ fun v_35=>
   Lr F 3 (Am b9 0) fun v_36=>
   v_36.size=3∧Nb F (.cells v_36 103) fun b37 F=>
   Ap 31 #[(Sl.v v_35),(Sl.v (Sb b37 1))] F fun v_38 F=>
   sto F b0a_ (Sl.v v_38) fun F=>
   Ls F b0a_ fun v_44=>
   ∃v_50:Option Nat,F.cell (Addr.add b0a_ 1)=some (.map v_50)∧
   Lr F 3 (Am b9 0) fun v_51=>
   aC prog (Instr.mapUpdate 226 (.map v_50) (.agg v_51) (.int .i64 (IntKind.i64.wrap ((v_44.len:Int)+1)))) F fun _ F=>
   R (.int .i64 (IntKind.i64.wrap ((v_44.len:Int)+1))) F) (
   R (.int .i64 v_26) F))))
theorem JE {b_0:Option Addr} {v_1:Int} {low_2:Int} {high_3:Int} (h:EJ b_0 v_1 low_2 high_3 R F):ae prog 210 #[(.pointer b_0),(.int .i64 v_1),(.int .i64 low_2),(.int .i64 high_3)] F R:=Rx.sxC (args:=[(.pointer b_0),(.int .i64 v_1),(.int .i64 low_2),(.int .i64 high_3)]) .N (by kernel_rfl) h
def A4 (n_0:Int) (v_1 v_2 v_3 v_4:Option Addr) (R:VR) (F:PH):Prop:=
 ∃v1a_,v_1=some v1a_∧∃v_13:Option Nat,F.cell v1a_=some (.map v_13)∧
 ∃(v_15:Int) (ok15_:Bool),rdo prog (Instr.lookup 299 (.map v_13) (.int .i64 n_0) true) F (.tuple #[(.int .i64 v_15),(.bool ok15_)])∧
 (Bb (ok15_) (
  R (.int .i64 v_15) F) (
  ∃v2a_,v_2=some v2a_∧Lq F v2a_ fun v_20=>
  ∃v20a_,v_20=some v20a_∧Ls F v20a_ fun v_23=>
  Ix v_23 (IntKind.i64.wrap (n_0 - 2)) fun a26_=>
  ∃v_27,v_27.size=3∧F.row (Addr.add a26_ (Int.toNat (IntKind.i64.wrap (n_0 - 2))*3)) v_27∧
  Nb F (.cells (#[.int .i64 0,.int .i64 0,.int .i64 0]) 103) fun b9 F=>
  az F (Am b9 0) 3 v_27 fun F=>
  ∃v3a_,v_3=some v3a_∧∃v_28:Value,F.cell v3a_=some v_28∧
  Li F (Am b9 1) fun v_30=>
  Fn v_28 fun k31 fst31 cap31=>ae prog k31 (fst31++([(Value.int .i64 v_30)]).toArray++cap31) F fun v F=>∃v_31,v=(Value.int .i64 v_31)∧
  ∃v_32:Value,F.cell v3a_=some v_32∧
  Li F (Am b9 2) fun v_34=>
  Fn v_32 fun k35 fst35 cap35=>ae prog k35 (fst35++([(Value.int .i64 v_34)]).toArray++cap35) F fun v F=>∃v_35,v=(Value.int .i64 v_35)∧
  ∃v4a_,v_4=some v4a_∧Ls F v4a_ fun v_37=>
  Li F (Am b9 0) fun v_39=>
  (#[(.int .i64 v_39),(.int .i64 v_31),(.int .i64 v_35)]:Array Value).size=3∧Nb F (.cells (#[(.int .i64 v_39),(.int .i64 v_31),(.int .i64 v_35)]:Array Value) 103) fun b43 F=>
  Ap 31 #[(Sl.v v_37),(Sl.v (Sb b43 1))] F fun v_44 F=>
  sto F v4a_ (Sl.v v_44) fun F=>
  ∃v_46:Option Nat,F.cell v1a_=some (.map v_46)∧
  Ls F v4a_ fun v_49=>
  aC prog (Instr.mapUpdate 299 (.map v_46) (.int .i64 n_0) (.int .i64 (IntKind.i64.wrap ((v_49.len:Int)+1)))) F fun _ F=>
  ∃v_52:Option Nat,F.cell v1a_=some (.map v_52)∧
  ∃v_54,rdo prog (Instr.lookup 299 (.map v_52) (.int .i64 n_0) false) F (.int .i64 v_54)∧
  R (.int .i64 v_54) F))
theorem EL {n_0:Int} {v_1:Option Addr} {v_2:Option Addr} {v_3:Option Addr} {v_4:Option Addr} (h:A4 n_0 v_1 v_2 v_3 v_4 R F):ae prog 215 #[(.int .i64 n_0),(.pointer v_1),(.pointer v_2),(.pointer v_3),(.pointer v_4)] F R:=Rx.sxC (args:=[(.int .i64 n_0),(.pointer v_1),(.pointer v_2),(.pointer v_3),(.pointer v_4)]) .N (by kernel_rfl) h
variable {R:VR} {F:PH}
set_option maxRecDepth 10000
set_option maxHeartbeats 4000000
def Ng (s_0:Sl) (R:VR) (F:PH):Prop:=
 (Bb ((s_0.base.isNone)) (
  R (Sl.v Sl.nil) F) (
  Nb F (.cells #[] 9) fun b5 F=>
  Ap 30 #[(Sl.v (Sb b5 0)),(Sl.v s_0)] F fun v_7 F=>
  R (Sl.v v_7) F))
theorem Nh {s_0:Sl} (h:Ng s_0 R F):ae prog 83 #[(Sl.v s_0)] F R:=Rx.sxC (args:=[(Sl.v s_0)]) .N (by kernel_rfl) h
def Ni (s_0:Sl) (R:VR) (F:PH):Prop:=
 (Bb ((s_0.base.isNone)) (
  R (Sl.v Sl.nil) F) (
  Nb F (.cells #[] 97) fun b5 F=>
  Ap 77 #[(Sl.v (Sb b5 0)),(Sl.v s_0)] F fun v_7 F=>
  R (Sl.v v_7) F))
theorem Nj {s_0:Sl} (h:Ni s_0 R F):ae prog 84 #[(Sl.v s_0)] F R:=Rx.sxC (args:=[(Sl.v s_0)]) .N (by kernel_rfl) h
def Nk (s_0:Sl) (R:VR) (F:PH):Prop:=
 (Bb ((s_0.base.isNone)) (
  R (Sl.v Sl.nil) F) (
  Nb F (.cells #[] 69) fun b5 F=>
  Ap 62 #[(Sl.v (Sb b5 0)),(Sl.v s_0)] F fun v_7 F=>
  R (Sl.v v_7) F))
theorem Nl {s_0:Sl} (h:Nk s_0 R F):ae prog 85 #[(Sl.v s_0)] F R:=Rx.sxC (args:=[(Sl.v s_0)]) .N (by kernel_rfl) h
def Nm (s_0:Sl) (R:VR) (F:PH):Prop:=
 (Bb ((s_0.base.isNone)) (
  R (Sl.v Sl.nil) F) (
  Nb F (.cells #[] 101) fun b5 F=>
  Ap 63 #[(Sl.v (Sb b5 0)),(Sl.v s_0)] F fun v_7 F=>
  R (Sl.v v_7) F))
theorem Nn {s_0:Sl} (h:Nm s_0 R F):ae prog 86 #[(Sl.v s_0)] F R:=Rx.sxC (args:=[(Sl.v s_0)]) .N (by kernel_rfl) h
def No (s_0:Sl) (R:VR) (F:PH):Prop:=
 (Bb ((s_0.base.isNone)) (
  R (Sl.v Sl.nil) F) (
  Nb F (.cells #[] 3) fun b5 F=>
  Ap 70 #[(Sl.v (Sb b5 0)),(Sl.v s_0)] F fun v_7 F=>
  R (Sl.v v_7) F))
theorem Np {s_0:Sl} (h:No s_0 R F):ae prog 87 #[(Sl.v s_0)] F R:=Rx.sxC (args:=[(Sl.v s_0)]) .N (by kernel_rfl) h
def Hn (R:VR) (F:PH):Prop:=
 R (.bool true) F
def A5 (N1:Int→PH→Prop) (s1_0 s2_1:Sl) (R:VR) (v_13:Int) (F:PH):Prop:=
 (Bc (v_13<(s1_0.len:Int)) (
  Ix s1_0 v_13 fun a18_=>
  Lr F 3 (Addr.add a18_ (Int.toNat v_13*3)) fun v_19=>
  Ix s2_1 v_13 fun a22_=>
  Lr F 3 (Addr.add a22_ (Int.toNat v_13*3)) fun v_23=>
  ∃v_24,(∀F,rdo prog (Op.equal 103 (.agg v_19) (.agg v_23)) F v_24)∧
  (Bb ((!v_24)) (
   R (.bool false) F) (
   N1 (IntKind.i64.wrap (v_13+1)) F))) (
  Hn R F))
def JF (s1_0 s2_1:Sl) (R:VR) (F:PH):Prop:=
 (Bc ((s1_0.len:Int)≠(s2_1.len:Int)) (
  R (.bool false) F) (
  (Lp 0 F fun N v_13 F=>
   A5 N s1_0 s2_1 R v_13 F)))
theorem Nq {s1_0:Sl} {s2_1:Sl} (h:JF s1_0 s2_1 R F):ae prog 98 #[(Sl.v s1_0),(Sl.v s2_1)] F R:=Rx.sxC (args:=[(Sl.v s1_0),(Sl.v s2_1)]) (.T .N (.T .N (.J false [] (.T .N (.L [(13,.int .i64)] .N)) .N))) (by kernel_rfl) h
def EM (s_0:Sl) (f_1:Value) (R:VR) (F:PH):Prop:=
 Ci 197 #[(Sl.v s_0),f_1] F fun v_7 F=>
 R (.bool (decide (0≤v_7))) F
theorem JG {s_0:Sl} {f_1:Value} (h:EM s_0 f_1 R F):ae prog 145 #[(Sl.v s_0),f_1] F R:=Rx.sxC (args:=[(Sl.v s_0),f_1]) .N (by kernel_rfl) h
def EN (s_0:Sl) (f_1:Value) (R:VR) (F:PH):Prop:=
 Ci 206 #[(Sl.v s_0),f_1] F fun v_7 F=>
 R (.bool (decide (0≤v_7))) F
theorem JH {s_0:Sl} {f_1:Value} (h:EN s_0 f_1 R F):ae prog 154 #[(Sl.v s_0),f_1] F R:=Rx.sxC (args:=[(Sl.v s_0),f_1]) .N (by kernel_rfl) h
def Dp (R:VR) (F:PH):Prop:=
 R (.int .i64 (-1:Int)) F
def Dq (N1:Int→PH→Prop) (s_0:Sl) (f_1:Value) (R:VR) (v_8:Int) (F:PH):Prop:=
 (Bc (v_8<(s_0.len:Int)) (
  Ix s_0 v_8 fun a14_=>
  Lr F 13 (Addr.add a14_ (Int.toNat v_8*13)) fun v_15=>
  Fn f_1 fun k16 fst16 cap16=>ae prog k16 (fst16++([(Value.agg v_15)]).toArray++cap16) F fun v F=>∃v_16,v=(Value.bool v_16)∧
  (Bb (v_16) (
   R (.int .i64 v_8) F) (
   N1 (IntKind.i64.wrap (v_8+1)) F))) (
  Dp R F))
def JI (s_0:Sl) (f_1:Value) (R:VR) (F:PH):Prop:=
 (Lp 0 F fun N v_8 F=>
  Dq N s_0 f_1 R v_8 F)
theorem JJ {s_0:Sl} {f_1:Value} (h:JI s_0 f_1 R F):ae prog 197 #[(Sl.v s_0),f_1] F R:=Rx.sxC (args:=[(Sl.v s_0),f_1]) (.T .N (.J false [] (.T .N (.L [(8,.int .i64)] .N)) .N)) (by kernel_rfl) h
def EO (s_0:Sl) (f_1:Value) (R:VR) (F:PH):Prop:=
 Ci 221 #[(Sl.v s_0),f_1] F fun v_7 F=>
 R (.bool (decide (0≤v_7))) F
theorem JK {s_0:Sl} {f_1:Value} (h:EO s_0 f_1 R F):ae prog 199 #[(Sl.v s_0),f_1] F R:=Rx.sxC (args:=[(Sl.v s_0),f_1]) .N (by kernel_rfl) h
def Dr (R:VR) (F:PH):Prop:=
 R (.int .i64 (-1:Int)) F
def Ds (N1:Int→PH→Prop) (s_0:Sl) (f_1:Value) (R:VR) (v_8:Int) (F:PH):Prop:=
 (Bc (v_8<(s_0.len:Int)) (
  Ix s_0 v_8 fun a14_=>
  Lr F 2 (Addr.add a14_ (Int.toNat v_8*2)) fun v_15=>
  Fn f_1 fun k16 fst16 cap16=>ae prog k16 (fst16++([(Value.agg v_15)]).toArray++cap16) F fun v F=>∃v_16,v=(Value.bool v_16)∧
  (Bb (v_16) (
   R (.int .i64 v_8) F) (
   N1 (IntKind.i64.wrap (v_8+1)) F))) (
  Dr R F))
def JL (s_0:Sl) (f_1:Value) (R:VR) (F:PH):Prop:=
 (Lp 0 F fun N v_8 F=>
  Ds N s_0 f_1 R v_8 F)
theorem JM {s_0:Sl} {f_1:Value} (h:JL s_0 f_1 R F):ae prog 206 #[(Sl.v s_0),f_1] F R:=Rx.sxC (args:=[(Sl.v s_0),f_1]) (.T .N (.J false [] (.T .N (.L [(8,.int .i64)] .N)) .N)) (by kernel_rfl) h
def Dt (R:VR) (F:PH):Prop:=
 R (.int .i64 (-1:Int)) F
def Du (N1:Int→PH→Prop) (s_0:Sl) (f_1:Value) (R:VR) (v_8:Int) (F:PH):Prop:=
 (Bc (v_8<(s_0.len:Int)) (
  Ix s_0 v_8 fun a14_=>
  Lr F 3 (Addr.add a14_ (Int.toNat v_8*3)) fun v_15=>
  Fn f_1 fun k16 fst16 cap16=>ae prog k16 (fst16++([(Value.agg v_15)]).toArray++cap16) F fun v F=>∃v_16,v=(Value.bool v_16)∧
  (Bb (v_16) (
   R (.int .i64 v_8) F) (
   N1 (IntKind.i64.wrap (v_8+1)) F))) (
  Dt R F))
def JN (s_0:Sl) (f_1:Value) (R:VR) (F:PH):Prop:=
 (Lp 0 F fun N v_8 F=>
  Du N s_0 f_1 R v_8 F)
theorem JO {s_0:Sl} {f_1:Value} (h:JN s_0 f_1 R F):ae prog 221 #[(Sl.v s_0),f_1] F R:=Rx.sxC (args:=[(Sl.v s_0),f_1]) (.T .N (.J false [] (.T .N (.L [(8,.int .i64)] .N)) .N)) (by kernel_rfl) h
end Go.Proofs.YtenpmjhnhepfdaaGreatDoor
namespace Go.Proofs.YtenpmjhnhepfdaaGreatDoor
open Go Go.Proofs.Tryz Tr
abbrev vi (n:Int):Value:=.int .i64 n
abbrev Fit (n:Nat):Prop:=n≤1000000000000
def cH (b:Br):List Value:=[vi b.v,vi b.l,vi b.h]
def aQ (l:List Br):List Value:=l.flatMap cH
abbrev aO (b:Br):Array Value:= #[vi b.v,vi b.l,vi b.h]
theorem rD (l:List Br):(aQ l).length=l.length*3:=by
 induction l with
 |nil=>rfl
 |cons b l ih=>simp only [aQ,List.flatMap_cons,List.length_append,List.length_cons] at ih ⊢;rw [ih];simp [cH];omega
theorem dE (l m:List Br):aQ (l++m)=aQ l++aQ m:=by simp [aQ]
theorem qz:∀(l:List Br) (i:Nat) (hi:i<l.length),((aQ l).drop (i*3)).take 3=cH l[i]
 |b::l,0,_=>by simp [aQ,cH]
 |b::l,i+1,hi=>by
  have e:(i+1)*3=3+i*3:=by omega
  have:aQ (b::l)=cH b++aQ l:=by simp [aQ]
  rw [this,e,← List.drop_drop,List.drop_left' (by simp [cH])]
  simpa using qz l i (by simpa using hi)
theorem gJ (l:List Br):∀v∈aQ l,ai v:=by
 intro v hv
 obtain ⟨b,_,hb⟩:=List.mem_flatMap.1 hv
 simp only [cH,List.mem_cons,List.not_mem_nil,or_false] at hb
 rcases hb with rfl|rfl|rfl<;>exact iZ
theorem fY (b:Br):∀v∈(aO b).toList,ai v:=by
 intro v hv
 simp only [List.mem_cons,List.not_mem_nil,or_false] at hv
 rcases hv with rfl|rfl|rfl<;>exact iZ
theorem RdS.blen {F:PH} {s:Sl} {l:List Br} (h:RdS F s 3 (aQ l)):s.len=l.length:=by have:=h.len;rw [rD] at this;omega
theorem rdb {F:PH} {s:Sl} {l:List Br} (h:RdS F s 3 (aQ l)) {i:Nat} {x:Br} (hx:l[i]? =some x):∃a,s.base=some a∧F.row (a.add (i*3)) (aO x)∧
  F.cell (a.add (i*3))=some (vi x.v)∧F.cell ((a.add (i*3)).add 1)=some (vi x.l)∧F.cell ((a.add (i*3)).add 2)=some (vi x.h):=by
 obtain ⟨hi,hx⟩:=List.getElem?_eq_some_iff.1 hx
 subst hx
 have hlen:=h.blen
 obtain ⟨b,o,hb,_⟩:=h.cells (by omega)
 have hr:=h.row hb (i*3) (aO l[i]) (by
  have:=qz l i hi
  simpa [aO,cH] using this.symm)
 refine ⟨_,hb,hr,?_,?_,?_⟩
 ·have:=hr 0 (by simp);simpa using this
 ·have:=hr 1 (by simp);simpa using this
 ·have:=hr 2 (by simp);simpa using this
def DV (F:PH) (v:Array Value) (d:Dia):Prop:=∃s:Sl,v= #[s.v,vi d.2]∧RdS F s 3 (aQ d.1)
theorem DV.le {F G:PH} {v:Array Value} {d:Dia} (h:DV F v d) (hl:F.le G):DV G v d:=by
 obtain ⟨s,h1,h2⟩:=h
 exact ⟨s,h1,h2.le hl⟩
theorem DV.size {F:PH} {v:Array Value} {d:Dia} (h:DV F v d):v.size=2:=by
 obtain ⟨s,rfl,_⟩:=h
 rfl
theorem DV.st {F:PH} {v:Array Value} {d:Dia} (h:DV F v d):∀x∈v.toList,ai x:=by
 obtain ⟨s,rfl,_⟩:=h
 intro x hx
 simp only [List.mem_cons,List.not_mem_nil,or_false] at hx
 rcases hx with rfl|rfl
 ·exact AQ
 ·exact iZ
theorem PH.le_rfl {F:PH}:F.le F:=fun _ _ h=>h
theorem gK {S:List Tr} {d:List Br} (hp:brs S<+:d) {k:Nat} {t:Tr} (h:S[k]? =some t):d[k]? =some (br S t):=by
 obtain ⟨r,rfl⟩:=hp
 rw [List.getElem?_append_left (by rw [aN];exact (List.getElem?_eq_some_iff.1 h).1)]
 exact io h
theorem qA {n:Nat} (h:Fit n) (h2:2≤n):IntKind.i64.wrap ((n:Int) - 2)=((n - 2:Nat):Int):=by
 rw [aM (by omega) (by omega)];omega
section
variable {F:PH} {v:Array Value} {d:Dia} {S:List Tr} {t:Tr}
theorem rE (hp:brs S<+:d.1) (ht:inn S t) (hf:Fit (d.1.length+2)):Fit (num S t)∧num S t≤d.1.length+1:=by
 have h1:=cM ht
 have h2:=hp.length_le
 rw [aN] at h2
 omega
theorem nV (hd:DV F v d) (hp:brs S<+:d.1) (ht:inn S t) (hf:Fit (d.1.length+2)):
  ae prog 102 #[.agg v,vi (num S t)] F fun r F'=>r=vi t.top∧F.le F':=by
 obtain ⟨hfit,hlt⟩:=rE hp ht hf
 obtain ⟨s,rfl,hr⟩:=hd
 refine Jz ?_
 unfold EE
 intro b2 hb2
 refine atI ?_
 have hle:=ac (.cells #[s.v,vi d.2] 33) hb2
 refine ⟨fun h=> ?_,fun h=> ?_⟩
 ·have hl:=rF (S:=S) (t:=t) (by omega)
  cases t with
  |leaf b=>exact ⟨rfl,hle⟩
  |node _ _ _=>cases hl
 ·cases t with
  |leaf b=>have:=cg S b;omega
  |node w l r=>
   have hx:=gK hp (d9 (bW ht rfl) rfl)
   obtain ⟨a,h1,_,h2,_⟩:=rdb (hr.le hle) hx
   have hw:=qA hfit (cX (S:=S) (t:=node w l r) rfl)
   have hg:=cX (S:=S) (t:=node w l r) rfl
   refine ⟨s,by simp,a,h1,by rw [hw];omega,by rw [hw,hr.blen];omega,_,by rw [hw];exact h2,rfl,hle⟩
end
end Go.Proofs.YtenpmjhnhepfdaaGreatDoor
namespace Go.Proofs.YtenpmjhnhepfdaaGreatDoor
inductive Pat where
 |emp:Pat
 |rng:Nat→Nat→Pat
 |seq:Pat→Pat→Pat
 |alt:Pat→Pat→Pat
 |rep:Pat→Pat
deriving DecidableEq
inductive kE (P:List Nat→Prop):List Nat→Prop where
 |nil:kE P []
 |cons {u v:List Nat}:P u→kE P v→kE P (u++v)
def Lg:Pat→List Nat→Prop
 | .emp,w=>w=[]
 | .rng lo hi,w=>∃b,w=[b]∧lo≤b∧b≤hi
 | .seq x y,w=>∃u v,w=u++v∧Lg x u∧Lg y v
 | .alt x y,w=>Lg x w∨Lg y w
 | .rep x,w=>kE (Lg x) w
inductive Lt where
 |emp:Lt
 |rng:Nat→Nat→Nat→Lt
 |seq:Lt→Lt→Lt
 |alt:Lt→Lt→Lt
 |rep:Lt→Lt
namespace Lt
def pat:Lt→Pat
 |emp=> .emp
 |rng _ lo hi=> .rng lo hi
 |seq x y=> .seq x.pat y.pat
 |alt x y=> .alt x.pat y.pat
 |rep x=> .rep x.pat
def nul:Lt→Bool
 |emp=>true
 |rng _ _ _=>false
 |seq x y=>x.nul && y.nul
 |alt x y=>x.nul || y.nul
 |rep _=>true
def first:Lt→Nat→Prop
 |emp,_=>False
 |rng i _ _,j=>i=j
 |seq x y,j=>x.first j∨(x.nul=true∧y.first j)
 |alt x y,j=>x.first j∨y.first j
 |rep x,j=>x.first j
def last:Lt→Nat→Prop
 |emp,_=>False
 |rng i _ _,j=>i=j
 |seq x y,j=>y.last j∨(y.nul=true∧x.last j)
 |alt x y,j=>x.last j∨y.last j
 |rep x,j=>x.last j
def fol:Lt→Nat→Nat→Prop
 |emp,_,_=>False
 |rng _ _ _,_,_=>False
 |seq x y,i,j=>x.fol i j∨y.fol i j∨(x.last i∧y.first j)
 |alt x y,i,j=>x.fol i j∨y.fol i j
 |rep x,i,j=>x.fol i j∨(x.last i∧x.first j)
def lab:Lt→Nat→Prop
 |emp,_=>False
 |rng i _ _,j=>i=j
 |seq x y,j=>x.lab j∨y.lab j
 |alt x y,j=>x.lab j∨y.lab j
 |rep x,j=>x.lab j
def fits (acc:Nat→Nat→Prop):Lt→Prop
 |emp=>True
 |rng i lo hi=>∀b,acc i b↔lo≤b∧b≤hi
 |seq x y=>x.fits acc∧y.fits acc∧∀i,x.lab i→¬y.lab i
 |alt x y=>x.fits acc∧y.fits acc∧∀i,x.lab i→¬y.lab i
 |rep x=>x.fits acc
theorem first_lab:∀(t:Lt) {i:Nat},t.first i→t.lab i
 |rng _ _ _,_,h=>h
 |seq x y,_,h=>h.elim (fun h=> .inl (x.first_lab h)) fun h=> .inr (y.first_lab h.2)
 |alt x y,_,h=>h.elim (fun h=> .inl (x.first_lab h)) fun h=> .inr (y.first_lab h)
 |rep x,_,h=>x.first_lab h
theorem last_lab:∀(t:Lt) {i:Nat},t.last i→t.lab i
 |rng _ _ _,_,h=>h
 |seq x y,_,h=>h.elim (fun h=> .inr (y.last_lab h)) fun h=> .inl (x.last_lab h.2)
 |alt x y,_,h=>h.elim (fun h=> .inl (x.last_lab h)) fun h=> .inr (y.last_lab h)
 |rep x,_,h=>x.last_lab h
theorem fol_lab:∀(t:Lt) {i j:Nat},t.fol i j→t.lab i∧t.lab j
 |seq x y,_,_,h=>by
  rcases h with h|h|⟨h,h'⟩
  ·exact ⟨.inl (x.fol_lab h).1,.inl (x.fol_lab h).2⟩
  ·exact ⟨.inr (y.fol_lab h).1,.inr (y.fol_lab h).2⟩
  ·exact ⟨.inl (x.last_lab h),.inr (y.first_lab h')⟩
 |alt x y,_,_,h=>by
  rcases h with h|h
  ·exact ⟨.inl (x.fol_lab h).1,.inl (x.fol_lab h).2⟩
  ·exact ⟨.inr (y.fol_lab h).1,.inr (y.fol_lab h).2⟩
 |rep x,_,_,h=>by
  rcases h with h|⟨h,h'⟩
  ·exact x.fol_lab h
  ·exact ⟨x.last_lab h,x.first_lab h'⟩
end Lt
def Pth (acc fol:Nat→Nat→Prop) (e:Nat→Prop):Nat→List Nat→Prop
 |_,[]=>False
 |i,b::w=>acc i b∧((w=[]∧e i)∨∃j,fol i j∧Pth acc fol e j w)
section
variable {acc fol fol':Nat→Nat→Prop} {e e':Nat→Prop}
theorem Pth.ne {i:Nat} {w:List Nat} (h:Pth acc fol e i w):w≠[]:=by rintro rfl;exact h
theorem Pth.mono (hf:∀i j,fol i j→fol' i j) (he:∀i,e i→e' i):∀(w:List Nat) (i:Nat),Pth acc fol e i w→Pth acc fol' e' i w
 |[],_,h=>h
 |_::w,_,⟨h,k⟩=>⟨h,k.elim (fun k=> .inl ⟨k.1,he _ k.2⟩) fun ⟨j,k1,k2⟩=> .inr ⟨j,hf _ _ k1,Pth.mono hf he w j k2⟩⟩
theorem Pth.inside (P:Nat→Prop) (hf:∀i j,P i→fol i j→P j∧fol' i j) (he:∀i,P i→e i→e' i):∀(w:List Nat) (i:Nat),P i→Pth acc fol e i w→Pth acc fol' e' i w
 |[],_,_,h=>h
 |_::w,i,hp,⟨h,k⟩=>⟨h,k.elim (fun k=> .inl ⟨k.1,he _ hp k.2⟩) fun ⟨j,k1,k2⟩=> .inr ⟨j,(hf i j hp k1).2,Pth.inside P hf he w j (hf i j hp k1).1 k2⟩⟩
theorem Pth.link {l g:Nat→Prop}:∀(w:List Nat) (i:Nat),Pth acc (fun i j=>fol i j∨(l i∧g j)) e i w→
  Pth acc fol e i w∨∃u v j,w=u++v∧Pth acc fol l i u∧g j∧Pth acc (fun i j=>fol i j∨(l i∧g j)) e j v
 |[],_,h=>h.elim
 |b::w,i,⟨h,k⟩=>by
  rcases k with ⟨rfl,k⟩|⟨j,k1|⟨k1,k3⟩,k2⟩
  ·exact .inl ⟨h,.inl ⟨rfl,k⟩⟩
  ·rcases Pth.link w j k2 with q|⟨u,v,m,rfl,q1,q2,q3⟩
   ·exact .inl ⟨h,.inr ⟨j,k1,q⟩⟩
   ·exact .inr ⟨b::u,v,m,rfl,⟨h,.inr ⟨j,k1,q1⟩⟩,q2,q3⟩
  ·exact .inr ⟨[b],w,j,rfl,⟨h,.inl ⟨rfl,k1⟩⟩,k3,k2⟩
theorem Pth.append {l g:Nat→Prop} (hf:∀i j,fol i j→fol' i j) (hl:∀i j,l i→g j→fol' i j) {v:List Nat} {j:Nat} (hg:g j) (hv:Pth acc fol' e j v):
  ∀(u:List Nat) (i:Nat),Pth acc fol l i u→Pth acc fol' e i (u++v)
 |[],_,h=>h.elim
 |b::u,i,⟨h,k⟩=>by
  rcases k with ⟨rfl,k⟩|⟨m,k1,k2⟩
  ·exact ⟨h,.inr ⟨j,hl i j k hg,hv⟩⟩
  ·exact ⟨h,.inr ⟨m,hf _ _ k1,Pth.append hf hl hg hv u m k2⟩⟩
end
theorem kE.ne {P:List Nat→Prop} {w:List Nat} (h:kE P w):w=[]∨∃u v,u≠[]∧w=u++v∧P u∧kE P v:=by
 induction h with
 |nil=>exact .inl rfl
 | @cons u v hu hv ih=>
  by_cases hn:u=[]
  ·subst hn
   exact ih
  ·exact .inr ⟨u,v,hn,rfl,hu,hv⟩
namespace Lt
variable {acc:Nat→Nat→Prop}
theorem nul_iff:∀(t:Lt),t.nul=true↔Lg t.pat []
 |emp=>⟨fun _=>rfl,fun _=>rfl⟩
 |rng i lo hi=>⟨fun h=>(by cases h),fun ⟨b,h,_⟩=>(by cases h)⟩
 |seq x y=>by
  have hx:=nul_iff x
  have hy:=nul_iff y
  simp only [nul,pat,Lg,Bool.and_eq_true,hx,hy]
  constructor
  ·rintro ⟨h1,h2⟩;exact ⟨[],[],rfl,h1,h2⟩
  ·rintro ⟨u,v,h,h1,h2⟩
   obtain ⟨rfl,rfl⟩:=List.append_eq_nil_iff.1 h.symm
   exact ⟨h1,h2⟩
 |alt x y=>by simp only [nul,pat,Lg,Bool.or_eq_true,nul_iff x,nul_iff y]
 |rep x=>⟨fun _=>kE.nil,fun _=>rfl⟩
theorem places:∀(t:Lt),t.fits acc→∀w,w≠[]→(Lg t.pat w↔∃i,t.first i∧Pth acc t.fol t.last i w)
 |emp,_,w,hw=>⟨fun h=>absurd h hw,fun ⟨i,h,_⟩=>h.elim⟩
 |rng i lo hi,hf,w,hw=>by
  constructor
  ·rintro ⟨b,rfl,h⟩
   exact ⟨i,rfl,(hf b).2 h,.inl ⟨rfl,rfl⟩⟩
  ·rintro ⟨j,rfl,h⟩
   cases w with
   |nil=>exact h.elim
   |cons b w=>
    obtain ⟨h1,⟨rfl,_⟩|⟨j,h2,_⟩⟩:=h
    ·exact ⟨b,rfl,(hf b).1 h1⟩
    ·exact h2.elim
 |alt x y,⟨fx,fy,hd⟩,w,hw=>by
  have ix:=places x fx w hw
  have iy:=places y fy w hw
  constructor
  ·rintro (h|h)
   ·obtain ⟨i,h1,h2⟩:=ix.1 h
    exact ⟨i,.inl h1,h2.mono (fun _ _ h=> .inl h) (fun _ h=> .inl h) w i⟩
   ·obtain ⟨i,h1,h2⟩:=iy.1 h
    exact ⟨i,.inr h1,h2.mono (fun _ _ h=> .inr h) (fun _ h=> .inr h) w i⟩
  ·rintro ⟨i,h1|h1,h2⟩
   ·refine .inl (ix.2 ⟨i,h1,h2.inside x.lab (fun i j hp h=> ?_) (fun i hp h=> ?_) w i (x.first_lab h1)⟩)
    ·exact h.elim (fun h=>⟨(x.fol_lab h).2,h⟩) fun h=>absurd (y.fol_lab h).1 (hd i hp)
    ·exact h.elim id fun h=>absurd (y.last_lab h) (hd i hp)
   ·refine .inr (iy.2 ⟨i,h1,h2.inside y.lab (fun i j hp h=> ?_) (fun i hp h=> ?_) w i (y.first_lab h1)⟩)
    ·exact h.elim (fun h=>absurd hp (hd i (x.fol_lab h).1)) fun h=>⟨(y.fol_lab h).2,h⟩
    ·exact h.elim (fun h=>absurd hp (hd i (x.last_lab h))) id
 |seq x y,⟨fx,fy,hd⟩,w,hw=>by
  have ix:=places x fx
  have iy:=places y fy
  have inY:∀w i,y.lab i→Pth acc (seq x y).fol (seq x y).last i w→Pth acc y.fol y.last i w:=fun w i hi h=>h.inside y.lab (fun i j hp h=>by
    rcases h with h|h|⟨h,_⟩
    ·exact absurd hp (hd i (x.fol_lab h).1)
    ·exact ⟨(y.fol_lab h).2,h⟩
    ·exact absurd hp (hd i (x.last_lab h))) (fun i hp h=>h.elim id fun h=>absurd hp (hd i (x.last_lab h.2))) w i hi
  constructor
  ·rintro ⟨u,v,rfl,hu,hv⟩
   by_cases hu0:u=[]
   ·subst hu0
    obtain ⟨i,h1,h2⟩:=(iy _ hw).1 hv
    exact ⟨i,.inr ⟨(nul_iff x).2 hu,h1⟩,h2.mono (fun _ _ h=> .inr (.inl h)) (fun _ h=> .inl h) _ i⟩
   ·obtain ⟨i,h1,h2⟩:=(ix u hu0).1 hu
    refine ⟨i,.inl h1,?_⟩
    by_cases hv0:v=[]
    ·subst hv0
     rw [List.append_nil]
     exact h2.mono (fun _ _ h=> .inl h) (fun _ h=> .inr ⟨(nul_iff y).2 hv,h⟩) _ i
    ·obtain ⟨j,h3,h4⟩:=(iy v hv0).1 hv
     exact Pth.append (fun _ _ h=> .inl h) (fun _ _ h h'=> .inr (.inr ⟨h,h'⟩)) h3 (h4.mono (fun _ _ h=> .inr (.inl h)) (fun _ h=> .inl h) v j) u i h2
  ·rintro ⟨i,h1,h2⟩
   rcases h1 with h1|⟨h0,h1⟩
   ·have k:Pth acc (fun i j=>(x.fol i j∨y.fol i j)∨(x.last i∧y.first j)) (seq x y).last i w:=h2.mono (fun i j h=>by
     rcases h with h|h|h
     ·exact .inl (.inl h)
     ·exact .inl (.inr h)
     ·exact .inr h) (fun _ h=>h) w i
    have inX:∀{e e':Nat→Prop} w i,(∀i,x.lab i→e i→e' i)→x.lab i→Pth acc (fun i j=>x.fol i j∨y.fol i j) e i w→Pth acc x.fol e' i w:=fun w i he hi h=>h.inside x.lab (fun i j hp h=>
     h.elim (fun h=>⟨(x.fol_lab h).2,h⟩) fun h=>absurd (y.fol_lab h).1 (hd i hp)) he w i hi
    rcases k.link w i with q|⟨u,v,j,rfl,q1,q2,q3⟩
    ·by_cases hy:y.nul=true
     ·exact ⟨w,[],(List.append_nil w).symm,(ix w hw).2 ⟨i,h1,inX w i (fun i hp h=>h.elim (fun h=>absurd (y.last_lab h) (hd i hp)) fun h=>h.2) (x.first_lab h1) q⟩,(nul_iff y).1 hy⟩
     ·exfalso
      have z:=inX (e':=fun _=>False) w i (fun i hp h=>h.elim (fun h=>absurd (y.last_lab h) (hd i hp)) fun h=>hy h.1) (x.first_lab h1) q
      have none:∀(w:List Nat) (i:Nat),¬Pth acc x.fol (fun _=>False) i w:=by
       intro w
       induction w with
       |nil=>exact fun _ h=>h
       |cons b w ih=>
        rintro i ⟨_,⟨_,h⟩|⟨j,_,h⟩⟩
        ·exact h
        ·exact ih j h
      exact none w i z
    ·refine ⟨u,v,rfl,(ix u q1.ne).2 ⟨i,h1,inX u i (fun _ _ h=>h) (x.first_lab h1) q1⟩,(iy v q3.ne).2 ⟨j,q2,inY v j (y.first_lab q2) (q3.mono (fun i j h=> ?_) (fun _ h=>h) v j)⟩⟩
     rcases h with (h|h)|h
     ·exact .inl h
     ·exact .inr (.inl h)
     ·exact .inr (.inr h)
   ·obtain q:=inY w i (y.first_lab h1) h2
    exact ⟨[],w,rfl,(nul_iff x).1 h0,(iy w hw).2 ⟨i,h1,q⟩⟩
 |rep x,fx,w,hw=>by
  have ix:=places x fx
  constructor
  ·intro h
   change kE (Lg x.pat) w at h
   have key:∀w,kE (Lg x.pat) w→w≠[]→∃i,x.first i∧Pth acc (rep x).fol x.last i w:=by
    intro w h
    induction h with
    |nil=>exact fun h=>absurd rfl h
    | @cons u v hu hv ih=>
     intro hn
     by_cases hu0:u=[]
     ·subst hu0
      exact ih hn
     ·obtain ⟨i,h1,h2⟩:=(ix u hu0).1 hu
      refine ⟨i,h1,?_⟩
      by_cases hv0:v=[]
      ·subst hv0
       rw [List.append_nil]
       exact h2.mono (fun _ _ h=> .inl h) (fun _ h=>h) _ i
      ·obtain ⟨j,h3,h4⟩:=ih hv0
       exact Pth.append (fun _ _ h=> .inl h) (fun _ _ h h'=> .inr ⟨h,h'⟩) h3 h4 u i h2
   exact key w h hw
  ·rintro ⟨i,h1,h2⟩
   have key:∀(n:Nat) (w:List Nat) (i:Nat),w.length≤n→x.first i→Pth acc (rep x).fol x.last i w→kE (Lg x.pat) w:=by
    intro n
    induction n with
    |zero=>intro w i hn _ h;exact absurd (List.length_eq_zero_iff.1 (by omega)) h.ne
    |succ n ih=>
     intro w i hn h1 h2
     rcases Pth.link (fol:=x.fol) (l:=x.last) (g:=x.first) w i h2 with q|⟨u,v,j,rfl,q1,q2,q3⟩
     ·have:=kE.cons ((ix w q.ne).2 ⟨i,h1,q⟩) kE.nil
      rwa [List.append_nil] at this
     ·have hu:0<u.length:=List.length_pos_iff.2 q1.ne
      rw [List.length_append] at hn
      exact .cons ((ix u q1.ne).2 ⟨i,h1,q1⟩) (ih v j (by omega) q2 q3)
   exact key w.length w i (Nat.le_refl _) h1 h2
end Lt
end Go.Proofs.YtenpmjhnhepfdaaGreatDoor
