/- The seat's functions as the evaluator's codes. No condition. -/
import Derived.KernelRfl
import Derived.Test.YtffiogaamojjeaaDoorAv3
import Derived.Test.YtffiogaamojjeaaDoorProg
set_option linter.all false
section
set_option linter.unusedVariables false
set_option linter.defProp false
set_option maxRecDepth 100000
set_option maxHeartbeats 4000000
namespace Go.Proofs.Tryd.Av
open Go Go.Av
abbrev n_laws_FnExactCheckShape : Nat := 3
abbrev n_laws_szCode : Nat := 4
abbrev n_spec_CheckShape : Nat := 5
abbrev n_laws_toCode : Nat := 6
abbrev n_impl_CheckShape : Nat := 7
abbrev n_laws_eqCodeFault : Nat := 8
abbrev n_laws_eqCode : Nat := 9
abbrev n_laws_szProtoS : Nat := 10
abbrev n_spec_l6parts : Nat := 11
abbrev n_spec_l6upsOk : Nat := 12
abbrev n_spec_l6fault : Nat := 13
abbrev n_laws_toProtoS : Nat := 14
abbrev n_impl_within : Nat := 15
abbrev n_impl_valueOk : Nat := 16
abbrev n_math_Signbit : Nat := 17
abbrev n_impl_insOk : Nat := 18
abbrev n_laws_eqProtoS : Nat := 19
abbrev n_laws_szProto : Nat := 20
abbrev n_spec_l6headOk : Nat := 21
abbrev n_spec_l6constOk : Nat := 22
abbrev n_spec_l6namedOk : Nat := 23
abbrev n_spec_l6insOk : Nat := 24
abbrev n_spec_l6in : Nat := 25
abbrev n_laws_toProto : Nat := 26
abbrev n_impl_bare : Nat := 27
abbrev n_impl_Ins_fields : Nat := 29
abbrev n_impl_fieldOk : Nat := 30
abbrev n_laws_eqProto : Nat := 31
abbrev n_laws_szUpS : Nat := 32
abbrev n_laws_szValueS : Nat := 33
abbrev n_laws_szInsS : Nat := 34
abbrev n_laws_szNamedS : Nat := 35
abbrev n_spec_ValueOk : Nat := 36
abbrev n_spec_l6roles : Nat := 37
abbrev n_spec_l6fields : Nat := 38
abbrev n_spec_l6fits : Nat := 39
abbrev n_laws_toUpS : Nat := 40
abbrev n_laws_toValueS : Nat := 41
abbrev n_laws_toInsS : Nat := 42
abbrev n_laws_toNamedS : Nat := 43
abbrev n_laws_eqUpS : Nat := 44
abbrev n_laws_eqValueS : Nat := 45
abbrev n_laws_eqInsS : Nat := 46
abbrev n_laws_eqNamedS : Nat := 47
abbrev n_laws_szValue : Nat := 48
abbrev n_laws_szNamed : Nat := 49
abbrev n_spec_l1zero : Nat := 50
abbrev n_laws_toUp : Nat := 51
abbrev n_laws_toValue : Nat := 52
abbrev n_laws_toIns : Nat := 53
abbrev n_laws_toNamed : Nat := 54
abbrev n_laws_eqUp : Nat := 55
abbrev n_laws_eqValue : Nat := 56
abbrev n_laws_eqIns : Nat := 57
abbrev n_laws_eqNamed : Nat := 58
abbrev n_laws_sameFloat : Nat := 59
noncomputable def lU : { l // (List.range 130).map Tryd.prog.underlying = l } := ⟨_, by cbv⟩
noncomputable def lI : { l // (List.range 130).map (tiOf Tryd.prog) = l } := ⟨_, by cbv⟩
noncomputable def lB : { l // (List.range 80).map (trBody Tryd.prog) = l } := ⟨_, by cbv⟩
noncomputable def lS : { l // (List.range 80).map (isBits Tryd.prog) = l } := ⟨_, by cbv⟩
noncomputable def Q : Tab := Tab.mk' Tryd.prog 130 80 lU.1 lI.1 [] lB.1 lS.1
theorem hQ : Q = Tab.of Tryd.prog := tab_eq lU.2 lI.2 (by kernel_rfl) lB.2 lS.2
noncomputable def v_laws_FnExactCheckShape : { F : AFn // trFnG Q ⟨138414207, 0, 138414080, 0⟩ Tryd.f3 = some F } := ⟨_, rfl⟩
noncomputable def w_laws_FnExactCheckShape : { F : AFn // v_laws_FnExactCheckShape.1 = F } := ⟨_, by cbv⟩
noncomputable def v_laws_szCode : { F : AFn // trFnG Q ⟨1047, 0, 1024, 0⟩ Tryd.f4 = some F } := ⟨_, rfl⟩
noncomputable def w_laws_szCode : { F : AFn // v_laws_szCode.1 = F } := ⟨_, by cbv⟩
noncomputable def v_spec_CheckShape : { F : AFn // trFnG Q ⟨304592782260563154584575, 0, 304592782260559381807104, 0⟩ Tryd.f5 = some F } := ⟨_, rfl⟩
noncomputable def w_spec_CheckShape : { F : AFn // v_spec_CheckShape.1 = F } := ⟨_, by cbv⟩
noncomputable def v_laws_toCode : { F : AFn // trFnG Q ⟨15, 0, 0, 0⟩ Tryd.f6 = some F } := ⟨_, rfl⟩
noncomputable def w_laws_toCode : { F : AFn // v_laws_toCode.1 = F } := ⟨_, by cbv⟩
noncomputable def v_impl_CheckShape : { F : AFn // trFnG Q ⟨10346663924250572659825432908295153906729649862714897966950260996414461344418171230046839159274474961933087859971779985391, 0, 10339098739060856892571515614766848955047285513633125260070613441739836219955142152033580920561522467717066128281577717760, 0⟩ Tryd.f7 = some F } := ⟨_, rfl⟩
noncomputable def w_impl_CheckShape : { F : AFn // v_impl_CheckShape.1 = F } := ⟨_, by cbv⟩
noncomputable def v_laws_eqCodeFault : { F : AFn // trFnG Q ⟨541215, 0, 541184, 0⟩ Tryd.f8 = some F } := ⟨_, rfl⟩
noncomputable def w_laws_eqCodeFault : { F : AFn // v_laws_eqCodeFault.1 = F } := ⟨_, by cbv⟩
noncomputable def v_laws_eqCode : { F : AFn // trFnG Q ⟨1055, 0, 1024, 0⟩ Tryd.f9 = some F } := ⟨_, rfl⟩
noncomputable def w_laws_eqCode : { F : AFn // v_laws_eqCode.1 = F } := ⟨_, by cbv⟩
noncomputable def v_laws_szProtoS : { F : AFn // trFnG Q ⟨33589299, 0, 33589248, 0⟩ Tryd.f10 = some F } := ⟨_, rfl⟩
noncomputable def w_laws_szProtoS : { F : AFn // v_laws_szProtoS.1 = F } := ⟨_, by cbv⟩
noncomputable def v_spec_l6parts : { F : AFn // trFnG Q ⟨699258220145811295582282476831343771631, 0, 691282284248709916743711465807726772224, 0⟩ Tryd.f11 = some F } := ⟨_, rfl⟩
noncomputable def w_spec_l6parts : { F : AFn // v_spec_l6parts.1 = F } := ⟨_, by cbv⟩
noncomputable def v_spec_l6upsOk : { F : AFn // trFnG Q ⟨9007199254987087, 0, 9007199254872064, 0⟩ Tryd.f12 = some F } := ⟨_, rfl⟩
noncomputable def w_spec_l6upsOk : { F : AFn // v_spec_l6upsOk.1 = F } := ⟨_, by cbv⟩
noncomputable def v_spec_l6fault : { F : AFn // trFnG Q ⟨71, 0, 0, 0⟩ Tryd.f13 = some F } := ⟨_, rfl⟩
noncomputable def w_spec_l6fault : { F : AFn // v_spec_l6fault.1 = F } := ⟨_, by cbv⟩
noncomputable def v_laws_toProtoS : { F : AFn // trFnG Q ⟨2077, 0, 2048, 0⟩ Tryd.f14 = some F } := ⟨_, rfl⟩
noncomputable def w_laws_toProtoS : { F : AFn // v_laws_toProtoS.1 = F } := ⟨_, by cbv⟩
noncomputable def v_impl_within : { F : AFn // trFnG Q ⟨71, 0, 0, 0⟩ Tryd.f15 = some F } := ⟨_, rfl⟩
noncomputable def w_impl_within : { F : AFn // v_impl_within.1 = F } := ⟨_, by cbv⟩
noncomputable def v_impl_valueOk : { F : AFn // trFnG Q ⟨4505800940716599, 0, 4503601917461024, 0⟩ Tryd.f16 = some F } := ⟨_, rfl⟩
noncomputable def w_impl_valueOk : { F : AFn // v_impl_valueOk.1 = F } := ⟨_, by cbv⟩
noncomputable def v_math_Signbit : { F : AFn // trFnG Q ⟨5, 0, 0, 0⟩ Tryd.f17 = some F } := ⟨_, rfl⟩
noncomputable def w_math_Signbit : { F : AFn // v_math_Signbit.1 = F } := ⟨_, by cbv⟩
noncomputable def v_impl_insOk : { F : AFn // trFnG Q ⟨8605140991, 0, 8598847488, 0⟩ Tryd.f18 = some F } := ⟨_, rfl⟩
noncomputable def w_impl_insOk : { F : AFn // v_impl_insOk.1 = F } := ⟨_, by cbv⟩
noncomputable def v_laws_eqProtoS : { F : AFn // trFnG Q ⟨67126323, 0, 67126272, 0⟩ Tryd.f19 = some F } := ⟨_, rfl⟩
noncomputable def w_laws_eqProtoS : { F : AFn // v_laws_eqProtoS.1 = F } := ⟨_, by cbv⟩
noncomputable def v_laws_szProto : { F : AFn // trFnG Q ⟨34905131031, 0, 34905131008, 0⟩ Tryd.f20 = some F } := ⟨_, rfl⟩
noncomputable def w_laws_szProto : { F : AFn // v_laws_szProto.1 = F } := ⟨_, by cbv⟩
noncomputable def v_spec_l6headOk : { F : AFn // trFnG Q ⟨65783, 0, 65536, 0⟩ Tryd.f21 = some F } := ⟨_, rfl⟩
noncomputable def w_spec_l6headOk : { F : AFn // v_spec_l6headOk.1 = F } := ⟨_, by cbv⟩
noncomputable def v_spec_l6constOk : { F : AFn // trFnG Q ⟨9437191, 0, 9437184, 0⟩ Tryd.f22 = some F } := ⟨_, rfl⟩
noncomputable def w_spec_l6constOk : { F : AFn // v_spec_l6constOk.1 = F } := ⟨_, by cbv⟩
noncomputable def v_spec_l6namedOk : { F : AFn // trFnG Q ⟨55, 0, 0, 0⟩ Tryd.f23 = some F } := ⟨_, rfl⟩
noncomputable def w_spec_l6namedOk : { F : AFn // v_spec_l6namedOk.1 = F } := ⟨_, by cbv⟩
noncomputable def v_spec_l6insOk : { F : AFn // trFnG Q ⟨8800186666959, 0, 8798307614720, 0⟩ Tryd.f24 = some F } := ⟨_, rfl⟩
noncomputable def w_spec_l6insOk : { F : AFn // v_spec_l6insOk.1 = F } := ⟨_, by cbv⟩
noncomputable def v_spec_l6in : { F : AFn // trFnG Q ⟨71, 0, 0, 0⟩ Tryd.f25 = some F } := ⟨_, rfl⟩
noncomputable def w_spec_l6in : { F : AFn // v_spec_l6in.1 = F } := ⟨_, by cbv⟩
noncomputable def v_laws_toProto : { F : AFn // trFnG Q ⟨15, 0, 0, 0⟩ Tryd.f26 = some F } := ⟨_, rfl⟩
noncomputable def w_laws_toProto : { F : AFn // v_laws_toProto.1 = F } := ⟨_, by cbv⟩
noncomputable def v_impl_bare : { F : AFn // trFnG Q ⟨1087, 0, 0, 0⟩ Tryd.f27 = some F } := ⟨_, rfl⟩
noncomputable def w_impl_bare : { F : AFn // v_impl_bare.1 = F } := ⟨_, by cbv⟩
noncomputable def v_impl_Ins_fields : { F : AFn // trFnG Q ⟨7, 0, 0, 0⟩ Tryd.f29 = some F } := ⟨_, rfl⟩
noncomputable def w_impl_Ins_fields : { F : AFn // v_impl_Ins_fields.1 = F } := ⟨_, by cbv⟩
noncomputable def v_impl_fieldOk : { F : AFn // trFnG Q ⟨20442124500757167221204445038399, 0, 159714897105496797257192701952, 0⟩ Tryd.f30 = some F } := ⟨_, rfl⟩
noncomputable def w_impl_fieldOk : { F : AFn // v_impl_fieldOk.1 = F } := ⟨_, by cbv⟩
noncomputable def v_laws_eqProto : { F : AFn // trFnG Q ⟨9150170680279583, 0, 9150170680279552, 0⟩ Tryd.f31 = some F } := ⟨_, rfl⟩
noncomputable def w_laws_eqProto : { F : AFn // v_laws_eqProto.1 = F } := ⟨_, by cbv⟩
noncomputable def v_laws_szUpS : { F : AFn // trFnG Q ⟨1043, 0, 1024, 0⟩ Tryd.f32 = some F } := ⟨_, rfl⟩
noncomputable def w_laws_szUpS : { F : AFn // v_laws_szUpS.1 = F } := ⟨_, by cbv⟩
noncomputable def v_laws_szValueS : { F : AFn // trFnG Q ⟨33589299, 0, 33589248, 0⟩ Tryd.f33 = some F } := ⟨_, rfl⟩
noncomputable def w_laws_szValueS : { F : AFn // v_laws_szValueS.1 = F } := ⟨_, by cbv⟩
noncomputable def v_laws_szInsS : { F : AFn // trFnG Q ⟨1043, 0, 1024, 0⟩ Tryd.f34 = some F } := ⟨_, rfl⟩
noncomputable def w_laws_szInsS : { F : AFn // v_laws_szInsS.1 = F } := ⟨_, by cbv⟩
noncomputable def v_laws_szNamedS : { F : AFn // trFnG Q ⟨33589299, 0, 33589248, 0⟩ Tryd.f35 = some F } := ⟨_, rfl⟩
noncomputable def w_laws_szNamedS : { F : AFn // v_laws_szNamedS.1 = F } := ⟨_, by cbv⟩
noncomputable def v_spec_ValueOk : { F : AFn // trFnG Q ⟨4505800940716599, 0, 4503601917461024, 0⟩ Tryd.f36 = some F } := ⟨_, rfl⟩
noncomputable def w_spec_ValueOk : { F : AFn // v_spec_ValueOk.1 = F } := ⟨_, by cbv⟩
noncomputable def v_spec_l6roles : { F : AFn // trFnG Q ⟨11856505838568583459566473112224925, 0, 11846354730246438729626144426983568, 0⟩ Tryd.f37 = some F } := ⟨_, rfl⟩
noncomputable def w_spec_l6roles : { F : AFn // v_spec_l6roles.1 = F } := ⟨_, by cbv⟩
noncomputable def v_spec_l6fields : { F : AFn // trFnG Q ⟨7, 0, 0, 0⟩ Tryd.f38 = some F } := ⟨_, rfl⟩
noncomputable def w_spec_l6fields : { F : AFn // v_spec_l6fields.1 = F } := ⟨_, by cbv⟩
noncomputable def v_spec_l6fits : { F : AFn // trFnG Q ⟨173074235654318542448789149549343, 0, 173074235654318542448787000983552, 0⟩ Tryd.f39 = some F } := ⟨_, rfl⟩
noncomputable def w_spec_l6fits : { F : AFn // v_spec_l6fits.1 = F } := ⟨_, by cbv⟩
noncomputable def v_laws_toUpS : { F : AFn // trFnG Q ⟨2077, 0, 2048, 0⟩ Tryd.f40 = some F } := ⟨_, rfl⟩
noncomputable def w_laws_toUpS : { F : AFn // v_laws_toUpS.1 = F } := ⟨_, by cbv⟩
noncomputable def v_laws_toValueS : { F : AFn // trFnG Q ⟨2077, 0, 2048, 0⟩ Tryd.f41 = some F } := ⟨_, rfl⟩
noncomputable def w_laws_toValueS : { F : AFn // v_laws_toValueS.1 = F } := ⟨_, by cbv⟩
noncomputable def v_laws_toInsS : { F : AFn // trFnG Q ⟨2077, 0, 2048, 0⟩ Tryd.f42 = some F } := ⟨_, rfl⟩
noncomputable def w_laws_toInsS : { F : AFn // v_laws_toInsS.1 = F } := ⟨_, by cbv⟩
noncomputable def v_laws_toNamedS : { F : AFn // trFnG Q ⟨2077, 0, 2048, 0⟩ Tryd.f43 = some F } := ⟨_, rfl⟩
noncomputable def w_laws_toNamedS : { F : AFn // v_laws_toNamedS.1 = F } := ⟨_, by cbv⟩
noncomputable def v_laws_eqUpS : { F : AFn // trFnG Q ⟨67126323, 0, 67126272, 0⟩ Tryd.f44 = some F } := ⟨_, rfl⟩
noncomputable def w_laws_eqUpS : { F : AFn // v_laws_eqUpS.1 = F } := ⟨_, by cbv⟩
noncomputable def v_laws_eqValueS : { F : AFn // trFnG Q ⟨67126323, 0, 67126272, 0⟩ Tryd.f45 = some F } := ⟨_, rfl⟩
noncomputable def w_laws_eqValueS : { F : AFn // v_laws_eqValueS.1 = F } := ⟨_, by cbv⟩
noncomputable def v_laws_eqInsS : { F : AFn // trFnG Q ⟨67126323, 0, 67126272, 0⟩ Tryd.f46 = some F } := ⟨_, rfl⟩
noncomputable def w_laws_eqInsS : { F : AFn // v_laws_eqInsS.1 = F } := ⟨_, by cbv⟩
noncomputable def v_laws_eqNamedS : { F : AFn // trFnG Q ⟨67126323, 0, 67126272, 0⟩ Tryd.f47 = some F } := ⟨_, rfl⟩
noncomputable def w_laws_eqNamedS : { F : AFn // v_laws_eqNamedS.1 = F } := ⟨_, by cbv⟩
noncomputable def v_laws_szValue : { F : AFn // trFnG Q ⟨2071, 0, 2048, 0⟩ Tryd.f48 = some F } := ⟨_, rfl⟩
noncomputable def w_laws_szValue : { F : AFn // v_laws_szValue.1 = F } := ⟨_, by cbv⟩
noncomputable def v_laws_szNamed : { F : AFn // trFnG Q ⟨2071, 0, 2048, 0⟩ Tryd.f49 = some F } := ⟨_, rfl⟩
noncomputable def w_laws_szNamed : { F : AFn // v_laws_szNamed.1 = F } := ⟨_, by cbv⟩
noncomputable def v_spec_l1zero : { F : AFn // trFnG Q ⟨1087, 0, 0, 0⟩ Tryd.f50 = some F } := ⟨_, rfl⟩
noncomputable def w_spec_l1zero : { F : AFn // v_spec_l1zero.1 = F } := ⟨_, by cbv⟩
noncomputable def v_laws_toUp : { F : AFn // trFnG Q ⟨15, 0, 0, 0⟩ Tryd.f51 = some F } := ⟨_, rfl⟩
noncomputable def w_laws_toUp : { F : AFn // v_laws_toUp.1 = F } := ⟨_, by cbv⟩
noncomputable def v_laws_toValue : { F : AFn // trFnG Q ⟨15, 0, 0, 0⟩ Tryd.f52 = some F } := ⟨_, rfl⟩
noncomputable def w_laws_toValue : { F : AFn // v_laws_toValue.1 = F } := ⟨_, by cbv⟩
noncomputable def v_laws_toIns : { F : AFn // trFnG Q ⟨15, 0, 0, 0⟩ Tryd.f53 = some F } := ⟨_, rfl⟩
noncomputable def w_laws_toIns : { F : AFn // v_laws_toIns.1 = F } := ⟨_, by cbv⟩
noncomputable def v_laws_toNamed : { F : AFn // trFnG Q ⟨15, 0, 0, 0⟩ Tryd.f54 = some F } := ⟨_, rfl⟩
noncomputable def w_laws_toNamed : { F : AFn // v_laws_toNamed.1 = F } := ⟨_, by cbv⟩
noncomputable def v_laws_eqUp : { F : AFn // trFnG Q ⟨16927, 0, 16896, 0⟩ Tryd.f55 = some F } := ⟨_, rfl⟩
noncomputable def w_laws_eqUp : { F : AFn // v_laws_eqUp.1 = F } := ⟨_, by cbv⟩
noncomputable def v_laws_eqValue : { F : AFn // trFnG Q ⟨1108361759, 0, 1108361728, 0⟩ Tryd.f56 = some F } := ⟨_, rfl⟩
noncomputable def w_laws_eqValue : { F : AFn // v_laws_eqValue.1 = F } := ⟨_, by cbv⟩
noncomputable def v_laws_eqIns : { F : AFn // trFnG Q ⟨554189343, 0, 554189312, 0⟩ Tryd.f57 = some F } := ⟨_, rfl⟩
noncomputable def w_laws_eqIns : { F : AFn // v_laws_eqIns.1 = F } := ⟨_, by cbv⟩
noncomputable def v_laws_eqNamed : { F : AFn // trFnG Q ⟨17318431, 0, 17318400, 0⟩ Tryd.f58 = some F } := ⟨_, rfl⟩
noncomputable def w_laws_eqNamed : { F : AFn // v_laws_eqNamed.1 = F } := ⟨_, by cbv⟩
noncomputable def v_laws_sameFloat : { F : AFn // trFnG Q ⟨67112979, 0, 67112960, 0⟩ Tryd.f59 = some F } := ⟨_, rfl⟩
noncomputable def w_laws_sameFloat : { F : AFn // v_laws_sameFloat.1 = F } := ⟨_, by cbv⟩
noncomputable def c_laws_FnExactCheckShape : AC := w_laws_FnExactCheckShape.1.code
noncomputable def R_laws_FnExactCheckShape := regAt c_laws_FnExactCheckShape
noncomputable def B_laws_FnExactCheckShape (j : Nat) : AC := (loopAt c_laws_FnExactCheckShape j).1
noncomputable def c_laws_szCode : AC := w_laws_szCode.1.code
noncomputable def R_laws_szCode := regAt c_laws_szCode
noncomputable def B_laws_szCode (j : Nat) : AC := (loopAt c_laws_szCode j).1
noncomputable def c_spec_CheckShape : AC := w_spec_CheckShape.1.code
noncomputable def R_spec_CheckShape := regAt c_spec_CheckShape
noncomputable def B_spec_CheckShape (j : Nat) : AC := (loopAt c_spec_CheckShape j).1
noncomputable def c_laws_toCode : AC := w_laws_toCode.1.code
noncomputable def R_laws_toCode := regAt c_laws_toCode
noncomputable def B_laws_toCode (j : Nat) : AC := (loopAt c_laws_toCode j).1
noncomputable def c_impl_CheckShape : AC := w_impl_CheckShape.1.code
noncomputable def R_impl_CheckShape := regAt c_impl_CheckShape
noncomputable def B_impl_CheckShape (j : Nat) : AC := (loopAt c_impl_CheckShape j).1
noncomputable def c_laws_eqCodeFault : AC := w_laws_eqCodeFault.1.code
noncomputable def R_laws_eqCodeFault := regAt c_laws_eqCodeFault
noncomputable def B_laws_eqCodeFault (j : Nat) : AC := (loopAt c_laws_eqCodeFault j).1
noncomputable def c_laws_eqCode : AC := w_laws_eqCode.1.code
noncomputable def R_laws_eqCode := regAt c_laws_eqCode
noncomputable def B_laws_eqCode (j : Nat) : AC := (loopAt c_laws_eqCode j).1
noncomputable def c_laws_szProtoS : AC := w_laws_szProtoS.1.code
noncomputable def R_laws_szProtoS := regAt c_laws_szProtoS
noncomputable def B_laws_szProtoS (j : Nat) : AC := (loopAt c_laws_szProtoS j).1
noncomputable def c_spec_l6parts : AC := w_spec_l6parts.1.code
noncomputable def R_spec_l6parts := regAt c_spec_l6parts
noncomputable def B_spec_l6parts (j : Nat) : AC := (loopAt c_spec_l6parts j).1
noncomputable def c_spec_l6upsOk : AC := w_spec_l6upsOk.1.code
noncomputable def R_spec_l6upsOk := regAt c_spec_l6upsOk
noncomputable def B_spec_l6upsOk (j : Nat) : AC := (loopAt c_spec_l6upsOk j).1
noncomputable def c_spec_l6fault : AC := w_spec_l6fault.1.code
noncomputable def R_spec_l6fault := regAt c_spec_l6fault
noncomputable def B_spec_l6fault (j : Nat) : AC := (loopAt c_spec_l6fault j).1
noncomputable def c_laws_toProtoS : AC := w_laws_toProtoS.1.code
noncomputable def R_laws_toProtoS := regAt c_laws_toProtoS
noncomputable def B_laws_toProtoS (j : Nat) : AC := (loopAt c_laws_toProtoS j).1
noncomputable def c_impl_within : AC := w_impl_within.1.code
noncomputable def R_impl_within := regAt c_impl_within
noncomputable def B_impl_within (j : Nat) : AC := (loopAt c_impl_within j).1
noncomputable def c_impl_valueOk : AC := w_impl_valueOk.1.code
noncomputable def R_impl_valueOk := regAt c_impl_valueOk
noncomputable def B_impl_valueOk (j : Nat) : AC := (loopAt c_impl_valueOk j).1
noncomputable def c_math_Signbit : AC := w_math_Signbit.1.code
noncomputable def R_math_Signbit := regAt c_math_Signbit
noncomputable def B_math_Signbit (j : Nat) : AC := (loopAt c_math_Signbit j).1
noncomputable def c_impl_insOk : AC := w_impl_insOk.1.code
noncomputable def R_impl_insOk := regAt c_impl_insOk
noncomputable def B_impl_insOk (j : Nat) : AC := (loopAt c_impl_insOk j).1
noncomputable def c_laws_eqProtoS : AC := w_laws_eqProtoS.1.code
noncomputable def R_laws_eqProtoS := regAt c_laws_eqProtoS
noncomputable def B_laws_eqProtoS (j : Nat) : AC := (loopAt c_laws_eqProtoS j).1
noncomputable def c_laws_szProto : AC := w_laws_szProto.1.code
noncomputable def R_laws_szProto := regAt c_laws_szProto
noncomputable def B_laws_szProto (j : Nat) : AC := (loopAt c_laws_szProto j).1
noncomputable def c_spec_l6headOk : AC := w_spec_l6headOk.1.code
noncomputable def R_spec_l6headOk := regAt c_spec_l6headOk
noncomputable def B_spec_l6headOk (j : Nat) : AC := (loopAt c_spec_l6headOk j).1
noncomputable def c_spec_l6constOk : AC := w_spec_l6constOk.1.code
noncomputable def R_spec_l6constOk := regAt c_spec_l6constOk
noncomputable def B_spec_l6constOk (j : Nat) : AC := (loopAt c_spec_l6constOk j).1
noncomputable def c_spec_l6namedOk : AC := w_spec_l6namedOk.1.code
noncomputable def R_spec_l6namedOk := regAt c_spec_l6namedOk
noncomputable def B_spec_l6namedOk (j : Nat) : AC := (loopAt c_spec_l6namedOk j).1
noncomputable def c_spec_l6insOk : AC := w_spec_l6insOk.1.code
noncomputable def R_spec_l6insOk := regAt c_spec_l6insOk
noncomputable def B_spec_l6insOk (j : Nat) : AC := (loopAt c_spec_l6insOk j).1
noncomputable def c_spec_l6in : AC := w_spec_l6in.1.code
noncomputable def R_spec_l6in := regAt c_spec_l6in
noncomputable def B_spec_l6in (j : Nat) : AC := (loopAt c_spec_l6in j).1
noncomputable def c_laws_toProto : AC := w_laws_toProto.1.code
noncomputable def R_laws_toProto := regAt c_laws_toProto
noncomputable def B_laws_toProto (j : Nat) : AC := (loopAt c_laws_toProto j).1
noncomputable def c_impl_bare : AC := w_impl_bare.1.code
noncomputable def R_impl_bare := regAt c_impl_bare
noncomputable def B_impl_bare (j : Nat) : AC := (loopAt c_impl_bare j).1
noncomputable def c_impl_Ins_fields : AC := w_impl_Ins_fields.1.code
noncomputable def R_impl_Ins_fields := regAt c_impl_Ins_fields
noncomputable def B_impl_Ins_fields (j : Nat) : AC := (loopAt c_impl_Ins_fields j).1
noncomputable def c_impl_fieldOk : AC := w_impl_fieldOk.1.code
noncomputable def R_impl_fieldOk := regAt c_impl_fieldOk
noncomputable def B_impl_fieldOk (j : Nat) : AC := (loopAt c_impl_fieldOk j).1
noncomputable def c_laws_eqProto : AC := w_laws_eqProto.1.code
noncomputable def R_laws_eqProto := regAt c_laws_eqProto
noncomputable def B_laws_eqProto (j : Nat) : AC := (loopAt c_laws_eqProto j).1
noncomputable def c_laws_szUpS : AC := w_laws_szUpS.1.code
noncomputable def R_laws_szUpS := regAt c_laws_szUpS
noncomputable def B_laws_szUpS (j : Nat) : AC := (loopAt c_laws_szUpS j).1
noncomputable def c_laws_szValueS : AC := w_laws_szValueS.1.code
noncomputable def R_laws_szValueS := regAt c_laws_szValueS
noncomputable def B_laws_szValueS (j : Nat) : AC := (loopAt c_laws_szValueS j).1
noncomputable def c_laws_szInsS : AC := w_laws_szInsS.1.code
noncomputable def R_laws_szInsS := regAt c_laws_szInsS
noncomputable def B_laws_szInsS (j : Nat) : AC := (loopAt c_laws_szInsS j).1
noncomputable def c_laws_szNamedS : AC := w_laws_szNamedS.1.code
noncomputable def R_laws_szNamedS := regAt c_laws_szNamedS
noncomputable def B_laws_szNamedS (j : Nat) : AC := (loopAt c_laws_szNamedS j).1
noncomputable def c_spec_ValueOk : AC := w_spec_ValueOk.1.code
noncomputable def R_spec_ValueOk := regAt c_spec_ValueOk
noncomputable def B_spec_ValueOk (j : Nat) : AC := (loopAt c_spec_ValueOk j).1
noncomputable def c_spec_l6roles : AC := w_spec_l6roles.1.code
noncomputable def R_spec_l6roles := regAt c_spec_l6roles
noncomputable def B_spec_l6roles (j : Nat) : AC := (loopAt c_spec_l6roles j).1
noncomputable def c_spec_l6fields : AC := w_spec_l6fields.1.code
noncomputable def R_spec_l6fields := regAt c_spec_l6fields
noncomputable def B_spec_l6fields (j : Nat) : AC := (loopAt c_spec_l6fields j).1
noncomputable def c_spec_l6fits : AC := w_spec_l6fits.1.code
noncomputable def R_spec_l6fits := regAt c_spec_l6fits
noncomputable def B_spec_l6fits (j : Nat) : AC := (loopAt c_spec_l6fits j).1
noncomputable def c_laws_toUpS : AC := w_laws_toUpS.1.code
noncomputable def R_laws_toUpS := regAt c_laws_toUpS
noncomputable def B_laws_toUpS (j : Nat) : AC := (loopAt c_laws_toUpS j).1
noncomputable def c_laws_toValueS : AC := w_laws_toValueS.1.code
noncomputable def R_laws_toValueS := regAt c_laws_toValueS
noncomputable def B_laws_toValueS (j : Nat) : AC := (loopAt c_laws_toValueS j).1
noncomputable def c_laws_toInsS : AC := w_laws_toInsS.1.code
noncomputable def R_laws_toInsS := regAt c_laws_toInsS
noncomputable def B_laws_toInsS (j : Nat) : AC := (loopAt c_laws_toInsS j).1
noncomputable def c_laws_toNamedS : AC := w_laws_toNamedS.1.code
noncomputable def R_laws_toNamedS := regAt c_laws_toNamedS
noncomputable def B_laws_toNamedS (j : Nat) : AC := (loopAt c_laws_toNamedS j).1
noncomputable def c_laws_eqUpS : AC := w_laws_eqUpS.1.code
noncomputable def R_laws_eqUpS := regAt c_laws_eqUpS
noncomputable def B_laws_eqUpS (j : Nat) : AC := (loopAt c_laws_eqUpS j).1
noncomputable def c_laws_eqValueS : AC := w_laws_eqValueS.1.code
noncomputable def R_laws_eqValueS := regAt c_laws_eqValueS
noncomputable def B_laws_eqValueS (j : Nat) : AC := (loopAt c_laws_eqValueS j).1
noncomputable def c_laws_eqInsS : AC := w_laws_eqInsS.1.code
noncomputable def R_laws_eqInsS := regAt c_laws_eqInsS
noncomputable def B_laws_eqInsS (j : Nat) : AC := (loopAt c_laws_eqInsS j).1
noncomputable def c_laws_eqNamedS : AC := w_laws_eqNamedS.1.code
noncomputable def R_laws_eqNamedS := regAt c_laws_eqNamedS
noncomputable def B_laws_eqNamedS (j : Nat) : AC := (loopAt c_laws_eqNamedS j).1
noncomputable def c_laws_szValue : AC := w_laws_szValue.1.code
noncomputable def R_laws_szValue := regAt c_laws_szValue
noncomputable def B_laws_szValue (j : Nat) : AC := (loopAt c_laws_szValue j).1
noncomputable def c_laws_szNamed : AC := w_laws_szNamed.1.code
noncomputable def R_laws_szNamed := regAt c_laws_szNamed
noncomputable def B_laws_szNamed (j : Nat) : AC := (loopAt c_laws_szNamed j).1
noncomputable def c_spec_l1zero : AC := w_spec_l1zero.1.code
noncomputable def R_spec_l1zero := regAt c_spec_l1zero
noncomputable def B_spec_l1zero (j : Nat) : AC := (loopAt c_spec_l1zero j).1
noncomputable def c_laws_toUp : AC := w_laws_toUp.1.code
noncomputable def R_laws_toUp := regAt c_laws_toUp
noncomputable def B_laws_toUp (j : Nat) : AC := (loopAt c_laws_toUp j).1
noncomputable def c_laws_toValue : AC := w_laws_toValue.1.code
noncomputable def R_laws_toValue := regAt c_laws_toValue
noncomputable def B_laws_toValue (j : Nat) : AC := (loopAt c_laws_toValue j).1
noncomputable def c_laws_toIns : AC := w_laws_toIns.1.code
noncomputable def R_laws_toIns := regAt c_laws_toIns
noncomputable def B_laws_toIns (j : Nat) : AC := (loopAt c_laws_toIns j).1
noncomputable def c_laws_toNamed : AC := w_laws_toNamed.1.code
noncomputable def R_laws_toNamed := regAt c_laws_toNamed
noncomputable def B_laws_toNamed (j : Nat) : AC := (loopAt c_laws_toNamed j).1
noncomputable def c_laws_eqUp : AC := w_laws_eqUp.1.code
noncomputable def R_laws_eqUp := regAt c_laws_eqUp
noncomputable def B_laws_eqUp (j : Nat) : AC := (loopAt c_laws_eqUp j).1
noncomputable def c_laws_eqValue : AC := w_laws_eqValue.1.code
noncomputable def R_laws_eqValue := regAt c_laws_eqValue
noncomputable def B_laws_eqValue (j : Nat) : AC := (loopAt c_laws_eqValue j).1
noncomputable def c_laws_eqIns : AC := w_laws_eqIns.1.code
noncomputable def R_laws_eqIns := regAt c_laws_eqIns
noncomputable def B_laws_eqIns (j : Nat) : AC := (loopAt c_laws_eqIns j).1
noncomputable def c_laws_eqNamed : AC := w_laws_eqNamed.1.code
noncomputable def R_laws_eqNamed := regAt c_laws_eqNamed
noncomputable def B_laws_eqNamed (j : Nat) : AC := (loopAt c_laws_eqNamed j).1
noncomputable def c_laws_sameFloat : AC := w_laws_sameFloat.1.code
noncomputable def R_laws_sameFloat := regAt c_laws_sameFloat
noncomputable def B_laws_sameFloat (j : Nat) : AC := (loopAt c_laws_sameFloat j).1
def rolesT : List (Int × List Int) := [(1, [7, 0, 0, 0]), (2, [8, 0, 0, 0]), (3, [0, 0, 0, 0]), (4, [1, 9, 0, 0]), (5, [1, 2, 0, 0]), (6, [1, 2, 0, 0]), (7, [1, 5, 0, 0]), (8, [5, 2, 0, 0]), (9, [1, 10, 0, 0]), (10, [10, 2, 0, 0]), (11, [1, 11, 0, 0]), (12, [1, 0, 0, 0]), (13, [4, 2, 2, 0]), (14, [4, 2, 3, 0]), (15, [1, 2, 2, 0]), (16, [2, 2, 2, 0]), (17, [1, 14, 2, 0]), (18, [1, 13, 2, 2]), (19, [12, 0, 0, 0]), (20, [2, 12, 0, 0]), (21, [2, 12, 0, 0]), (22, [1, 0, 0, 0]), (23, [6, 2, 0, 0]), (24, [6, 3, 0, 0]), (25, [1, 3, 0, 0]), (26, [1, 6, 15, 0]), (27, [1, 6, 0, 0]), (28, [1, 2, 3, 0]), (29, [3, 0, 0, 0]), (30, [2, 0, 0, 0]), (31, [12, 17, 0, 0]), (32, [0, 0, 0, 0]), (33, [16, 0, 0, 0]), (34, [16, 0, 0, 0]), (35, [2, 3, 0, 0]), (36, [0, 0, 0, 0]), (37, [18, 0, 0, 0]), (38, [18, 12, 0, 0]), (39, [18, 12, 0, 0]), (40, [19, 0, 0, 0]), (41, [20, 12, 1, 0]), (42, [1, 0, 0, 0])]
def G1 : List PV := [.fm (rolesT.map fun e => (.int .i64 e.1, .agg (e.2.map fun x => .int .i64 x)))]
noncomputable def A : AProg := ⟨fun f => match f with
  | 3 => some w_laws_FnExactCheckShape.1
  | 4 => some w_laws_szCode.1
  | 5 => some w_spec_CheckShape.1
  | 6 => some w_laws_toCode.1
  | 7 => some w_impl_CheckShape.1
  | 8 => some w_laws_eqCodeFault.1
  | 9 => some w_laws_eqCode.1
  | 10 => some w_laws_szProtoS.1
  | 11 => some w_spec_l6parts.1
  | 12 => some w_spec_l6upsOk.1
  | 13 => some w_spec_l6fault.1
  | 14 => some w_laws_toProtoS.1
  | 15 => some w_impl_within.1
  | 16 => some w_impl_valueOk.1
  | 17 => some w_math_Signbit.1
  | 18 => some w_impl_insOk.1
  | 19 => some w_laws_eqProtoS.1
  | 20 => some w_laws_szProto.1
  | 21 => some w_spec_l6headOk.1
  | 22 => some w_spec_l6constOk.1
  | 23 => some w_spec_l6namedOk.1
  | 24 => some w_spec_l6insOk.1
  | 25 => some w_spec_l6in.1
  | 26 => some w_laws_toProto.1
  | 27 => some w_impl_bare.1
  | 29 => some w_impl_Ins_fields.1
  | 30 => some w_impl_fieldOk.1
  | 31 => some w_laws_eqProto.1
  | 32 => some w_laws_szUpS.1
  | 33 => some w_laws_szValueS.1
  | 34 => some w_laws_szInsS.1
  | 35 => some w_laws_szNamedS.1
  | 36 => some w_spec_ValueOk.1
  | 37 => some w_spec_l6roles.1
  | 38 => some w_spec_l6fields.1
  | 39 => some w_spec_l6fits.1
  | 40 => some w_laws_toUpS.1
  | 41 => some w_laws_toValueS.1
  | 42 => some w_laws_toInsS.1
  | 43 => some w_laws_toNamedS.1
  | 44 => some w_laws_eqUpS.1
  | 45 => some w_laws_eqValueS.1
  | 46 => some w_laws_eqInsS.1
  | 47 => some w_laws_eqNamedS.1
  | 48 => some w_laws_szValue.1
  | 49 => some w_laws_szNamed.1
  | 50 => some w_spec_l1zero.1
  | 51 => some w_laws_toUp.1
  | 52 => some w_laws_toValue.1
  | 53 => some w_laws_toIns.1
  | 54 => some w_laws_toNamed.1
  | 55 => some w_laws_eqUp.1
  | 56 => some w_laws_eqValue.1
  | 57 => some w_laws_eqIns.1
  | 58 => some w_laws_eqNamed.1
  | 59 => some w_laws_sameFloat.1
  | _ => none, fun g => match g with | 1 => some G1 | _ => none⟩
theorem e_laws_FnExactCheckShape (x0 : PV) : EP A n_laws_FnExactCheckShape [x0] = endP [.tmp 2] (EV A c_laws_FnExactCheckShape ⟨[(0, x0)], [], [], []⟩) := run_P (F := w_laws_FnExactCheckShape.1) rfl rfl
theorem s_laws_FnExactCheckShape (x0 : PV) (H : Heap) : ES A n_laws_FnExactCheckShape [x0] H = endS H.length [.tmp 2] (EV A c_laws_FnExactCheckShape ⟨[(0, x0)], [], H, []⟩) := run_S (F := w_laws_FnExactCheckShape.1) rfl rfl
theorem e_laws_szCode (x0 x1 : PV) : EP A n_laws_szCode [x0, x1] = endP [.tmp 4] (EV A c_laws_szCode ⟨[(0, x0), (1, x1)], [], [], []⟩) := run_P (F := w_laws_szCode.1) rfl rfl
theorem s_laws_szCode (x0 x1 : PV) (H : Heap) : ES A n_laws_szCode [x0, x1] H = endS H.length [.tmp 4] (EV A c_laws_szCode ⟨[(0, x0), (1, x1)], [], H, []⟩) := run_S (F := w_laws_szCode.1) rfl rfl
theorem e_spec_CheckShape (x0 : PV) : EP A n_spec_CheckShape [x0] = endP [.cell 2 true 3] (EV A c_spec_CheckShape ⟨[(0, x0)], [], [], []⟩) := run_P (F := w_spec_CheckShape.1) rfl rfl
theorem s_spec_CheckShape (x0 : PV) (H : Heap) : ES A n_spec_CheckShape [x0] H = endS H.length [.cell 2 true 3] (EV A c_spec_CheckShape ⟨[(0, x0)], [], H, []⟩) := run_S (F := w_spec_CheckShape.1) rfl rfl
theorem e_laws_toCode (x0 : PV) : EP A n_laws_toCode [x0] = endP [.cell 2 true 1] (EV A c_laws_toCode ⟨[(0, x0)], [], [], []⟩) := run_P (F := w_laws_toCode.1) rfl rfl
theorem s_laws_toCode (x0 : PV) (H : Heap) : ES A n_laws_toCode [x0] H = endS H.length [.cell 2 true 1] (EV A c_laws_toCode ⟨[(0, x0)], [], H, []⟩) := run_S (F := w_laws_toCode.1) rfl rfl
theorem e_impl_CheckShape (x0 : PV) : EP A n_impl_CheckShape [x0] = endP [.cell 2 true 3] (EV A c_impl_CheckShape ⟨[(0, x0)], [], [], []⟩) := run_P (F := w_impl_CheckShape.1) rfl rfl
theorem s_impl_CheckShape (x0 : PV) (H : Heap) : ES A n_impl_CheckShape [x0] H = endS H.length [.cell 2 true 3] (EV A c_impl_CheckShape ⟨[(0, x0)], [], H, []⟩) := run_S (F := w_impl_CheckShape.1) rfl rfl
theorem e_laws_eqCodeFault (x0 x1 : PV) : EP A n_laws_eqCodeFault [x0, x1] = endP [.tmp 4] (EV A c_laws_eqCodeFault ⟨[(0, x0), (1, x1)], [], [], []⟩) := run_P (F := w_laws_eqCodeFault.1) rfl rfl
theorem s_laws_eqCodeFault (x0 x1 : PV) (H : Heap) : ES A n_laws_eqCodeFault [x0, x1] H = endS H.length [.tmp 4] (EV A c_laws_eqCodeFault ⟨[(0, x0), (1, x1)], [], H, []⟩) := run_S (F := w_laws_eqCodeFault.1) rfl rfl
theorem e_laws_eqCode (x0 x1 : PV) : EP A n_laws_eqCode [x0, x1] = endP [.tmp 4] (EV A c_laws_eqCode ⟨[(0, x0), (1, x1)], [], [], []⟩) := run_P (F := w_laws_eqCode.1) rfl rfl
theorem s_laws_eqCode (x0 x1 : PV) (H : Heap) : ES A n_laws_eqCode [x0, x1] H = endS H.length [.tmp 4] (EV A c_laws_eqCode ⟨[(0, x0), (1, x1)], [], H, []⟩) := run_S (F := w_laws_eqCode.1) rfl rfl
theorem e_laws_szProtoS (x0 x1 : PV) : EP A n_laws_szProtoS [x0, x1] = endP [.tmp 4] (EV A c_laws_szProtoS ⟨[(0, x0), (1, x1)], [], [], []⟩) := run_P (F := w_laws_szProtoS.1) rfl rfl
theorem s_laws_szProtoS (x0 x1 : PV) (H : Heap) : ES A n_laws_szProtoS [x0, x1] H = endS H.length [.tmp 4] (EV A c_laws_szProtoS ⟨[(0, x0), (1, x1)], [], H, []⟩) := run_S (F := w_laws_szProtoS.1) rfl rfl
theorem e_spec_l6parts (x0 : PV) : EP A n_spec_l6parts [x0] = endP [.cell 2 true 3] (EV A c_spec_l6parts ⟨[(0, x0)], [], [], []⟩) := run_P (F := w_spec_l6parts.1) rfl rfl
theorem s_spec_l6parts (x0 : PV) (H : Heap) : ES A n_spec_l6parts [x0] H = endS H.length [.cell 2 true 3] (EV A c_spec_l6parts ⟨[(0, x0)], [], H, []⟩) := run_S (F := w_spec_l6parts.1) rfl rfl
theorem e_spec_l6upsOk (x0 x1 x2 : PV) : EP A n_spec_l6upsOk [x0, x1, x2] = endP [.tmp 6] (EV A c_spec_l6upsOk ⟨[(0, x0), (1, x1), (2, x2)], [], [], []⟩) := run_P (F := w_spec_l6upsOk.1) rfl rfl
theorem s_spec_l6upsOk (x0 x1 x2 : PV) (H : Heap) : ES A n_spec_l6upsOk [x0, x1, x2] H = endS H.length [.tmp 6] (EV A c_spec_l6upsOk ⟨[(0, x0), (1, x1), (2, x2)], [], H, []⟩) := run_S (F := w_spec_l6upsOk.1) rfl rfl
theorem e_spec_l6fault (x0 x1 x2 : PV) : EP A n_spec_l6fault [x0, x1, x2] = endP [.cell 6 true 3] (EV A c_spec_l6fault ⟨[(0, x0), (1, x1), (2, x2)], [], [], []⟩) := run_P (F := w_spec_l6fault.1) rfl rfl
theorem s_spec_l6fault (x0 x1 x2 : PV) (H : Heap) : ES A n_spec_l6fault [x0, x1, x2] H = endS H.length [.cell 6 true 3] (EV A c_spec_l6fault ⟨[(0, x0), (1, x1), (2, x2)], [], H, []⟩) := run_S (F := w_spec_l6fault.1) rfl rfl
theorem e_laws_toProtoS (x0 : PV) : EP A n_laws_toProtoS [x0] = endP [.tmp 2] (EV A c_laws_toProtoS ⟨[(0, x0)], [], [], []⟩) := run_P (F := w_laws_toProtoS.1) rfl rfl
theorem s_laws_toProtoS (x0 : PV) (H : Heap) : ES A n_laws_toProtoS [x0] H = endS H.length [.tmp 2] (EV A c_laws_toProtoS ⟨[(0, x0)], [], H, []⟩) := run_S (F := w_laws_toProtoS.1) rfl rfl
theorem e_impl_within (x0 x1 x2 : PV) : EP A n_impl_within [x0, x1, x2] = endP [.tmp 6] (EV A c_impl_within ⟨[(0, x0), (1, x1), (2, x2)], [], [], []⟩) := run_P (F := w_impl_within.1) rfl rfl
theorem s_impl_within (x0 x1 x2 : PV) (H : Heap) : ES A n_impl_within [x0, x1, x2] H = endS H.length [.tmp 6] (EV A c_impl_within ⟨[(0, x0), (1, x1), (2, x2)], [], H, []⟩) := run_S (F := w_impl_within.1) rfl rfl
theorem e_impl_valueOk (x0 : PV) : EP A n_impl_valueOk [x0] = endP [.tmp 2] (EV A c_impl_valueOk ⟨[(0, x0)], [], [], []⟩) := run_P (F := w_impl_valueOk.1) rfl rfl
theorem s_impl_valueOk (x0 : PV) (H : Heap) : ES A n_impl_valueOk [x0] H = endS H.length [.tmp 2] (EV A c_impl_valueOk ⟨[(0, x0)], [], H, []⟩) := run_S (F := w_impl_valueOk.1) rfl rfl
theorem e_math_Signbit (x0 : PV) : EP A n_math_Signbit [x0] = endP [.tmp 2] (EV A c_math_Signbit ⟨[(0, x0)], [], [], []⟩) := run_P (F := w_math_Signbit.1) rfl rfl
theorem s_math_Signbit (x0 : PV) (H : Heap) : ES A n_math_Signbit [x0] H = endS H.length [.tmp 2] (EV A c_math_Signbit ⟨[(0, x0)], [], H, []⟩) := run_S (F := w_math_Signbit.1) rfl rfl
theorem e_impl_insOk (x0 x1 x2 : PV) : EP A n_impl_insOk [x0, x1, x2] = endP [.tmp 6] (EV A c_impl_insOk ⟨[(0, x0), (1, x1), (2, x2)], [], [], []⟩) := run_P (F := w_impl_insOk.1) rfl rfl
theorem s_impl_insOk (x0 x1 x2 : PV) (H : Heap) : ES A n_impl_insOk [x0, x1, x2] H = endS H.length [.tmp 6] (EV A c_impl_insOk ⟨[(0, x0), (1, x1), (2, x2)], [], H, []⟩) := run_S (F := w_impl_insOk.1) rfl rfl
theorem e_laws_eqProtoS (x0 x1 : PV) : EP A n_laws_eqProtoS [x0, x1] = endP [.tmp 4] (EV A c_laws_eqProtoS ⟨[(0, x0), (1, x1)], [], [], []⟩) := run_P (F := w_laws_eqProtoS.1) rfl rfl
theorem s_laws_eqProtoS (x0 x1 : PV) (H : Heap) : ES A n_laws_eqProtoS [x0, x1] H = endS H.length [.tmp 4] (EV A c_laws_eqProtoS ⟨[(0, x0), (1, x1)], [], H, []⟩) := run_S (F := w_laws_eqProtoS.1) rfl rfl
theorem e_laws_szProto (x0 x1 : PV) : EP A n_laws_szProto [x0, x1] = endP [.tmp 4] (EV A c_laws_szProto ⟨[(0, x0), (1, x1)], [], [], []⟩) := run_P (F := w_laws_szProto.1) rfl rfl
theorem s_laws_szProto (x0 x1 : PV) (H : Heap) : ES A n_laws_szProto [x0, x1] H = endS H.length [.tmp 4] (EV A c_laws_szProto ⟨[(0, x0), (1, x1)], [], H, []⟩) := run_S (F := w_laws_szProto.1) rfl rfl
theorem e_spec_l6headOk (x0 x1 : PV) : EP A n_spec_l6headOk [x0, x1] = endP [.tmp 4] (EV A c_spec_l6headOk ⟨[(0, x0), (1, x1)], [], [], []⟩) := run_P (F := w_spec_l6headOk.1) rfl rfl
theorem s_spec_l6headOk (x0 x1 : PV) (H : Heap) : ES A n_spec_l6headOk [x0, x1] H = endS H.length [.tmp 4] (EV A c_spec_l6headOk ⟨[(0, x0), (1, x1)], [], H, []⟩) := run_S (F := w_spec_l6headOk.1) rfl rfl
theorem e_spec_l6constOk (x0 : PV) : EP A n_spec_l6constOk [x0] = endP [.tmp 2] (EV A c_spec_l6constOk ⟨[(0, x0)], [], [], []⟩) := run_P (F := w_spec_l6constOk.1) rfl rfl
theorem s_spec_l6constOk (x0 : PV) (H : Heap) : ES A n_spec_l6constOk [x0] H = endS H.length [.tmp 2] (EV A c_spec_l6constOk ⟨[(0, x0)], [], H, []⟩) := run_S (F := w_spec_l6constOk.1) rfl rfl
theorem e_spec_l6namedOk (x0 x1 : PV) : EP A n_spec_l6namedOk [x0, x1] = endP [.tmp 4] (EV A c_spec_l6namedOk ⟨[(0, x0), (1, x1)], [], [], []⟩) := run_P (F := w_spec_l6namedOk.1) rfl rfl
theorem s_spec_l6namedOk (x0 x1 : PV) (H : Heap) : ES A n_spec_l6namedOk [x0, x1] H = endS H.length [.tmp 4] (EV A c_spec_l6namedOk ⟨[(0, x0), (1, x1)], [], H, []⟩) := run_S (F := w_spec_l6namedOk.1) rfl rfl
theorem e_spec_l6insOk (x0 x1 x2 : PV) : EP A n_spec_l6insOk [x0, x1, x2] = endP [.tmp 6] (EV A c_spec_l6insOk ⟨[(0, x0), (1, x1), (2, x2)], [], [], []⟩) := run_P (F := w_spec_l6insOk.1) rfl rfl
theorem s_spec_l6insOk (x0 x1 x2 : PV) (H : Heap) : ES A n_spec_l6insOk [x0, x1, x2] H = endS H.length [.tmp 6] (EV A c_spec_l6insOk ⟨[(0, x0), (1, x1), (2, x2)], [], H, []⟩) := run_S (F := w_spec_l6insOk.1) rfl rfl
theorem e_spec_l6in (x0 x1 x2 : PV) : EP A n_spec_l6in [x0, x1, x2] = endP [.tmp 6] (EV A c_spec_l6in ⟨[(0, x0), (1, x1), (2, x2)], [], [], []⟩) := run_P (F := w_spec_l6in.1) rfl rfl
theorem s_spec_l6in (x0 x1 x2 : PV) (H : Heap) : ES A n_spec_l6in [x0, x1, x2] H = endS H.length [.tmp 6] (EV A c_spec_l6in ⟨[(0, x0), (1, x1), (2, x2)], [], H, []⟩) := run_S (F := w_spec_l6in.1) rfl rfl
theorem e_laws_toProto (x0 : PV) : EP A n_laws_toProto [x0] = endP [.cell 2 true 9] (EV A c_laws_toProto ⟨[(0, x0)], [], [], []⟩) := run_P (F := w_laws_toProto.1) rfl rfl
theorem s_laws_toProto (x0 : PV) (H : Heap) : ES A n_laws_toProto [x0] H = endS H.length [.cell 2 true 9] (EV A c_laws_toProto ⟨[(0, x0)], [], H, []⟩) := run_S (F := w_laws_toProto.1) rfl rfl
theorem e_impl_bare (x0 x1 x2 x3 x4 : PV) : EP A n_impl_bare [x0, x1, x2, x3, x4] = endP [.tmp 10] (EV A c_impl_bare ⟨[(0, x0), (1, x1), (2, x2), (3, x3), (4, x4)], [], [], []⟩) := run_P (F := w_impl_bare.1) rfl rfl
theorem s_impl_bare (x0 x1 x2 x3 x4 : PV) (H : Heap) : ES A n_impl_bare [x0, x1, x2, x3, x4] H = endS H.length [.tmp 10] (EV A c_impl_bare ⟨[(0, x0), (1, x1), (2, x2), (3, x3), (4, x4)], [], H, []⟩) := run_S (F := w_impl_bare.1) rfl rfl
theorem e_impl_Ins_fields (x0 : PV) : EP A n_impl_Ins_fields [x0] = endP [.cell 2 true 4] (EV A c_impl_Ins_fields ⟨[(0, x0)], [], [], []⟩) := run_P (F := w_impl_Ins_fields.1) rfl rfl
theorem s_impl_Ins_fields (x0 : PV) (H : Heap) : ES A n_impl_Ins_fields [x0] H = endS H.length [.cell 2 true 4] (EV A c_impl_Ins_fields ⟨[(0, x0)], [], H, []⟩) := run_S (F := w_impl_Ins_fields.1) rfl rfl
theorem e_impl_fieldOk (x0 x1 x2 x3 : PV) : EP A n_impl_fieldOk [x0, x1, x2, x3] = endP [.tmp 8] (EV A c_impl_fieldOk ⟨[(0, x0), (1, x1), (2, x2), (3, x3)], [], [], []⟩) := run_P (F := w_impl_fieldOk.1) rfl rfl
theorem s_impl_fieldOk (x0 x1 x2 x3 : PV) (H : Heap) : ES A n_impl_fieldOk [x0, x1, x2, x3] H = endS H.length [.tmp 8] (EV A c_impl_fieldOk ⟨[(0, x0), (1, x1), (2, x2), (3, x3)], [], H, []⟩) := run_S (F := w_impl_fieldOk.1) rfl rfl
theorem e_laws_eqProto (x0 x1 : PV) : EP A n_laws_eqProto [x0, x1] = endP [.tmp 4] (EV A c_laws_eqProto ⟨[(0, x0), (1, x1)], [], [], []⟩) := run_P (F := w_laws_eqProto.1) rfl rfl
theorem s_laws_eqProto (x0 x1 : PV) (H : Heap) : ES A n_laws_eqProto [x0, x1] H = endS H.length [.tmp 4] (EV A c_laws_eqProto ⟨[(0, x0), (1, x1)], [], H, []⟩) := run_S (F := w_laws_eqProto.1) rfl rfl
theorem e_laws_szUpS (x0 x1 : PV) : EP A n_laws_szUpS [x0, x1] = endP [.tmp 4] (EV A c_laws_szUpS ⟨[(0, x0), (1, x1)], [], [], []⟩) := run_P (F := w_laws_szUpS.1) rfl rfl
theorem s_laws_szUpS (x0 x1 : PV) (H : Heap) : ES A n_laws_szUpS [x0, x1] H = endS H.length [.tmp 4] (EV A c_laws_szUpS ⟨[(0, x0), (1, x1)], [], H, []⟩) := run_S (F := w_laws_szUpS.1) rfl rfl
theorem e_laws_szValueS (x0 x1 : PV) : EP A n_laws_szValueS [x0, x1] = endP [.tmp 4] (EV A c_laws_szValueS ⟨[(0, x0), (1, x1)], [], [], []⟩) := run_P (F := w_laws_szValueS.1) rfl rfl
theorem s_laws_szValueS (x0 x1 : PV) (H : Heap) : ES A n_laws_szValueS [x0, x1] H = endS H.length [.tmp 4] (EV A c_laws_szValueS ⟨[(0, x0), (1, x1)], [], H, []⟩) := run_S (F := w_laws_szValueS.1) rfl rfl
theorem e_laws_szInsS (x0 x1 : PV) : EP A n_laws_szInsS [x0, x1] = endP [.tmp 4] (EV A c_laws_szInsS ⟨[(0, x0), (1, x1)], [], [], []⟩) := run_P (F := w_laws_szInsS.1) rfl rfl
theorem s_laws_szInsS (x0 x1 : PV) (H : Heap) : ES A n_laws_szInsS [x0, x1] H = endS H.length [.tmp 4] (EV A c_laws_szInsS ⟨[(0, x0), (1, x1)], [], H, []⟩) := run_S (F := w_laws_szInsS.1) rfl rfl
theorem e_laws_szNamedS (x0 x1 : PV) : EP A n_laws_szNamedS [x0, x1] = endP [.tmp 4] (EV A c_laws_szNamedS ⟨[(0, x0), (1, x1)], [], [], []⟩) := run_P (F := w_laws_szNamedS.1) rfl rfl
theorem s_laws_szNamedS (x0 x1 : PV) (H : Heap) : ES A n_laws_szNamedS [x0, x1] H = endS H.length [.tmp 4] (EV A c_laws_szNamedS ⟨[(0, x0), (1, x1)], [], H, []⟩) := run_S (F := w_laws_szNamedS.1) rfl rfl
theorem e_spec_ValueOk (x0 : PV) : EP A n_spec_ValueOk [x0] = endP [.tmp 2] (EV A c_spec_ValueOk ⟨[(0, x0)], [], [], []⟩) := run_P (F := w_spec_ValueOk.1) rfl rfl
theorem s_spec_ValueOk (x0 : PV) (H : Heap) : ES A n_spec_ValueOk [x0] H = endS H.length [.tmp 2] (EV A c_spec_ValueOk ⟨[(0, x0)], [], H, []⟩) := run_S (F := w_spec_ValueOk.1) rfl rfl
theorem e_spec_l6roles (x0 : PV) : EP A n_spec_l6roles [x0] = endP [.tmp 2] (EV A c_spec_l6roles ⟨[(0, x0)], [], [], []⟩) := run_P (F := w_spec_l6roles.1) rfl rfl
theorem s_spec_l6roles (x0 : PV) (H : Heap) : ES A n_spec_l6roles [x0] H = endS H.length [.tmp 2] (EV A c_spec_l6roles ⟨[(0, x0)], [], H, []⟩) := run_S (F := w_spec_l6roles.1) rfl rfl
theorem e_spec_l6fields (x0 : PV) : EP A n_spec_l6fields [x0] = endP [.tmp 2] (EV A c_spec_l6fields ⟨[(0, x0)], [], [], []⟩) := run_P (F := w_spec_l6fields.1) rfl rfl
theorem s_spec_l6fields (x0 : PV) (H : Heap) : ES A n_spec_l6fields [x0] H = endS H.length [.tmp 2] (EV A c_spec_l6fields ⟨[(0, x0)], [], H, []⟩) := run_S (F := w_spec_l6fields.1) rfl rfl
theorem e_spec_l6fits (x0 x1 x2 x3 : PV) : EP A n_spec_l6fits [x0, x1, x2, x3] = endP [.tmp 8] (EV A c_spec_l6fits ⟨[(0, x0), (1, x1), (2, x2), (3, x3)], [], [], []⟩) := run_P (F := w_spec_l6fits.1) rfl rfl
theorem s_spec_l6fits (x0 x1 x2 x3 : PV) (H : Heap) : ES A n_spec_l6fits [x0, x1, x2, x3] H = endS H.length [.tmp 8] (EV A c_spec_l6fits ⟨[(0, x0), (1, x1), (2, x2), (3, x3)], [], H, []⟩) := run_S (F := w_spec_l6fits.1) rfl rfl
theorem e_laws_toUpS (x0 : PV) : EP A n_laws_toUpS [x0] = endP [.tmp 2] (EV A c_laws_toUpS ⟨[(0, x0)], [], [], []⟩) := run_P (F := w_laws_toUpS.1) rfl rfl
theorem s_laws_toUpS (x0 : PV) (H : Heap) : ES A n_laws_toUpS [x0] H = endS H.length [.tmp 2] (EV A c_laws_toUpS ⟨[(0, x0)], [], H, []⟩) := run_S (F := w_laws_toUpS.1) rfl rfl
theorem e_laws_toValueS (x0 : PV) : EP A n_laws_toValueS [x0] = endP [.tmp 2] (EV A c_laws_toValueS ⟨[(0, x0)], [], [], []⟩) := run_P (F := w_laws_toValueS.1) rfl rfl
theorem s_laws_toValueS (x0 : PV) (H : Heap) : ES A n_laws_toValueS [x0] H = endS H.length [.tmp 2] (EV A c_laws_toValueS ⟨[(0, x0)], [], H, []⟩) := run_S (F := w_laws_toValueS.1) rfl rfl
theorem e_laws_toInsS (x0 : PV) : EP A n_laws_toInsS [x0] = endP [.tmp 2] (EV A c_laws_toInsS ⟨[(0, x0)], [], [], []⟩) := run_P (F := w_laws_toInsS.1) rfl rfl
theorem s_laws_toInsS (x0 : PV) (H : Heap) : ES A n_laws_toInsS [x0] H = endS H.length [.tmp 2] (EV A c_laws_toInsS ⟨[(0, x0)], [], H, []⟩) := run_S (F := w_laws_toInsS.1) rfl rfl
theorem e_laws_toNamedS (x0 : PV) : EP A n_laws_toNamedS [x0] = endP [.tmp 2] (EV A c_laws_toNamedS ⟨[(0, x0)], [], [], []⟩) := run_P (F := w_laws_toNamedS.1) rfl rfl
theorem s_laws_toNamedS (x0 : PV) (H : Heap) : ES A n_laws_toNamedS [x0] H = endS H.length [.tmp 2] (EV A c_laws_toNamedS ⟨[(0, x0)], [], H, []⟩) := run_S (F := w_laws_toNamedS.1) rfl rfl
theorem e_laws_eqUpS (x0 x1 : PV) : EP A n_laws_eqUpS [x0, x1] = endP [.tmp 4] (EV A c_laws_eqUpS ⟨[(0, x0), (1, x1)], [], [], []⟩) := run_P (F := w_laws_eqUpS.1) rfl rfl
theorem s_laws_eqUpS (x0 x1 : PV) (H : Heap) : ES A n_laws_eqUpS [x0, x1] H = endS H.length [.tmp 4] (EV A c_laws_eqUpS ⟨[(0, x0), (1, x1)], [], H, []⟩) := run_S (F := w_laws_eqUpS.1) rfl rfl
theorem e_laws_eqValueS (x0 x1 : PV) : EP A n_laws_eqValueS [x0, x1] = endP [.tmp 4] (EV A c_laws_eqValueS ⟨[(0, x0), (1, x1)], [], [], []⟩) := run_P (F := w_laws_eqValueS.1) rfl rfl
theorem s_laws_eqValueS (x0 x1 : PV) (H : Heap) : ES A n_laws_eqValueS [x0, x1] H = endS H.length [.tmp 4] (EV A c_laws_eqValueS ⟨[(0, x0), (1, x1)], [], H, []⟩) := run_S (F := w_laws_eqValueS.1) rfl rfl
theorem e_laws_eqInsS (x0 x1 : PV) : EP A n_laws_eqInsS [x0, x1] = endP [.tmp 4] (EV A c_laws_eqInsS ⟨[(0, x0), (1, x1)], [], [], []⟩) := run_P (F := w_laws_eqInsS.1) rfl rfl
theorem s_laws_eqInsS (x0 x1 : PV) (H : Heap) : ES A n_laws_eqInsS [x0, x1] H = endS H.length [.tmp 4] (EV A c_laws_eqInsS ⟨[(0, x0), (1, x1)], [], H, []⟩) := run_S (F := w_laws_eqInsS.1) rfl rfl
theorem e_laws_eqNamedS (x0 x1 : PV) : EP A n_laws_eqNamedS [x0, x1] = endP [.tmp 4] (EV A c_laws_eqNamedS ⟨[(0, x0), (1, x1)], [], [], []⟩) := run_P (F := w_laws_eqNamedS.1) rfl rfl
theorem s_laws_eqNamedS (x0 x1 : PV) (H : Heap) : ES A n_laws_eqNamedS [x0, x1] H = endS H.length [.tmp 4] (EV A c_laws_eqNamedS ⟨[(0, x0), (1, x1)], [], H, []⟩) := run_S (F := w_laws_eqNamedS.1) rfl rfl
theorem e_laws_szValue (x0 x1 : PV) : EP A n_laws_szValue [x0, x1] = endP [.tmp 4] (EV A c_laws_szValue ⟨[(0, x0), (1, x1)], [], [], []⟩) := run_P (F := w_laws_szValue.1) rfl rfl
theorem s_laws_szValue (x0 x1 : PV) (H : Heap) : ES A n_laws_szValue [x0, x1] H = endS H.length [.tmp 4] (EV A c_laws_szValue ⟨[(0, x0), (1, x1)], [], H, []⟩) := run_S (F := w_laws_szValue.1) rfl rfl
theorem e_laws_szNamed (x0 x1 : PV) : EP A n_laws_szNamed [x0, x1] = endP [.tmp 4] (EV A c_laws_szNamed ⟨[(0, x0), (1, x1)], [], [], []⟩) := run_P (F := w_laws_szNamed.1) rfl rfl
theorem s_laws_szNamed (x0 x1 : PV) (H : Heap) : ES A n_laws_szNamed [x0, x1] H = endS H.length [.tmp 4] (EV A c_laws_szNamed ⟨[(0, x0), (1, x1)], [], H, []⟩) := run_S (F := w_laws_szNamed.1) rfl rfl
theorem e_spec_l1zero (x0 x1 x2 x3 x4 : PV) : EP A n_spec_l1zero [x0, x1, x2, x3, x4] = endP [.tmp 10] (EV A c_spec_l1zero ⟨[(0, x0), (1, x1), (2, x2), (3, x3), (4, x4)], [], [], []⟩) := run_P (F := w_spec_l1zero.1) rfl rfl
theorem s_spec_l1zero (x0 x1 x2 x3 x4 : PV) (H : Heap) : ES A n_spec_l1zero [x0, x1, x2, x3, x4] H = endS H.length [.tmp 10] (EV A c_spec_l1zero ⟨[(0, x0), (1, x1), (2, x2), (3, x3), (4, x4)], [], H, []⟩) := run_S (F := w_spec_l1zero.1) rfl rfl
theorem e_laws_toUp (x0 : PV) : EP A n_laws_toUp [x0] = endP [.cell 2 true 2] (EV A c_laws_toUp ⟨[(0, x0)], [], [], []⟩) := run_P (F := w_laws_toUp.1) rfl rfl
theorem s_laws_toUp (x0 : PV) (H : Heap) : ES A n_laws_toUp [x0] H = endS H.length [.cell 2 true 2] (EV A c_laws_toUp ⟨[(0, x0)], [], H, []⟩) := run_S (F := w_laws_toUp.1) rfl rfl
theorem e_laws_toValue (x0 : PV) : EP A n_laws_toValue [x0] = endP [.cell 2 true 5] (EV A c_laws_toValue ⟨[(0, x0)], [], [], []⟩) := run_P (F := w_laws_toValue.1) rfl rfl
theorem s_laws_toValue (x0 : PV) (H : Heap) : ES A n_laws_toValue [x0] H = endS H.length [.cell 2 true 5] (EV A c_laws_toValue ⟨[(0, x0)], [], H, []⟩) := run_S (F := w_laws_toValue.1) rfl rfl
theorem e_laws_toIns (x0 : PV) : EP A n_laws_toIns [x0] = endP [.cell 2 true 5] (EV A c_laws_toIns ⟨[(0, x0)], [], [], []⟩) := run_P (F := w_laws_toIns.1) rfl rfl
theorem s_laws_toIns (x0 : PV) (H : Heap) : ES A n_laws_toIns [x0] H = endS H.length [.cell 2 true 5] (EV A c_laws_toIns ⟨[(0, x0)], [], H, []⟩) := run_S (F := w_laws_toIns.1) rfl rfl
theorem e_laws_toNamed (x0 : PV) : EP A n_laws_toNamed [x0] = endP [.cell 2 true 4] (EV A c_laws_toNamed ⟨[(0, x0)], [], [], []⟩) := run_P (F := w_laws_toNamed.1) rfl rfl
theorem s_laws_toNamed (x0 : PV) (H : Heap) : ES A n_laws_toNamed [x0] H = endS H.length [.cell 2 true 4] (EV A c_laws_toNamed ⟨[(0, x0)], [], H, []⟩) := run_S (F := w_laws_toNamed.1) rfl rfl
theorem e_laws_eqUp (x0 x1 : PV) : EP A n_laws_eqUp [x0, x1] = endP [.tmp 4] (EV A c_laws_eqUp ⟨[(0, x0), (1, x1)], [], [], []⟩) := run_P (F := w_laws_eqUp.1) rfl rfl
theorem s_laws_eqUp (x0 x1 : PV) (H : Heap) : ES A n_laws_eqUp [x0, x1] H = endS H.length [.tmp 4] (EV A c_laws_eqUp ⟨[(0, x0), (1, x1)], [], H, []⟩) := run_S (F := w_laws_eqUp.1) rfl rfl
theorem e_laws_eqValue (x0 x1 : PV) : EP A n_laws_eqValue [x0, x1] = endP [.tmp 4] (EV A c_laws_eqValue ⟨[(0, x0), (1, x1)], [], [], []⟩) := run_P (F := w_laws_eqValue.1) rfl rfl
theorem s_laws_eqValue (x0 x1 : PV) (H : Heap) : ES A n_laws_eqValue [x0, x1] H = endS H.length [.tmp 4] (EV A c_laws_eqValue ⟨[(0, x0), (1, x1)], [], H, []⟩) := run_S (F := w_laws_eqValue.1) rfl rfl
theorem e_laws_eqIns (x0 x1 : PV) : EP A n_laws_eqIns [x0, x1] = endP [.tmp 4] (EV A c_laws_eqIns ⟨[(0, x0), (1, x1)], [], [], []⟩) := run_P (F := w_laws_eqIns.1) rfl rfl
theorem s_laws_eqIns (x0 x1 : PV) (H : Heap) : ES A n_laws_eqIns [x0, x1] H = endS H.length [.tmp 4] (EV A c_laws_eqIns ⟨[(0, x0), (1, x1)], [], H, []⟩) := run_S (F := w_laws_eqIns.1) rfl rfl
theorem e_laws_eqNamed (x0 x1 : PV) : EP A n_laws_eqNamed [x0, x1] = endP [.tmp 4] (EV A c_laws_eqNamed ⟨[(0, x0), (1, x1)], [], [], []⟩) := run_P (F := w_laws_eqNamed.1) rfl rfl
theorem s_laws_eqNamed (x0 x1 : PV) (H : Heap) : ES A n_laws_eqNamed [x0, x1] H = endS H.length [.tmp 4] (EV A c_laws_eqNamed ⟨[(0, x0), (1, x1)], [], H, []⟩) := run_S (F := w_laws_eqNamed.1) rfl rfl
theorem e_laws_sameFloat (x0 x1 : PV) : EP A n_laws_sameFloat [x0, x1] = endP [.tmp 4] (EV A c_laws_sameFloat ⟨[(0, x0), (1, x1)], [], [], []⟩) := run_P (F := w_laws_sameFloat.1) rfl rfl
theorem s_laws_sameFloat (x0 x1 : PV) (H : Heap) : ES A n_laws_sameFloat [x0, x1] H = endS H.length [.tmp 4] (EV A c_laws_sameFloat ⟨[(0, x0), (1, x1)], [], H, []⟩) := run_S (F := w_laws_sameFloat.1) rfl rfl
noncomputable def u_laws_FnExactCheckShape := skC (c := c_laws_FnExactCheckShape) (R := R_laws_FnExactCheckShape) (B := B_laws_FnExactCheckShape) rfl rfl (fun R B => by cbv)
noncomputable def rr_laws_FnExactCheckShape := rrOf (P := A) (c := c_laws_FnExactCheckShape) (R := R_laws_FnExactCheckShape) rfl rfl (by cbv) (fun P R => by cbv)
noncomputable def u_laws_szCode := skC (c := c_laws_szCode) (R := R_laws_szCode) (B := B_laws_szCode) rfl rfl (fun R B => by cbv)
noncomputable def rr_laws_szCode := rrOf (P := A) (c := c_laws_szCode) (R := R_laws_szCode) rfl rfl (by cbv) (fun P R => by cbv)
noncomputable def u_spec_CheckShape := skC (c := c_spec_CheckShape) (R := R_spec_CheckShape) (B := B_spec_CheckShape) rfl rfl (fun R B => by cbv)
noncomputable def ub_spec_CheckShape_0 := skB (c := c_spec_CheckShape) (R := R_spec_CheckShape) (B := B_spec_CheckShape) (j := 0) rfl rfl (fun R B => by cbv)
noncomputable def ub_spec_CheckShape_1 := skB (c := c_spec_CheckShape) (R := R_spec_CheckShape) (B := B_spec_CheckShape) (j := 1) rfl rfl (fun R B => by cbv)
noncomputable def ub_spec_CheckShape_2 := skB (c := c_spec_CheckShape) (R := R_spec_CheckShape) (B := B_spec_CheckShape) (j := 2) rfl rfl (fun R B => by cbv)
noncomputable def rr_spec_CheckShape := rrOf (P := A) (c := c_spec_CheckShape) (R := R_spec_CheckShape) rfl rfl (by cbv) (fun P R => by cbv)
noncomputable def u_laws_toCode := skC (c := c_laws_toCode) (R := R_laws_toCode) (B := B_laws_toCode) rfl rfl (fun R B => by cbv)
noncomputable def rr_laws_toCode := rrOf (P := A) (c := c_laws_toCode) (R := R_laws_toCode) rfl rfl (by cbv) (fun P R => by cbv)
noncomputable def u_impl_CheckShape := skC (c := c_impl_CheckShape) (R := R_impl_CheckShape) (B := B_impl_CheckShape) rfl rfl (fun R B => by cbv)
noncomputable def ub_impl_CheckShape_0 := skB (c := c_impl_CheckShape) (R := R_impl_CheckShape) (B := B_impl_CheckShape) (j := 0) rfl rfl (fun R B => by cbv)
noncomputable def ub_impl_CheckShape_1 := skB (c := c_impl_CheckShape) (R := R_impl_CheckShape) (B := B_impl_CheckShape) (j := 1) rfl rfl (fun R B => by cbv)
noncomputable def ub_impl_CheckShape_2 := skB (c := c_impl_CheckShape) (R := R_impl_CheckShape) (B := B_impl_CheckShape) (j := 2) rfl rfl (fun R B => by cbv)
noncomputable def ub_impl_CheckShape_3 := skB (c := c_impl_CheckShape) (R := R_impl_CheckShape) (B := B_impl_CheckShape) (j := 3) rfl rfl (fun R B => by cbv)
noncomputable def ub_impl_CheckShape_4 := skB (c := c_impl_CheckShape) (R := R_impl_CheckShape) (B := B_impl_CheckShape) (j := 4) rfl rfl (fun R B => by cbv)
noncomputable def ub_impl_CheckShape_5 := skB (c := c_impl_CheckShape) (R := R_impl_CheckShape) (B := B_impl_CheckShape) (j := 5) rfl rfl (fun R B => by cbv)
noncomputable def ub_impl_CheckShape_6 := skB (c := c_impl_CheckShape) (R := R_impl_CheckShape) (B := B_impl_CheckShape) (j := 6) rfl rfl (fun R B => by cbv)
noncomputable def ub_impl_CheckShape_7 := skB (c := c_impl_CheckShape) (R := R_impl_CheckShape) (B := B_impl_CheckShape) (j := 7) rfl rfl (fun R B => by cbv)
noncomputable def ub_impl_CheckShape_8 := skB (c := c_impl_CheckShape) (R := R_impl_CheckShape) (B := B_impl_CheckShape) (j := 8) rfl rfl (fun R B => by cbv)
noncomputable def ub_impl_CheckShape_9 := skB (c := c_impl_CheckShape) (R := R_impl_CheckShape) (B := B_impl_CheckShape) (j := 9) rfl rfl (fun R B => by cbv)
noncomputable def ub_impl_CheckShape_10 := skB (c := c_impl_CheckShape) (R := R_impl_CheckShape) (B := B_impl_CheckShape) (j := 10) rfl rfl (fun R B => by cbv)
noncomputable def ub_impl_CheckShape_11 := skB (c := c_impl_CheckShape) (R := R_impl_CheckShape) (B := B_impl_CheckShape) (j := 11) rfl rfl (fun R B => by cbv)
noncomputable def rr_impl_CheckShape := rrOf (P := A) (c := c_impl_CheckShape) (R := R_impl_CheckShape) rfl rfl (by cbv) (fun P R => by cbv)
noncomputable def u_laws_eqCodeFault := skC (c := c_laws_eqCodeFault) (R := R_laws_eqCodeFault) (B := B_laws_eqCodeFault) rfl rfl (fun R B => by cbv)
noncomputable def rr_laws_eqCodeFault := rrOf (P := A) (c := c_laws_eqCodeFault) (R := R_laws_eqCodeFault) rfl rfl (by cbv) (fun P R => by cbv)
noncomputable def u_laws_eqCode := skC (c := c_laws_eqCode) (R := R_laws_eqCode) (B := B_laws_eqCode) rfl rfl (fun R B => by cbv)
noncomputable def rr_laws_eqCode := rrOf (P := A) (c := c_laws_eqCode) (R := R_laws_eqCode) rfl rfl (by cbv) (fun P R => by cbv)
noncomputable def u_laws_szProtoS := skC (c := c_laws_szProtoS) (R := R_laws_szProtoS) (B := B_laws_szProtoS) rfl rfl (fun R B => by cbv)
noncomputable def ub_laws_szProtoS_0 := skB (c := c_laws_szProtoS) (R := R_laws_szProtoS) (B := B_laws_szProtoS) (j := 0) rfl rfl (fun R B => by cbv)
noncomputable def rr_laws_szProtoS := rrOf (P := A) (c := c_laws_szProtoS) (R := R_laws_szProtoS) rfl rfl (by cbv) (fun P R => by cbv)
noncomputable def u_spec_l6parts := skC (c := c_spec_l6parts) (R := R_spec_l6parts) (B := B_spec_l6parts) rfl rfl (fun R B => by cbv)
noncomputable def ub_spec_l6parts_0 := skB (c := c_spec_l6parts) (R := R_spec_l6parts) (B := B_spec_l6parts) (j := 0) rfl rfl (fun R B => by cbv)
noncomputable def ub_spec_l6parts_1 := skB (c := c_spec_l6parts) (R := R_spec_l6parts) (B := B_spec_l6parts) (j := 1) rfl rfl (fun R B => by cbv)
noncomputable def ub_spec_l6parts_2 := skB (c := c_spec_l6parts) (R := R_spec_l6parts) (B := B_spec_l6parts) (j := 2) rfl rfl (fun R B => by cbv)
noncomputable def ub_spec_l6parts_3 := skB (c := c_spec_l6parts) (R := R_spec_l6parts) (B := B_spec_l6parts) (j := 3) rfl rfl (fun R B => by cbv)
noncomputable def ub_spec_l6parts_4 := skB (c := c_spec_l6parts) (R := R_spec_l6parts) (B := B_spec_l6parts) (j := 4) rfl rfl (fun R B => by cbv)
noncomputable def ub_spec_l6parts_5 := skB (c := c_spec_l6parts) (R := R_spec_l6parts) (B := B_spec_l6parts) (j := 5) rfl rfl (fun R B => by cbv)
noncomputable def ub_spec_l6parts_6 := skB (c := c_spec_l6parts) (R := R_spec_l6parts) (B := B_spec_l6parts) (j := 6) rfl rfl (fun R B => by cbv)
noncomputable def ub_spec_l6parts_7 := skB (c := c_spec_l6parts) (R := R_spec_l6parts) (B := B_spec_l6parts) (j := 7) rfl rfl (fun R B => by cbv)
noncomputable def rr_spec_l6parts := rrOf (P := A) (c := c_spec_l6parts) (R := R_spec_l6parts) rfl rfl (by cbv) (fun P R => by cbv)
noncomputable def u_spec_l6upsOk := skC (c := c_spec_l6upsOk) (R := R_spec_l6upsOk) (B := B_spec_l6upsOk) rfl rfl (fun R B => by cbv)
noncomputable def ub_spec_l6upsOk_0 := skB (c := c_spec_l6upsOk) (R := R_spec_l6upsOk) (B := B_spec_l6upsOk) (j := 0) rfl rfl (fun R B => by cbv)
noncomputable def rr_spec_l6upsOk := rrOf (P := A) (c := c_spec_l6upsOk) (R := R_spec_l6upsOk) rfl rfl (by cbv) (fun P R => by cbv)
noncomputable def u_spec_l6fault := skC (c := c_spec_l6fault) (R := R_spec_l6fault) (B := B_spec_l6fault) rfl rfl (fun R B => by cbv)
noncomputable def rr_spec_l6fault := rrOf (P := A) (c := c_spec_l6fault) (R := R_spec_l6fault) rfl rfl (by cbv) (fun P R => by cbv)
noncomputable def u_laws_toProtoS := skC (c := c_laws_toProtoS) (R := R_laws_toProtoS) (B := B_laws_toProtoS) rfl rfl (fun R B => by cbv)
noncomputable def ub_laws_toProtoS_0 := skB (c := c_laws_toProtoS) (R := R_laws_toProtoS) (B := B_laws_toProtoS) (j := 0) rfl rfl (fun R B => by cbv)
noncomputable def rr_laws_toProtoS := rrOf (P := A) (c := c_laws_toProtoS) (R := R_laws_toProtoS) rfl rfl (by cbv) (fun P R => by cbv)
noncomputable def u_impl_within := skC (c := c_impl_within) (R := R_impl_within) (B := B_impl_within) rfl rfl (fun R B => by cbv)
noncomputable def rr_impl_within := rrOf (P := A) (c := c_impl_within) (R := R_impl_within) rfl rfl (by cbv) (fun P R => by cbv)
noncomputable def u_impl_valueOk := skC (c := c_impl_valueOk) (R := R_impl_valueOk) (B := B_impl_valueOk) rfl rfl (fun R B => by cbv)
noncomputable def rr_impl_valueOk := rrOf (P := A) (c := c_impl_valueOk) (R := R_impl_valueOk) rfl rfl (by cbv) (fun P R => by cbv)
noncomputable def u_math_Signbit := skC (c := c_math_Signbit) (R := R_math_Signbit) (B := B_math_Signbit) rfl rfl (fun R B => by cbv)
noncomputable def rr_math_Signbit := rrOf (P := A) (c := c_math_Signbit) (R := R_math_Signbit) rfl rfl (by cbv) (fun P R => by cbv)
noncomputable def u_impl_insOk := skC (c := c_impl_insOk) (R := R_impl_insOk) (B := B_impl_insOk) rfl rfl (fun R B => by cbv)
noncomputable def ub_impl_insOk_0 := skB (c := c_impl_insOk) (R := R_impl_insOk) (B := B_impl_insOk) (j := 0) rfl rfl (fun R B => by cbv)
noncomputable def rr_impl_insOk := rrOf (P := A) (c := c_impl_insOk) (R := R_impl_insOk) rfl rfl (by cbv) (fun P R => by cbv)
noncomputable def u_laws_eqProtoS := skC (c := c_laws_eqProtoS) (R := R_laws_eqProtoS) (B := B_laws_eqProtoS) rfl rfl (fun R B => by cbv)
noncomputable def ub_laws_eqProtoS_0 := skB (c := c_laws_eqProtoS) (R := R_laws_eqProtoS) (B := B_laws_eqProtoS) (j := 0) rfl rfl (fun R B => by cbv)
noncomputable def rr_laws_eqProtoS := rrOf (P := A) (c := c_laws_eqProtoS) (R := R_laws_eqProtoS) rfl rfl (by cbv) (fun P R => by cbv)
noncomputable def u_laws_szProto := skC (c := c_laws_szProto) (R := R_laws_szProto) (B := B_laws_szProto) rfl rfl (fun R B => by cbv)
noncomputable def rr_laws_szProto := rrOf (P := A) (c := c_laws_szProto) (R := R_laws_szProto) rfl rfl (by cbv) (fun P R => by cbv)
noncomputable def u_spec_l6headOk := skC (c := c_spec_l6headOk) (R := R_spec_l6headOk) (B := B_spec_l6headOk) rfl rfl (fun R B => by cbv)
noncomputable def rr_spec_l6headOk := rrOf (P := A) (c := c_spec_l6headOk) (R := R_spec_l6headOk) rfl rfl (by cbv) (fun P R => by cbv)
noncomputable def u_spec_l6constOk := skC (c := c_spec_l6constOk) (R := R_spec_l6constOk) (B := B_spec_l6constOk) rfl rfl (fun R B => by cbv)
noncomputable def rr_spec_l6constOk := rrOf (P := A) (c := c_spec_l6constOk) (R := R_spec_l6constOk) rfl rfl (by cbv) (fun P R => by cbv)
noncomputable def u_spec_l6namedOk := skC (c := c_spec_l6namedOk) (R := R_spec_l6namedOk) (B := B_spec_l6namedOk) rfl rfl (fun R B => by cbv)
noncomputable def rr_spec_l6namedOk := rrOf (P := A) (c := c_spec_l6namedOk) (R := R_spec_l6namedOk) rfl rfl (by cbv) (fun P R => by cbv)
noncomputable def u_spec_l6insOk := skC (c := c_spec_l6insOk) (R := R_spec_l6insOk) (B := B_spec_l6insOk) rfl rfl (fun R B => by cbv)
noncomputable def ub_spec_l6insOk_0 := skB (c := c_spec_l6insOk) (R := R_spec_l6insOk) (B := B_spec_l6insOk) (j := 0) rfl rfl (fun R B => by cbv)
noncomputable def rr_spec_l6insOk := rrOf (P := A) (c := c_spec_l6insOk) (R := R_spec_l6insOk) rfl rfl (by cbv) (fun P R => by cbv)
noncomputable def u_spec_l6in := skC (c := c_spec_l6in) (R := R_spec_l6in) (B := B_spec_l6in) rfl rfl (fun R B => by cbv)
noncomputable def rr_spec_l6in := rrOf (P := A) (c := c_spec_l6in) (R := R_spec_l6in) rfl rfl (by cbv) (fun P R => by cbv)
noncomputable def u_laws_toProto := skC (c := c_laws_toProto) (R := R_laws_toProto) (B := B_laws_toProto) rfl rfl (fun R B => by cbv)
noncomputable def rr_laws_toProto := rrOf (P := A) (c := c_laws_toProto) (R := R_laws_toProto) rfl rfl (by cbv) (fun P R => by cbv)
noncomputable def u_impl_bare := skC (c := c_impl_bare) (R := R_impl_bare) (B := B_impl_bare) rfl rfl (fun R B => by cbv)
noncomputable def rr_impl_bare := rrOf (P := A) (c := c_impl_bare) (R := R_impl_bare) rfl rfl (by cbv) (fun P R => by cbv)
noncomputable def u_impl_Ins_fields := skC (c := c_impl_Ins_fields) (R := R_impl_Ins_fields) (B := B_impl_Ins_fields) rfl rfl (fun R B => by cbv)
noncomputable def rr_impl_Ins_fields := rrOf (P := A) (c := c_impl_Ins_fields) (R := R_impl_Ins_fields) rfl rfl (by cbv) (fun P R => by cbv)
noncomputable def u_impl_fieldOk := skC (c := c_impl_fieldOk) (R := R_impl_fieldOk) (B := B_impl_fieldOk) rfl rfl (fun R B => by cbv)
noncomputable def rr_impl_fieldOk := rrOf (P := A) (c := c_impl_fieldOk) (R := R_impl_fieldOk) rfl rfl (by cbv) (fun P R => by cbv)
noncomputable def u_laws_eqProto := skC (c := c_laws_eqProto) (R := R_laws_eqProto) (B := B_laws_eqProto) rfl rfl (fun R B => by cbv)
noncomputable def rr_laws_eqProto := rrOf (P := A) (c := c_laws_eqProto) (R := R_laws_eqProto) rfl rfl (by cbv) (fun P R => by cbv)
noncomputable def u_laws_szUpS := skC (c := c_laws_szUpS) (R := R_laws_szUpS) (B := B_laws_szUpS) rfl rfl (fun R B => by cbv)
noncomputable def rr_laws_szUpS := rrOf (P := A) (c := c_laws_szUpS) (R := R_laws_szUpS) rfl rfl (by cbv) (fun P R => by cbv)
noncomputable def u_laws_szValueS := skC (c := c_laws_szValueS) (R := R_laws_szValueS) (B := B_laws_szValueS) rfl rfl (fun R B => by cbv)
noncomputable def ub_laws_szValueS_0 := skB (c := c_laws_szValueS) (R := R_laws_szValueS) (B := B_laws_szValueS) (j := 0) rfl rfl (fun R B => by cbv)
noncomputable def rr_laws_szValueS := rrOf (P := A) (c := c_laws_szValueS) (R := R_laws_szValueS) rfl rfl (by cbv) (fun P R => by cbv)
noncomputable def u_laws_szInsS := skC (c := c_laws_szInsS) (R := R_laws_szInsS) (B := B_laws_szInsS) rfl rfl (fun R B => by cbv)
noncomputable def rr_laws_szInsS := rrOf (P := A) (c := c_laws_szInsS) (R := R_laws_szInsS) rfl rfl (by cbv) (fun P R => by cbv)
noncomputable def u_laws_szNamedS := skC (c := c_laws_szNamedS) (R := R_laws_szNamedS) (B := B_laws_szNamedS) rfl rfl (fun R B => by cbv)
noncomputable def ub_laws_szNamedS_0 := skB (c := c_laws_szNamedS) (R := R_laws_szNamedS) (B := B_laws_szNamedS) (j := 0) rfl rfl (fun R B => by cbv)
noncomputable def rr_laws_szNamedS := rrOf (P := A) (c := c_laws_szNamedS) (R := R_laws_szNamedS) rfl rfl (by cbv) (fun P R => by cbv)
noncomputable def u_spec_ValueOk := skC (c := c_spec_ValueOk) (R := R_spec_ValueOk) (B := B_spec_ValueOk) rfl rfl (fun R B => by cbv)
noncomputable def rr_spec_ValueOk := rrOf (P := A) (c := c_spec_ValueOk) (R := R_spec_ValueOk) rfl rfl (by cbv) (fun P R => by cbv)
noncomputable def u_spec_l6roles := skC (c := c_spec_l6roles) (R := R_spec_l6roles) (B := B_spec_l6roles) rfl rfl (fun R B => by cbv)
noncomputable def rr_spec_l6roles := rrOf (P := A) (c := c_spec_l6roles) (R := R_spec_l6roles) rfl rfl (by cbv) (fun P R => by cbv)
noncomputable def u_spec_l6fields := skC (c := c_spec_l6fields) (R := R_spec_l6fields) (B := B_spec_l6fields) rfl rfl (fun R B => by cbv)
noncomputable def rr_spec_l6fields := rrOf (P := A) (c := c_spec_l6fields) (R := R_spec_l6fields) rfl rfl (by cbv) (fun P R => by cbv)
noncomputable def u_spec_l6fits := skC (c := c_spec_l6fits) (R := R_spec_l6fits) (B := B_spec_l6fits) rfl rfl (fun R B => by cbv)
noncomputable def rr_spec_l6fits := rrOf (P := A) (c := c_spec_l6fits) (R := R_spec_l6fits) rfl rfl (by cbv) (fun P R => by cbv)
noncomputable def u_laws_toUpS := skC (c := c_laws_toUpS) (R := R_laws_toUpS) (B := B_laws_toUpS) rfl rfl (fun R B => by cbv)
noncomputable def ub_laws_toUpS_0 := skB (c := c_laws_toUpS) (R := R_laws_toUpS) (B := B_laws_toUpS) (j := 0) rfl rfl (fun R B => by cbv)
noncomputable def rr_laws_toUpS := rrOf (P := A) (c := c_laws_toUpS) (R := R_laws_toUpS) rfl rfl (by cbv) (fun P R => by cbv)
noncomputable def u_laws_toValueS := skC (c := c_laws_toValueS) (R := R_laws_toValueS) (B := B_laws_toValueS) rfl rfl (fun R B => by cbv)
noncomputable def ub_laws_toValueS_0 := skB (c := c_laws_toValueS) (R := R_laws_toValueS) (B := B_laws_toValueS) (j := 0) rfl rfl (fun R B => by cbv)
noncomputable def rr_laws_toValueS := rrOf (P := A) (c := c_laws_toValueS) (R := R_laws_toValueS) rfl rfl (by cbv) (fun P R => by cbv)
noncomputable def u_laws_toInsS := skC (c := c_laws_toInsS) (R := R_laws_toInsS) (B := B_laws_toInsS) rfl rfl (fun R B => by cbv)
noncomputable def ub_laws_toInsS_0 := skB (c := c_laws_toInsS) (R := R_laws_toInsS) (B := B_laws_toInsS) (j := 0) rfl rfl (fun R B => by cbv)
noncomputable def rr_laws_toInsS := rrOf (P := A) (c := c_laws_toInsS) (R := R_laws_toInsS) rfl rfl (by cbv) (fun P R => by cbv)
noncomputable def u_laws_toNamedS := skC (c := c_laws_toNamedS) (R := R_laws_toNamedS) (B := B_laws_toNamedS) rfl rfl (fun R B => by cbv)
noncomputable def ub_laws_toNamedS_0 := skB (c := c_laws_toNamedS) (R := R_laws_toNamedS) (B := B_laws_toNamedS) (j := 0) rfl rfl (fun R B => by cbv)
noncomputable def rr_laws_toNamedS := rrOf (P := A) (c := c_laws_toNamedS) (R := R_laws_toNamedS) rfl rfl (by cbv) (fun P R => by cbv)
noncomputable def u_laws_eqUpS := skC (c := c_laws_eqUpS) (R := R_laws_eqUpS) (B := B_laws_eqUpS) rfl rfl (fun R B => by cbv)
noncomputable def ub_laws_eqUpS_0 := skB (c := c_laws_eqUpS) (R := R_laws_eqUpS) (B := B_laws_eqUpS) (j := 0) rfl rfl (fun R B => by cbv)
noncomputable def rr_laws_eqUpS := rrOf (P := A) (c := c_laws_eqUpS) (R := R_laws_eqUpS) rfl rfl (by cbv) (fun P R => by cbv)
noncomputable def u_laws_eqValueS := skC (c := c_laws_eqValueS) (R := R_laws_eqValueS) (B := B_laws_eqValueS) rfl rfl (fun R B => by cbv)
noncomputable def ub_laws_eqValueS_0 := skB (c := c_laws_eqValueS) (R := R_laws_eqValueS) (B := B_laws_eqValueS) (j := 0) rfl rfl (fun R B => by cbv)
noncomputable def rr_laws_eqValueS := rrOf (P := A) (c := c_laws_eqValueS) (R := R_laws_eqValueS) rfl rfl (by cbv) (fun P R => by cbv)
noncomputable def u_laws_eqInsS := skC (c := c_laws_eqInsS) (R := R_laws_eqInsS) (B := B_laws_eqInsS) rfl rfl (fun R B => by cbv)
noncomputable def ub_laws_eqInsS_0 := skB (c := c_laws_eqInsS) (R := R_laws_eqInsS) (B := B_laws_eqInsS) (j := 0) rfl rfl (fun R B => by cbv)
noncomputable def rr_laws_eqInsS := rrOf (P := A) (c := c_laws_eqInsS) (R := R_laws_eqInsS) rfl rfl (by cbv) (fun P R => by cbv)
noncomputable def u_laws_eqNamedS := skC (c := c_laws_eqNamedS) (R := R_laws_eqNamedS) (B := B_laws_eqNamedS) rfl rfl (fun R B => by cbv)
noncomputable def ub_laws_eqNamedS_0 := skB (c := c_laws_eqNamedS) (R := R_laws_eqNamedS) (B := B_laws_eqNamedS) (j := 0) rfl rfl (fun R B => by cbv)
noncomputable def rr_laws_eqNamedS := rrOf (P := A) (c := c_laws_eqNamedS) (R := R_laws_eqNamedS) rfl rfl (by cbv) (fun P R => by cbv)
noncomputable def u_laws_szValue := skC (c := c_laws_szValue) (R := R_laws_szValue) (B := B_laws_szValue) rfl rfl (fun R B => by cbv)
noncomputable def rr_laws_szValue := rrOf (P := A) (c := c_laws_szValue) (R := R_laws_szValue) rfl rfl (by cbv) (fun P R => by cbv)
noncomputable def u_laws_szNamed := skC (c := c_laws_szNamed) (R := R_laws_szNamed) (B := B_laws_szNamed) rfl rfl (fun R B => by cbv)
noncomputable def rr_laws_szNamed := rrOf (P := A) (c := c_laws_szNamed) (R := R_laws_szNamed) rfl rfl (by cbv) (fun P R => by cbv)
noncomputable def u_spec_l1zero := skC (c := c_spec_l1zero) (R := R_spec_l1zero) (B := B_spec_l1zero) rfl rfl (fun R B => by cbv)
noncomputable def rr_spec_l1zero := rrOf (P := A) (c := c_spec_l1zero) (R := R_spec_l1zero) rfl rfl (by cbv) (fun P R => by cbv)
noncomputable def u_laws_toUp := skC (c := c_laws_toUp) (R := R_laws_toUp) (B := B_laws_toUp) rfl rfl (fun R B => by cbv)
noncomputable def rr_laws_toUp := rrOf (P := A) (c := c_laws_toUp) (R := R_laws_toUp) rfl rfl (by cbv) (fun P R => by cbv)
noncomputable def u_laws_toValue := skC (c := c_laws_toValue) (R := R_laws_toValue) (B := B_laws_toValue) rfl rfl (fun R B => by cbv)
noncomputable def rr_laws_toValue := rrOf (P := A) (c := c_laws_toValue) (R := R_laws_toValue) rfl rfl (by cbv) (fun P R => by cbv)
noncomputable def u_laws_toIns := skC (c := c_laws_toIns) (R := R_laws_toIns) (B := B_laws_toIns) rfl rfl (fun R B => by cbv)
noncomputable def rr_laws_toIns := rrOf (P := A) (c := c_laws_toIns) (R := R_laws_toIns) rfl rfl (by cbv) (fun P R => by cbv)
noncomputable def u_laws_toNamed := skC (c := c_laws_toNamed) (R := R_laws_toNamed) (B := B_laws_toNamed) rfl rfl (fun R B => by cbv)
noncomputable def rr_laws_toNamed := rrOf (P := A) (c := c_laws_toNamed) (R := R_laws_toNamed) rfl rfl (by cbv) (fun P R => by cbv)
noncomputable def u_laws_eqUp := skC (c := c_laws_eqUp) (R := R_laws_eqUp) (B := B_laws_eqUp) rfl rfl (fun R B => by cbv)
noncomputable def rr_laws_eqUp := rrOf (P := A) (c := c_laws_eqUp) (R := R_laws_eqUp) rfl rfl (by cbv) (fun P R => by cbv)
noncomputable def u_laws_eqValue := skC (c := c_laws_eqValue) (R := R_laws_eqValue) (B := B_laws_eqValue) rfl rfl (fun R B => by cbv)
noncomputable def rr_laws_eqValue := rrOf (P := A) (c := c_laws_eqValue) (R := R_laws_eqValue) rfl rfl (by cbv) (fun P R => by cbv)
noncomputable def u_laws_eqIns := skC (c := c_laws_eqIns) (R := R_laws_eqIns) (B := B_laws_eqIns) rfl rfl (fun R B => by cbv)
noncomputable def rr_laws_eqIns := rrOf (P := A) (c := c_laws_eqIns) (R := R_laws_eqIns) rfl rfl (by cbv) (fun P R => by cbv)
noncomputable def u_laws_eqNamed := skC (c := c_laws_eqNamed) (R := R_laws_eqNamed) (B := B_laws_eqNamed) rfl rfl (fun R B => by cbv)
noncomputable def rr_laws_eqNamed := rrOf (P := A) (c := c_laws_eqNamed) (R := R_laws_eqNamed) rfl rfl (by cbv) (fun P R => by cbv)
noncomputable def u_laws_sameFloat := skC (c := c_laws_sameFloat) (R := R_laws_sameFloat) (B := B_laws_sameFloat) rfl rfl (fun R B => by cbv)
noncomputable def rr_laws_sameFloat := rrOf (P := A) (c := c_laws_sameFloat) (R := R_laws_sameFloat) rfl rfl (by cbv) (fun P R => by cbv)
theorem fits : Fits Tryd.prog A := by
  intro f F h
  simp only [A] at h
  split at h
  · cases h; exact ⟨Tryd.f3, _, _, by kernel_rfl, rfl, trT hQ (w_laws_FnExactCheckShape.2 ▸ v_laws_FnExactCheckShape.2), by kernel_rfl⟩
  · cases h; exact ⟨Tryd.f4, _, _, by kernel_rfl, rfl, trT hQ (w_laws_szCode.2 ▸ v_laws_szCode.2), by kernel_rfl⟩
  · cases h; exact ⟨Tryd.f5, _, _, by kernel_rfl, rfl, trT hQ (w_spec_CheckShape.2 ▸ v_spec_CheckShape.2), by kernel_rfl⟩
  · cases h; exact ⟨Tryd.f6, _, _, by kernel_rfl, rfl, trT hQ (w_laws_toCode.2 ▸ v_laws_toCode.2), by kernel_rfl⟩
  · cases h; exact ⟨Tryd.f7, _, _, by kernel_rfl, rfl, trT hQ (w_impl_CheckShape.2 ▸ v_impl_CheckShape.2), by kernel_rfl⟩
  · cases h; exact ⟨Tryd.f8, _, _, by kernel_rfl, rfl, trT hQ (w_laws_eqCodeFault.2 ▸ v_laws_eqCodeFault.2), by kernel_rfl⟩
  · cases h; exact ⟨Tryd.f9, _, _, by kernel_rfl, rfl, trT hQ (w_laws_eqCode.2 ▸ v_laws_eqCode.2), by kernel_rfl⟩
  · cases h; exact ⟨Tryd.f10, _, _, by kernel_rfl, rfl, trT hQ (w_laws_szProtoS.2 ▸ v_laws_szProtoS.2), by kernel_rfl⟩
  · cases h; exact ⟨Tryd.f11, _, _, by kernel_rfl, rfl, trT hQ (w_spec_l6parts.2 ▸ v_spec_l6parts.2), by kernel_rfl⟩
  · cases h; exact ⟨Tryd.f12, _, _, by kernel_rfl, rfl, trT hQ (w_spec_l6upsOk.2 ▸ v_spec_l6upsOk.2), by kernel_rfl⟩
  · cases h; exact ⟨Tryd.f13, _, _, by kernel_rfl, rfl, trT hQ (w_spec_l6fault.2 ▸ v_spec_l6fault.2), by kernel_rfl⟩
  · cases h; exact ⟨Tryd.f14, _, _, by kernel_rfl, rfl, trT hQ (w_laws_toProtoS.2 ▸ v_laws_toProtoS.2), by kernel_rfl⟩
  · cases h; exact ⟨Tryd.f15, _, _, by kernel_rfl, rfl, trT hQ (w_impl_within.2 ▸ v_impl_within.2), by kernel_rfl⟩
  · cases h; exact ⟨Tryd.f16, _, _, by kernel_rfl, rfl, trT hQ (w_impl_valueOk.2 ▸ v_impl_valueOk.2), by kernel_rfl⟩
  · cases h; exact ⟨Tryd.f17, _, _, by kernel_rfl, rfl, trT hQ (w_math_Signbit.2 ▸ v_math_Signbit.2), by kernel_rfl⟩
  · cases h; exact ⟨Tryd.f18, _, _, by kernel_rfl, rfl, trT hQ (w_impl_insOk.2 ▸ v_impl_insOk.2), by kernel_rfl⟩
  · cases h; exact ⟨Tryd.f19, _, _, by kernel_rfl, rfl, trT hQ (w_laws_eqProtoS.2 ▸ v_laws_eqProtoS.2), by kernel_rfl⟩
  · cases h; exact ⟨Tryd.f20, _, _, by kernel_rfl, rfl, trT hQ (w_laws_szProto.2 ▸ v_laws_szProto.2), by kernel_rfl⟩
  · cases h; exact ⟨Tryd.f21, _, _, by kernel_rfl, rfl, trT hQ (w_spec_l6headOk.2 ▸ v_spec_l6headOk.2), by kernel_rfl⟩
  · cases h; exact ⟨Tryd.f22, _, _, by kernel_rfl, rfl, trT hQ (w_spec_l6constOk.2 ▸ v_spec_l6constOk.2), by kernel_rfl⟩
  · cases h; exact ⟨Tryd.f23, _, _, by kernel_rfl, rfl, trT hQ (w_spec_l6namedOk.2 ▸ v_spec_l6namedOk.2), by kernel_rfl⟩
  · cases h; exact ⟨Tryd.f24, _, _, by kernel_rfl, rfl, trT hQ (w_spec_l6insOk.2 ▸ v_spec_l6insOk.2), by kernel_rfl⟩
  · cases h; exact ⟨Tryd.f25, _, _, by kernel_rfl, rfl, trT hQ (w_spec_l6in.2 ▸ v_spec_l6in.2), by kernel_rfl⟩
  · cases h; exact ⟨Tryd.f26, _, _, by kernel_rfl, rfl, trT hQ (w_laws_toProto.2 ▸ v_laws_toProto.2), by kernel_rfl⟩
  · cases h; exact ⟨Tryd.f27, _, _, by kernel_rfl, rfl, trT hQ (w_impl_bare.2 ▸ v_impl_bare.2), by kernel_rfl⟩
  · cases h; exact ⟨Tryd.f29, _, _, by kernel_rfl, rfl, trT hQ (w_impl_Ins_fields.2 ▸ v_impl_Ins_fields.2), by kernel_rfl⟩
  · cases h; exact ⟨Tryd.f30, _, _, by kernel_rfl, rfl, trT hQ (w_impl_fieldOk.2 ▸ v_impl_fieldOk.2), by kernel_rfl⟩
  · cases h; exact ⟨Tryd.f31, _, _, by kernel_rfl, rfl, trT hQ (w_laws_eqProto.2 ▸ v_laws_eqProto.2), by kernel_rfl⟩
  · cases h; exact ⟨Tryd.f32, _, _, by kernel_rfl, rfl, trT hQ (w_laws_szUpS.2 ▸ v_laws_szUpS.2), by kernel_rfl⟩
  · cases h; exact ⟨Tryd.f33, _, _, by kernel_rfl, rfl, trT hQ (w_laws_szValueS.2 ▸ v_laws_szValueS.2), by kernel_rfl⟩
  · cases h; exact ⟨Tryd.f34, _, _, by kernel_rfl, rfl, trT hQ (w_laws_szInsS.2 ▸ v_laws_szInsS.2), by kernel_rfl⟩
  · cases h; exact ⟨Tryd.f35, _, _, by kernel_rfl, rfl, trT hQ (w_laws_szNamedS.2 ▸ v_laws_szNamedS.2), by kernel_rfl⟩
  · cases h; exact ⟨Tryd.f36, _, _, by kernel_rfl, rfl, trT hQ (w_spec_ValueOk.2 ▸ v_spec_ValueOk.2), by kernel_rfl⟩
  · cases h; exact ⟨Tryd.f37, _, _, by kernel_rfl, rfl, trT hQ (w_spec_l6roles.2 ▸ v_spec_l6roles.2), by kernel_rfl⟩
  · cases h; exact ⟨Tryd.f38, _, _, by kernel_rfl, rfl, trT hQ (w_spec_l6fields.2 ▸ v_spec_l6fields.2), by kernel_rfl⟩
  · cases h; exact ⟨Tryd.f39, _, _, by kernel_rfl, rfl, trT hQ (w_spec_l6fits.2 ▸ v_spec_l6fits.2), by kernel_rfl⟩
  · cases h; exact ⟨Tryd.f40, _, _, by kernel_rfl, rfl, trT hQ (w_laws_toUpS.2 ▸ v_laws_toUpS.2), by kernel_rfl⟩
  · cases h; exact ⟨Tryd.f41, _, _, by kernel_rfl, rfl, trT hQ (w_laws_toValueS.2 ▸ v_laws_toValueS.2), by kernel_rfl⟩
  · cases h; exact ⟨Tryd.f42, _, _, by kernel_rfl, rfl, trT hQ (w_laws_toInsS.2 ▸ v_laws_toInsS.2), by kernel_rfl⟩
  · cases h; exact ⟨Tryd.f43, _, _, by kernel_rfl, rfl, trT hQ (w_laws_toNamedS.2 ▸ v_laws_toNamedS.2), by kernel_rfl⟩
  · cases h; exact ⟨Tryd.f44, _, _, by kernel_rfl, rfl, trT hQ (w_laws_eqUpS.2 ▸ v_laws_eqUpS.2), by kernel_rfl⟩
  · cases h; exact ⟨Tryd.f45, _, _, by kernel_rfl, rfl, trT hQ (w_laws_eqValueS.2 ▸ v_laws_eqValueS.2), by kernel_rfl⟩
  · cases h; exact ⟨Tryd.f46, _, _, by kernel_rfl, rfl, trT hQ (w_laws_eqInsS.2 ▸ v_laws_eqInsS.2), by kernel_rfl⟩
  · cases h; exact ⟨Tryd.f47, _, _, by kernel_rfl, rfl, trT hQ (w_laws_eqNamedS.2 ▸ v_laws_eqNamedS.2), by kernel_rfl⟩
  · cases h; exact ⟨Tryd.f48, _, _, by kernel_rfl, rfl, trT hQ (w_laws_szValue.2 ▸ v_laws_szValue.2), by kernel_rfl⟩
  · cases h; exact ⟨Tryd.f49, _, _, by kernel_rfl, rfl, trT hQ (w_laws_szNamed.2 ▸ v_laws_szNamed.2), by kernel_rfl⟩
  · cases h; exact ⟨Tryd.f50, _, _, by kernel_rfl, rfl, trT hQ (w_spec_l1zero.2 ▸ v_spec_l1zero.2), by kernel_rfl⟩
  · cases h; exact ⟨Tryd.f51, _, _, by kernel_rfl, rfl, trT hQ (w_laws_toUp.2 ▸ v_laws_toUp.2), by kernel_rfl⟩
  · cases h; exact ⟨Tryd.f52, _, _, by kernel_rfl, rfl, trT hQ (w_laws_toValue.2 ▸ v_laws_toValue.2), by kernel_rfl⟩
  · cases h; exact ⟨Tryd.f53, _, _, by kernel_rfl, rfl, trT hQ (w_laws_toIns.2 ▸ v_laws_toIns.2), by kernel_rfl⟩
  · cases h; exact ⟨Tryd.f54, _, _, by kernel_rfl, rfl, trT hQ (w_laws_toNamed.2 ▸ v_laws_toNamed.2), by kernel_rfl⟩
  · cases h; exact ⟨Tryd.f55, _, _, by kernel_rfl, rfl, trT hQ (w_laws_eqUp.2 ▸ v_laws_eqUp.2), by kernel_rfl⟩
  · cases h; exact ⟨Tryd.f56, _, _, by kernel_rfl, rfl, trT hQ (w_laws_eqValue.2 ▸ v_laws_eqValue.2), by kernel_rfl⟩
  · cases h; exact ⟨Tryd.f57, _, _, by kernel_rfl, rfl, trT hQ (w_laws_eqIns.2 ▸ v_laws_eqIns.2), by kernel_rfl⟩
  · cases h; exact ⟨Tryd.f58, _, _, by kernel_rfl, rfl, trT hQ (w_laws_eqNamed.2 ▸ v_laws_eqNamed.2), by kernel_rfl⟩
  · cases h; exact ⟨Tryd.f59, _, _, by kernel_rfl, rfl, trT hQ (w_laws_sameFloat.2 ▸ v_laws_sameFloat.2), by kernel_rfl⟩
  · cases h
theorem mixed : Tryd.prog.follows .mixedOrders = true := by kernel_rfl
end Go.Proofs.Tryd.Av
end
