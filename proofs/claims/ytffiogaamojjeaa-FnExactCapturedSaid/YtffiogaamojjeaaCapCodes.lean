/- The codes that FnExactCaptured reaches, no condition. -/
import Derived.KernelRfl
import Derived.Test.YtffiogaamojjeaaCapAv3
import Derived.Test.YtffiogaamojjeaaProg
set_option linter.all false
section
noncomputable section
set_option maxRecDepth 100000
set_option maxHeartbeats 4000000
namespace Go.Proofs.Try.Av
open Go Go.Av
abbrev n_laws_FnExactCaptured : Nat := 5
abbrev n_laws_szUnit : Nat := 6
abbrev n_spec_CheckUnit : Nat := 7
abbrev n_laws_toUnit : Nat := 8
abbrev n_zCU : Nat := 9
abbrev n_laws_eqUnit : Nat := 11
abbrev n_spec_Captured : Nat := 12
abbrev n_impl_Captured : Nat := 13
abbrev n_laws_eqBoolS : Nat := 14
abbrev n_laws_markUnit : Nat := 15
abbrev n_laws_markBoolS : Nat := 16
abbrev n_laws_heldBoolS : Nat := 17
abbrev n_laws_szFnS : Nat := 18
abbrev n_z3f : Nat := 19
abbrev n_z3s : Nat := 20
abbrev n_z3t : Nat := 21
abbrev n_laws_toFnS : Nat := 22
abbrev n_impl_fnOk : Nat := 23
abbrev n_zNo : Nat := 24
abbrev n_impl_scopes : Nat := 25
abbrev n_zCU_S1 : Nat := 26
abbrev n_impl_declares : Nat := 27
abbrev n_zCU_S2 : Nat := 28
abbrev n_zCU_S3 : Nat := 29
abbrev n_laws_eqFnS : Nat := 30
abbrev n_spec_l8captured : Nat := 31
abbrev n_impl_captured : Nat := 32
abbrev n_laws_markFnS : Nat := 33
abbrev n_laws_szFn : Nat := 34
abbrev n_spec_l3fault : Nat := 35
abbrev n_spec_l3head : Nat := 36
abbrev n_spec_l3shape : Nat := 37
abbrev n_spec_l3grow : Nat := 38
abbrev n_spec_l3refs : Nat := 39
abbrev n_spec_l3inloop : Nat := 40
abbrev n_spec_l3ups : Nat := 41
abbrev n_laws_toFn : Nat := 42
abbrev n_impl_statement : Nat := 43
abbrev n_impl_expression : Nat := 44
abbrev n_zNo_S1 : Nat := 45
abbrev n_zNo_S2 : Nat := 46
abbrev n_zNo_S3 : Nat := 47
abbrev n_math_IsNaN : Nat := 48
abbrev n_zSw : Nat := 49
abbrev n_laws_eqFn : Nat := 50
abbrev n_laws_markText : Nat := 51
abbrev n_laws_markStringS : Nat := 52
abbrev n_laws_markUpS : Nat := 53
abbrev n_laws_markNodeS : Nat := 54
abbrev n_laws_szStringS : Nat := 55
abbrev n_laws_szUpS : Nat := 56
abbrev n_laws_szNodeS : Nat := 57
abbrev n_spec_l3name : Nat := 58
abbrev n_spec_l3stat : Nat := 59
abbrev n_zSt : Nat := 60
abbrev n_zEx : Nat := 61
abbrev n_spec_l3visible : Nat := 62
abbrev n_laws_toStringS : Nat := 63
abbrev n_laws_toUpS : Nat := 64
abbrev n_laws_toNodeS : Nat := 65
abbrev n_zSw_S1 : Nat := 66
abbrev n_laws_eqStringS : Nat := 67
abbrev n_laws_eqUpS : Nat := 68
abbrev n_laws_eqNodeS : Nat := 69
abbrev n_laws_markIntS : Nat := 70
abbrev n_laws_szNode : Nat := 71
abbrev n_spec_l3kid : Nat := 72
abbrev n_spec_l3bare : Nat := 73
abbrev n_spec_l3exprs : Nat := 74
abbrev n_spec_l3target : Nat := 75
abbrev n_spec_l3many : Nat := 76
abbrev n_spec_l3place : Nat := 77
abbrev n_spec_l3declares : Nat := 78
abbrev n_laws_toUp : Nat := 79
abbrev n_laws_toNode : Nat := 80
abbrev n_laws_eqUp : Nat := 81
abbrev n_laws_eqNode : Nat := 82
abbrev n_laws_szIntS : Nat := 83
abbrev n_spec_l3expr : Nat := 84
abbrev n_laws_toIntS : Nat := 85
abbrev n_laws_sameFloat : Nat := 86
abbrev n_laws_eqIntS : Nat := 87
def lU : { l // (List.range 136).map Try.prog.underlying = l } := ⟨_, by cbv⟩
def lI : { l // (List.range 136).map (tiOf Try.prog) = l } := ⟨_, by cbv⟩
def lB : { l // (List.range 104).map (trBody Try.prog) = l } := ⟨_, by cbv⟩
def lS : { l // (List.range 104).map (isBits Try.prog) = l } := ⟨[false, false, false, false, false, false, false, false, false, false, false, false, false, false, false, false, false, false, false, false, false, false, false, false, false, false, false, false, false, false, false, false, false, false, false, false, false, false, false, false, false, false, false, false, false, false, false, false, false, false, false, false, false, false, false, false, false, false, false, false, false, false, false, false, false, false, false, false, false, false, false, false, false, false, false, false, false, false, false, false, false, false, false, false, false, false, false, false, false, false, false, false, false, false, false, false, false, false, false, false, false, false, false, false], by kernel_rfl⟩
def Q : Tab := Tab.mk' Try.prog 136 104 lU.1 lI.1 [(28, [0, 0, 0])] lB.1 lS.1
theorem hQ : Q = Tab.of Try.prog := tab_eq lU.2 lI.2 (by kernel_rfl) lB.2 lS.2
def v_laws_FnExactConstants : { F : AFn // trFnG Q ⟨1, 0, 0, 0, 0⟩ Try.f3 = some F } := ⟨_, rfl⟩
def w_laws_FnExactConstants : { F : AFn // v_laws_FnExactConstants.1 = F } := ⟨_, by cbv⟩
def v_laws_FnExactCheckUnit : { F : AFn // trFnG Q ⟨138414207, 0, 138414080, 0, 0⟩ Try.f4 = some F } := ⟨_, rfl⟩
def w_laws_FnExactCheckUnit : { F : AFn // v_laws_FnExactCheckUnit.1 = F } := ⟨_, by cbv⟩
def v_laws_FnExactCaptured : { F : AFn // trFnG Q ⟨10662380274594883969015, 563224831328256, 10662380274594883960832, 0, 75497472⟩ Try.f5 = some F } := ⟨_, rfl⟩
def w_laws_FnExactCaptured : { F : AFn // v_laws_FnExactCaptured.1 = F } := ⟨_, by cbv⟩
def v_laws_szUnit : { F : AFn // trFnG Q ⟨1047, 0, 1024, 0, 0⟩ Try.f6 = some F } := ⟨_, rfl⟩
def w_laws_szUnit : { F : AFn // v_laws_szUnit.1 = F } := ⟨_, by cbv⟩
def v_spec_CheckUnit : { F : AFn // trFnG Q ⟨33311, 0, 33280, 0, 0⟩ Try.f7 = some F } := ⟨_, rfl⟩
def w_spec_CheckUnit : { F : AFn // v_spec_CheckUnit.1 = F } := ⟨_, by cbv⟩
def v_laws_toUnit : { F : AFn // trFnG Q ⟨15, 0, 0, 0, 64⟩ Try.f8 = some F } := ⟨_, rfl⟩
def w_laws_toUnit : { F : AFn // v_laws_toUnit.1 = F } := ⟨_, by cbv⟩
def v_zCU : { F : AFn // trFnG Q ⟨763448863999653707526595379798859659992334785032367129723498136072405950135777429224348542207801027979083456434466848034536324988054167052271, 661055968867205642304248275244253540023997678735223629665934718509527794295822725086779692247954055646392104889930368417792, 762890651859394662924521504903059111182022057362723587603122193823441263944856435150894786221518449051220812777741012482434911654009112625152, 0, 0⟩ Try.f9 = some F } := ⟨_, rfl⟩
def w_zCU : { F : AFn // v_zCU.1 = F } := ⟨_, by cbv⟩
def v_laws_eqFault : { F : AFn // trFnG Q ⟨541215, 0, 541184, 0, 0⟩ Try.f10 = some F } := ⟨_, rfl⟩
def w_laws_eqFault : { F : AFn // v_laws_eqFault.1 = F } := ⟨_, by cbv⟩
def v_laws_eqUnit : { F : AFn // trFnG Q ⟨1055, 0, 1024, 0, 0⟩ Try.f11 = some F } := ⟨_, rfl⟩
def w_laws_eqUnit : { F : AFn // v_laws_eqUnit.1 = F } := ⟨_, by cbv⟩
def v_spec_Captured : { F : AFn // trFnG Q ⟨2097207, 0, 2097152, 0, 0⟩ Try.f12 = some F } := ⟨_, rfl⟩
def w_spec_Captured : { F : AFn // v_spec_Captured.1 = F } := ⟨_, by cbv⟩
def v_impl_Captured : { F : AFn // trFnG Q ⟨524311, 0, 524288, 0, 4194304⟩ Try.f13 = some F } := ⟨_, rfl⟩
def w_impl_Captured : { F : AFn // v_impl_Captured.1 = F } := ⟨_, by cbv⟩
def v_laws_eqBoolS : { F : AFn // trFnG Q ⟨33571891, 0, 33571840, 0, 0⟩ Try.f14 = some F } := ⟨_, rfl⟩
def w_laws_eqBoolS : { F : AFn // v_laws_eqBoolS.1 = F } := ⟨_, by cbv⟩
def v_laws_markUnit : { F : AFn // trFnG Q ⟨23, 256, 0, 0, 0⟩ Try.f15 = some F } := ⟨_, rfl⟩
def w_laws_markUnit : { F : AFn // v_laws_markUnit.1 = F } := ⟨_, by cbv⟩
def v_laws_markBoolS : { F : AFn // trFnG Q ⟨563, 0, 512, 0, 0⟩ Try.f16 = some F } := ⟨_, rfl⟩
def w_laws_markBoolS : { F : AFn // v_laws_markBoolS.1 = F } := ⟨_, by cbv⟩
def v_laws_heldBoolS : { F : AFn // trFnG Q ⟨524851, 0, 524800, 0, 0⟩ Try.f17 = some F } := ⟨_, rfl⟩
def w_laws_heldBoolS : { F : AFn // v_laws_heldBoolS.1 = F } := ⟨_, by cbv⟩
def v_laws_szFnS : { F : AFn // trFnG Q ⟨33589299, 0, 33589248, 0, 0⟩ Try.f18 = some F } := ⟨_, rfl⟩
def w_laws_szFnS : { F : AFn // v_laws_szFnS.1 = F } := ⟨_, by cbv⟩
def v_z3f : { F : AFn // trFnG Q ⟨18921779333056358792687, 0, 18907930762552927068160, 0, 0⟩ Try.f19 = some F } := ⟨_, rfl⟩
def w_z3f : { F : AFn // v_z3f.1 = F } := ⟨_, by cbv⟩
def v_z3s : { F : AFn // trFnG Q ⟨160622736634784152749244213247, 0, 159694274521770393238400696320, 0, 0⟩ Try.f20 = some F } := ⟨_, rfl⟩
def w_z3s : { F : AFn // v_z3s.1 = F } := ⟨_, by cbv⟩
def v_z3t : { F : AFn // trFnG Q ⟨6326147579005185004793308472436875659631800190357232156671, 72057594037927936, 6326147579005185004785328561202414719617483575339828379648, 0, 0⟩ Try.f21 = some F } := ⟨_, rfl⟩
def w_z3t : { F : AFn // v_z3t.1 = F } := ⟨_, by cbv⟩
def v_laws_toFnS : { F : AFn // trFnG Q ⟨2077, 0, 2048, 0, 1048576⟩ Try.f22 = some F } := ⟨_, rfl⟩
def w_laws_toFnS : { F : AFn // v_laws_toFnS.1 = F } := ⟨_, by cbv⟩
def v_impl_fnOk : { F : AFn // trFnG Q ⟨4731157509342272422071, 0, 4727122284076148457472, 0, 0⟩ Try.f23 = some F } := ⟨_, rfl⟩
def w_impl_fnOk : { F : AFn // v_impl_fnOk.1 = F } := ⟨_, by cbv⟩
def v_zNo : { F : AFn // trFnG Q ⟨2644228918617787536603458032982922778508923903892170722260102968834638167921270604404583959551438048912057471438965383888823, 0, 2644228918617787536603458032982922651194053966181026222414893727712652403526039177701836680223642395192626048904656834265088, 0, 0⟩ Try.f24 = some F } := ⟨_, rfl⟩
def w_zNo : { F : AFn // v_zNo.1 = F } := ⟨_, by cbv⟩
def v_impl_scopes : { F : AFn // trFnG Q ⟨229431, 2147483648, 131072, 0, 0⟩ Try.f25 = some F } := ⟨_, rfl⟩
def w_impl_scopes : { F : AFn // v_impl_scopes.1 = F } := ⟨_, by cbv⟩
def v_zCU_S1 : { F : AFn // trFnG Q ⟨131871, 0, 131072, 0, 0⟩ Try.f26 = some F } := ⟨_, rfl⟩
def w_zCU_S1 : { F : AFn // v_zCU_S1.1 = F } := ⟨_, by cbv⟩
def v_impl_declares : { F : AFn // trFnG Q ⟨5, 0, 0, 0, 0⟩ Try.f27 = some F } := ⟨_, rfl⟩
def w_impl_declares : { F : AFn // v_impl_declares.1 = F } := ⟨_, by cbv⟩
def v_zCU_S2 : { F : AFn // trFnG Q ⟨287, 0, 0, 0, 0⟩ Try.f28 = some F } := ⟨_, rfl⟩
def w_zCU_S2 : { F : AFn // v_zCU_S2.1 = F } := ⟨_, by cbv⟩
def v_zCU_S3 : { F : AFn // trFnG Q ⟨19654039308863, 0, 18691966631936, 0, 0⟩ Try.f29 = some F } := ⟨_, rfl⟩
def w_zCU_S3 : { F : AFn // v_zCU_S3.1 = F } := ⟨_, by cbv⟩
def v_laws_eqFnS : { F : AFn // trFnG Q ⟨67126323, 0, 67126272, 0, 0⟩ Try.f30 = some F } := ⟨_, rfl⟩
def w_laws_eqFnS : { F : AFn // v_laws_eqFnS.1 = F } := ⟨_, by cbv⟩
def v_spec_l8captured : { F : AFn // trFnG Q ⟨157232436085431, 0, 149535795970048, 0, 0⟩ Try.f31 = some F } := ⟨_, rfl⟩
def w_spec_l8captured : { F : AFn // v_spec_l8captured.1 = F } := ⟨_, by cbv⟩
def v_impl_captured : { F : AFn // trFnG Q ⟨39308109022583, 0, 37383948992512, 0, 0⟩ Try.f32 = some F } := ⟨_, rfl⟩
def w_impl_captured : { F : AFn // v_impl_captured.1 = F } := ⟨_, by cbv⟩
def v_laws_markFnS : { F : AFn // trFnG Q ⟨563, 9295992580846125056, 512, 0, 0⟩ Try.f33 = some F } := ⟨_, rfl⟩
def w_laws_markFnS : { F : AFn // v_laws_markFnS.1 = F } := ⟨_, by cbv⟩
def v_laws_szFn : { F : AFn // trFnG Q ⟨545392663, 0, 545392640, 0, 0⟩ Try.f34 = some F } := ⟨_, rfl⟩
def w_laws_szFn : { F : AFn // v_laws_szFn.1 = F } := ⟨_, by cbv⟩
def v_spec_l3fault : { F : AFn // trFnG Q ⟨71, 0, 0, 0, 0⟩ Try.f35 = some F } := ⟨_, rfl⟩
def w_spec_l3fault : { F : AFn // v_spec_l3fault.1 = F } := ⟨_, by cbv⟩
def v_spec_l3head : { F : AFn // trFnG Q ⟨1280941908480590287470775, 0, 1247885343100502770974720, 0, 0⟩ Try.f36 = some F } := ⟨_, rfl⟩
def w_spec_l3head : { F : AFn // v_spec_l3head.1 = F } := ⟨_, by cbv⟩
def v_spec_l3shape : { F : AFn // trFnG Q ⟨9128804531, 0, 9127886848, 0, 0⟩ Try.f37 = some F } := ⟨_, rfl⟩
def w_spec_l3shape : { F : AFn // v_spec_l3shape.1 = F } := ⟨_, by cbv⟩
def v_spec_l3grow : { F : AFn // trFnG Q ⟨9709333062874350397162429, 0, 9709333062873868554731520, 0, 0⟩ Try.f38 = some F } := ⟨_, rfl⟩
def w_spec_l3grow : { F : AFn // v_spec_l3grow.1 = F } := ⟨_, by cbv⟩
def v_spec_l3refs : { F : AFn // trFnG Q ⟨4846329683909433727397119, 0, 4846329179506275461890048, 0, 0⟩ Try.f39 = some F } := ⟨_, rfl⟩
def w_spec_l3refs : { F : AFn // v_spec_l3refs.1 = F } := ⟨_, by cbv⟩
def v_spec_l3inloop : { F : AFn // trFnG Q ⟨18014398509746143, 0, 18014398509744128, 0, 0⟩ Try.f40 = some F } := ⟨_, rfl⟩
def w_spec_l3inloop : { F : AFn // v_spec_l3inloop.1 = F } := ⟨_, by cbv⟩
def v_spec_l3ups : { F : AFn // trFnG Q ⟨295156912378645058751, 0, 295156912378643218432, 0, 0⟩ Try.f41 = some F } := ⟨_, rfl⟩
def w_spec_l3ups : { F : AFn // v_spec_l3ups.1 = F } := ⟨_, by cbv⟩
def v_laws_toFn : { F : AFn // trFnG Q ⟨15, 0, 0, 0, 71565312⟩ Try.f42 = some F } := ⟨_, rfl⟩
def w_laws_toFn : { F : AFn // v_laws_toFn.1 = F } := ⟨_, by cbv⟩
def v_impl_statement : { F : AFn // trFnG Q ⟨5, 0, 0, 0, 0⟩ Try.f43 = some F } := ⟨_, rfl⟩
def w_impl_statement : { F : AFn // v_impl_statement.1 = F } := ⟨_, by cbv⟩
def v_impl_expression : { F : AFn // trFnG Q ⟨5, 0, 0, 0, 0⟩ Try.f44 = some F } := ⟨_, rfl⟩
def w_impl_expression : { F : AFn // v_impl_expression.1 = F } := ⟨_, by cbv⟩
def v_zNo_S1 : { F : AFn // trFnG Q ⟨23, 0, 0, 0, 0⟩ Try.f45 = some F } := ⟨_, rfl⟩
def w_zNo_S1 : { F : AFn // v_zNo_S1.1 = F } := ⟨_, by cbv⟩
def v_zNo_S2 : { F : AFn // trFnG Q ⟨526543, 0, 526336, 0, 0⟩ Try.f46 = some F } := ⟨_, rfl⟩
def w_zNo_S2 : { F : AFn // v_zNo_S2.1 = F } := ⟨_, by cbv⟩
def v_zNo_S3 : { F : AFn // trFnG Q ⟨39, 0, 0, 0, 0⟩ Try.f47 = some F } := ⟨_, rfl⟩
def w_zNo_S3 : { F : AFn // v_zNo_S3.1 = F } := ⟨_, by cbv⟩
def v_math_IsNaN : { F : AFn // trFnG Q ⟨5, 0, 0, 0, 0⟩ Try.f48 = some F } := ⟨_, rfl⟩
def w_math_IsNaN : { F : AFn // v_math_IsNaN.1 = F } := ⟨_, by cbv⟩
def v_zSw : { F : AFn // trFnG Q ⟨6896417348656695257323897252318338845467374518323751887, 4025194649348742927117539849188575699855516467346882110160896, 6896417188793793773750851458611404818935577479458324480, 0, 0⟩ Try.f49 = some F } := ⟨_, rfl⟩
def w_zSw : { F : AFn // v_zSw.1 = F } := ⟨_, by cbv⟩
def v_laws_eqFn : { F : AFn // trFnG Q ⟨4467857048095, 0, 4467857048064, 0, 0⟩ Try.f50 = some F } := ⟨_, rfl⟩
def w_laws_eqFn : { F : AFn // v_laws_eqFn.1 = F } := ⟨_, by cbv⟩
def v_laws_markText : { F : AFn // trFnG Q ⟨173, 0, 160, 0, 0⟩ Try.f51 = some F } := ⟨_, rfl⟩
def w_laws_markText : { F : AFn // v_laws_markText.1 = F } := ⟨_, by cbv⟩
def v_laws_markStringS : { F : AFn // trFnG Q ⟨563, 0, 512, 0, 0⟩ Try.f52 = some F } := ⟨_, rfl⟩
def w_laws_markStringS : { F : AFn // v_laws_markStringS.1 = F } := ⟨_, by cbv⟩
def v_laws_markUpS : { F : AFn // trFnG Q ⟨563, 0, 512, 0, 0⟩ Try.f53 = some F } := ⟨_, rfl⟩
def w_laws_markUpS : { F : AFn // v_laws_markUpS.1 = F } := ⟨_, by cbv⟩
def v_laws_markNodeS : { F : AFn // trFnG Q ⟨563, 594907496377133039616, 512, 0, 0⟩ Try.f54 = some F } := ⟨_, rfl⟩
def w_laws_markNodeS : { F : AFn // v_laws_markNodeS.1 = F } := ⟨_, by cbv⟩
def v_laws_szStringS : { F : AFn // trFnG Q ⟨67143731, 0, 67143680, 0, 0⟩ Try.f55 = some F } := ⟨_, rfl⟩
def w_laws_szStringS : { F : AFn // v_laws_szStringS.1 = F } := ⟨_, by cbv⟩
def v_laws_szUpS : { F : AFn // trFnG Q ⟨1043, 0, 1024, 0, 0⟩ Try.f56 = some F } := ⟨_, rfl⟩
def w_laws_szUpS : { F : AFn // v_laws_szUpS.1 = F } := ⟨_, by cbv⟩
def v_laws_szNodeS : { F : AFn // trFnG Q ⟨33589299, 0, 33589248, 0, 0⟩ Try.f57 = some F } := ⟨_, rfl⟩
def w_laws_szNodeS : { F : AFn // v_laws_szNodeS.1 = F } := ⟨_, by cbv⟩
def v_spec_l3name : { F : AFn // trFnG Q ⟨19, 0, 0, 0, 0⟩ Try.f58 = some F } := ⟨_, rfl⟩
def w_spec_l3name : { F : AFn // v_spec_l3name.1 = F } := ⟨_, by cbv⟩
def v_spec_l3stat : { F : AFn // trFnG Q ⟨5, 0, 0, 0, 0⟩ Try.f59 = some F } := ⟨_, rfl⟩
def w_spec_l3stat : { F : AFn // v_spec_l3stat.1 = F } := ⟨_, by cbv⟩
def v_zSt : { F : AFn // trFnG Q ⟨226158151416507567651426489437048705194057975026867736436015280586506641395, 0, 226158151413216558536784077352738766828943271481601064248289317658097090560, 0, 0⟩ Try.f60 = some F } := ⟨_, rfl⟩
def w_zSt : { F : AFn // v_zSt.1 = F } := ⟨_, by cbv⟩
def v_zEx : { F : AFn // trFnG Q ⟨205688069665174150713555428434506320904996190677102747776451059, 0, 205688069665174150713555428434506003992344953028131656183054336, 0, 0⟩ Try.f61 = some F } := ⟨_, rfl⟩
def w_zEx : { F : AFn // v_zEx.1 = F } := ⟨_, by cbv⟩
def v_spec_l3visible : { F : AFn // trFnG Q ⟨2475880115464327862121955135, 0, 2475880115464327862121922560, 0, 0⟩ Try.f62 = some F } := ⟨_, rfl⟩
def w_spec_l3visible : { F : AFn // v_spec_l3visible.1 = F } := ⟨_, by cbv⟩
def v_laws_toStringS : { F : AFn // trFnG Q ⟨2077, 0, 2048, 0, 0⟩ Try.f63 = some F } := ⟨_, rfl⟩
def w_laws_toStringS : { F : AFn // v_laws_toStringS.1 = F } := ⟨_, by cbv⟩
def v_laws_toUpS : { F : AFn // trFnG Q ⟨2077, 0, 2048, 0, 0⟩ Try.f64 = some F } := ⟨_, rfl⟩
def w_laws_toUpS : { F : AFn // v_laws_toUpS.1 = F } := ⟨_, by cbv⟩
def v_laws_toNodeS : { F : AFn // trFnG Q ⟨2077, 0, 2048, 0, 1048576⟩ Try.f65 = some F } := ⟨_, rfl⟩
def w_laws_toNodeS : { F : AFn // v_laws_toNodeS.1 = F } := ⟨_, by cbv⟩
def v_zSw_S1 : { F : AFn // trFnG Q ⟨4295950671, 0, 4295491840, 0, 0⟩ Try.f66 = some F } := ⟨_, rfl⟩
def w_zSw_S1 : { F : AFn // v_zSw_S1.1 = F } := ⟨_, by cbv⟩
def v_laws_eqStringS : { F : AFn // trFnG Q ⟨33571891, 0, 33571840, 0, 0⟩ Try.f67 = some F } := ⟨_, rfl⟩
def w_laws_eqStringS : { F : AFn // v_laws_eqStringS.1 = F } := ⟨_, by cbv⟩
def v_laws_eqUpS : { F : AFn // trFnG Q ⟨67126323, 0, 67126272, 0, 0⟩ Try.f68 = some F } := ⟨_, rfl⟩
def w_laws_eqUpS : { F : AFn // v_laws_eqUpS.1 = F } := ⟨_, by cbv⟩
def v_laws_eqNodeS : { F : AFn // trFnG Q ⟨67126323, 0, 67126272, 0, 0⟩ Try.f69 = some F } := ⟨_, rfl⟩
def w_laws_eqNodeS : { F : AFn // v_laws_eqNodeS.1 = F } := ⟨_, by cbv⟩
def v_laws_markIntS : { F : AFn // trFnG Q ⟨563, 0, 512, 0, 0⟩ Try.f70 = some F } := ⟨_, rfl⟩
def w_laws_markIntS : { F : AFn // v_laws_markIntS.1 = F } := ⟨_, by cbv⟩
def v_laws_szNode : { F : AFn // trFnG Q ⟨8521751, 0, 8521728, 0, 0⟩ Try.f71 = some F } := ⟨_, rfl⟩
def w_laws_szNode : { F : AFn // v_laws_szNode.1 = F } := ⟨_, by cbv⟩
def v_spec_l3kid : { F : AFn // trFnG Q ⟨1073774791, 0, 1073774592, 0, 0⟩ Try.f72 = some F } := ⟨_, rfl⟩
def w_spec_l3kid : { F : AFn // v_spec_l3kid.1 = F } := ⟨_, by cbv⟩
def v_spec_l3bare : { F : AFn // trFnG Q ⟨4223, 0, 0, 0, 0⟩ Try.f73 = some F } := ⟨_, rfl⟩
def w_spec_l3bare : { F : AFn // v_spec_l3bare.1 = F } := ⟨_, by cbv⟩
def v_spec_l3exprs : { F : AFn // trFnG Q ⟨2106127, 0, 2105344, 0, 0⟩ Try.f74 = some F } := ⟨_, rfl⟩
def w_spec_l3exprs : { F : AFn // v_spec_l3exprs.1 = F } := ⟨_, by cbv⟩
def v_spec_l3target : { F : AFn // trFnG Q ⟨5, 0, 0, 0, 0⟩ Try.f75 = some F } := ⟨_, rfl⟩
def w_spec_l3target : { F : AFn // v_spec_l3target.1 = F } := ⟨_, by cbv⟩
def v_spec_l3many : { F : AFn // trFnG Q ⟨5, 0, 0, 0, 0⟩ Try.f76 = some F } := ⟨_, rfl⟩
def w_spec_l3many : { F : AFn // v_spec_l3many.1 = F } := ⟨_, by cbv⟩
def v_spec_l3place : { F : AFn // trFnG Q ⟨67571, 0, 66560, 0, 0⟩ Try.f77 = some F } := ⟨_, rfl⟩
def w_spec_l3place : { F : AFn // v_spec_l3place.1 = F } := ⟨_, by cbv⟩
def v_spec_l3declares : { F : AFn // trFnG Q ⟨4194327, 0, 4194304, 0, 0⟩ Try.f78 = some F } := ⟨_, rfl⟩
def w_spec_l3declares : { F : AFn // v_spec_l3declares.1 = F } := ⟨_, by cbv⟩
def v_laws_toUp : { F : AFn // trFnG Q ⟨15, 0, 0, 0, 0⟩ Try.f79 = some F } := ⟨_, rfl⟩
def w_laws_toUp : { F : AFn // v_laws_toUp.1 = F } := ⟨_, by cbv⟩
def v_laws_toNode : { F : AFn // trFnG Q ⟨15, 0, 0, 0, 285212672⟩ Try.f80 = some F } := ⟨_, rfl⟩
def w_laws_toNode : { F : AFn // v_laws_toNode.1 = F } := ⟨_, by cbv⟩
def v_laws_eqUp : { F : AFn // trFnG Q ⟨16927, 0, 16896, 0, 0⟩ Try.f81 = some F } := ⟨_, rfl⟩
def w_laws_eqUp : { F : AFn // v_laws_eqUp.1 = F } := ⟨_, by cbv⟩
def v_laws_eqNode : { F : AFn // trFnG Q ⟨142971962409503, 0, 142971962409472, 0, 0⟩ Try.f82 = some F } := ⟨_, rfl⟩
def w_laws_eqNode : { F : AFn // v_laws_eqNode.1 = F } := ⟨_, by cbv⟩
def v_laws_szIntS : { F : AFn // trFnG Q ⟨1043, 0, 1024, 0, 0⟩ Try.f83 = some F } := ⟨_, rfl⟩
def w_laws_szIntS : { F : AFn // v_laws_szIntS.1 = F } := ⟨_, by cbv⟩
def v_spec_l3expr : { F : AFn // trFnG Q ⟨5, 0, 0, 0, 0⟩ Try.f84 = some F } := ⟨_, rfl⟩
def w_spec_l3expr : { F : AFn // v_spec_l3expr.1 = F } := ⟨_, by cbv⟩
def v_laws_toIntS : { F : AFn // trFnG Q ⟨2077, 0, 2048, 0, 0⟩ Try.f85 = some F } := ⟨_, rfl⟩
def w_laws_toIntS : { F : AFn // v_laws_toIntS.1 = F } := ⟨_, by cbv⟩
def v_laws_sameFloat : { F : AFn // trFnG Q ⟨67112979, 0, 67112960, 0, 0⟩ Try.f86 = some F } := ⟨_, rfl⟩
def w_laws_sameFloat : { F : AFn // v_laws_sameFloat.1 = F } := ⟨_, by cbv⟩
def v_laws_eqIntS : { F : AFn // trFnG Q ⟨33571891, 0, 33571840, 0, 0⟩ Try.f87 = some F } := ⟨_, rfl⟩
def w_laws_eqIntS : { F : AFn // v_laws_eqIntS.1 = F } := ⟨_, by cbv⟩
def c_laws_FnExactCaptured : AC := w_laws_FnExactCaptured.1.code
def R_laws_FnExactCaptured := regAt c_laws_FnExactCaptured
def B_laws_FnExactCaptured (j : Nat) : AC := (loopAt c_laws_FnExactCaptured j).1
def c_laws_szUnit : AC := w_laws_szUnit.1.code
def R_laws_szUnit := regAt c_laws_szUnit
def B_laws_szUnit (j : Nat) : AC := (loopAt c_laws_szUnit j).1
def c_spec_CheckUnit : AC := w_spec_CheckUnit.1.code
def R_spec_CheckUnit := regAt c_spec_CheckUnit
def B_spec_CheckUnit (j : Nat) : AC := (loopAt c_spec_CheckUnit j).1
def c_laws_toUnit : AC := w_laws_toUnit.1.code
def R_laws_toUnit := regAt c_laws_toUnit
def B_laws_toUnit (j : Nat) : AC := (loopAt c_laws_toUnit j).1
def c_zCU : AC := w_zCU.1.code
def R_zCU := regAt c_zCU
def B_zCU (j : Nat) : AC := (loopAt c_zCU j).1
def c_laws_eqUnit : AC := w_laws_eqUnit.1.code
def R_laws_eqUnit := regAt c_laws_eqUnit
def B_laws_eqUnit (j : Nat) : AC := (loopAt c_laws_eqUnit j).1
def c_spec_Captured : AC := w_spec_Captured.1.code
def R_spec_Captured := regAt c_spec_Captured
def B_spec_Captured (j : Nat) : AC := (loopAt c_spec_Captured j).1
def c_impl_Captured : AC := w_impl_Captured.1.code
def R_impl_Captured := regAt c_impl_Captured
def B_impl_Captured (j : Nat) : AC := (loopAt c_impl_Captured j).1
def c_laws_eqBoolS : AC := w_laws_eqBoolS.1.code
def R_laws_eqBoolS := regAt c_laws_eqBoolS
def B_laws_eqBoolS (j : Nat) : AC := (loopAt c_laws_eqBoolS j).1
def c_laws_markUnit : AC := w_laws_markUnit.1.code
def R_laws_markUnit := regAt c_laws_markUnit
def B_laws_markUnit (j : Nat) : AC := (loopAt c_laws_markUnit j).1
def c_laws_markBoolS : AC := w_laws_markBoolS.1.code
def R_laws_markBoolS := regAt c_laws_markBoolS
def B_laws_markBoolS (j : Nat) : AC := (loopAt c_laws_markBoolS j).1
def c_laws_heldBoolS : AC := w_laws_heldBoolS.1.code
def R_laws_heldBoolS := regAt c_laws_heldBoolS
def B_laws_heldBoolS (j : Nat) : AC := (loopAt c_laws_heldBoolS j).1
def c_laws_szFnS : AC := w_laws_szFnS.1.code
def R_laws_szFnS := regAt c_laws_szFnS
def B_laws_szFnS (j : Nat) : AC := (loopAt c_laws_szFnS j).1
def c_z3f : AC := w_z3f.1.code
def R_z3f := regAt c_z3f
def B_z3f (j : Nat) : AC := (loopAt c_z3f j).1
def c_z3s : AC := w_z3s.1.code
def R_z3s := regAt c_z3s
def B_z3s (j : Nat) : AC := (loopAt c_z3s j).1
def c_z3t : AC := w_z3t.1.code
def R_z3t := regAt c_z3t
def B_z3t (j : Nat) : AC := (loopAt c_z3t j).1
def c_laws_toFnS : AC := w_laws_toFnS.1.code
def R_laws_toFnS := regAt c_laws_toFnS
def B_laws_toFnS (j : Nat) : AC := (loopAt c_laws_toFnS j).1
def c_impl_fnOk : AC := w_impl_fnOk.1.code
def R_impl_fnOk := regAt c_impl_fnOk
def B_impl_fnOk (j : Nat) : AC := (loopAt c_impl_fnOk j).1
def c_zNo : AC := w_zNo.1.code
def R_zNo := regAt c_zNo
def B_zNo (j : Nat) : AC := (loopAt c_zNo j).1
def c_impl_scopes : AC := w_impl_scopes.1.code
def R_impl_scopes := regAt c_impl_scopes
def B_impl_scopes (j : Nat) : AC := (loopAt c_impl_scopes j).1
def c_zCU_S1 : AC := w_zCU_S1.1.code
def R_zCU_S1 := regAt c_zCU_S1
def B_zCU_S1 (j : Nat) : AC := (loopAt c_zCU_S1 j).1
def c_impl_declares : AC := w_impl_declares.1.code
def R_impl_declares := regAt c_impl_declares
def B_impl_declares (j : Nat) : AC := (loopAt c_impl_declares j).1
def c_zCU_S2 : AC := w_zCU_S2.1.code
def R_zCU_S2 := regAt c_zCU_S2
def B_zCU_S2 (j : Nat) : AC := (loopAt c_zCU_S2 j).1
def c_zCU_S3 : AC := w_zCU_S3.1.code
def R_zCU_S3 := regAt c_zCU_S3
def B_zCU_S3 (j : Nat) : AC := (loopAt c_zCU_S3 j).1
def c_laws_eqFnS : AC := w_laws_eqFnS.1.code
def R_laws_eqFnS := regAt c_laws_eqFnS
def B_laws_eqFnS (j : Nat) : AC := (loopAt c_laws_eqFnS j).1
def c_spec_l8captured : AC := w_spec_l8captured.1.code
def R_spec_l8captured := regAt c_spec_l8captured
def B_spec_l8captured (j : Nat) : AC := (loopAt c_spec_l8captured j).1
def c_impl_captured : AC := w_impl_captured.1.code
def R_impl_captured := regAt c_impl_captured
def B_impl_captured (j : Nat) : AC := (loopAt c_impl_captured j).1
def c_laws_markFnS : AC := w_laws_markFnS.1.code
def R_laws_markFnS := regAt c_laws_markFnS
def B_laws_markFnS (j : Nat) : AC := (loopAt c_laws_markFnS j).1
def c_laws_szFn : AC := w_laws_szFn.1.code
def R_laws_szFn := regAt c_laws_szFn
def B_laws_szFn (j : Nat) : AC := (loopAt c_laws_szFn j).1
def c_spec_l3fault : AC := w_spec_l3fault.1.code
def R_spec_l3fault := regAt c_spec_l3fault
def B_spec_l3fault (j : Nat) : AC := (loopAt c_spec_l3fault j).1
def c_spec_l3head : AC := w_spec_l3head.1.code
def R_spec_l3head := regAt c_spec_l3head
def B_spec_l3head (j : Nat) : AC := (loopAt c_spec_l3head j).1
def c_spec_l3shape : AC := w_spec_l3shape.1.code
def R_spec_l3shape := regAt c_spec_l3shape
def B_spec_l3shape (j : Nat) : AC := (loopAt c_spec_l3shape j).1
def c_spec_l3grow : AC := w_spec_l3grow.1.code
def R_spec_l3grow := regAt c_spec_l3grow
def B_spec_l3grow (j : Nat) : AC := (loopAt c_spec_l3grow j).1
def c_spec_l3refs : AC := w_spec_l3refs.1.code
def R_spec_l3refs := regAt c_spec_l3refs
def B_spec_l3refs (j : Nat) : AC := (loopAt c_spec_l3refs j).1
def c_spec_l3inloop : AC := w_spec_l3inloop.1.code
def R_spec_l3inloop := regAt c_spec_l3inloop
def B_spec_l3inloop (j : Nat) : AC := (loopAt c_spec_l3inloop j).1
def c_spec_l3ups : AC := w_spec_l3ups.1.code
def R_spec_l3ups := regAt c_spec_l3ups
def B_spec_l3ups (j : Nat) : AC := (loopAt c_spec_l3ups j).1
def c_laws_toFn : AC := w_laws_toFn.1.code
def R_laws_toFn := regAt c_laws_toFn
def B_laws_toFn (j : Nat) : AC := (loopAt c_laws_toFn j).1
def c_impl_statement : AC := w_impl_statement.1.code
def R_impl_statement := regAt c_impl_statement
def B_impl_statement (j : Nat) : AC := (loopAt c_impl_statement j).1
def c_impl_expression : AC := w_impl_expression.1.code
def R_impl_expression := regAt c_impl_expression
def B_impl_expression (j : Nat) : AC := (loopAt c_impl_expression j).1
def c_zNo_S1 : AC := w_zNo_S1.1.code
def R_zNo_S1 := regAt c_zNo_S1
def B_zNo_S1 (j : Nat) : AC := (loopAt c_zNo_S1 j).1
def c_zNo_S2 : AC := w_zNo_S2.1.code
def R_zNo_S2 := regAt c_zNo_S2
def B_zNo_S2 (j : Nat) : AC := (loopAt c_zNo_S2 j).1
def c_zNo_S3 : AC := w_zNo_S3.1.code
def R_zNo_S3 := regAt c_zNo_S3
def B_zNo_S3 (j : Nat) : AC := (loopAt c_zNo_S3 j).1
def c_math_IsNaN : AC := w_math_IsNaN.1.code
def R_math_IsNaN := regAt c_math_IsNaN
def B_math_IsNaN (j : Nat) : AC := (loopAt c_math_IsNaN j).1
def c_zSw : AC := w_zSw.1.code
def R_zSw := regAt c_zSw
def B_zSw (j : Nat) : AC := (loopAt c_zSw j).1
def c_laws_eqFn : AC := w_laws_eqFn.1.code
def R_laws_eqFn := regAt c_laws_eqFn
def B_laws_eqFn (j : Nat) : AC := (loopAt c_laws_eqFn j).1
def c_laws_markText : AC := w_laws_markText.1.code
def R_laws_markText := regAt c_laws_markText
def B_laws_markText (j : Nat) : AC := (loopAt c_laws_markText j).1
def c_laws_markStringS : AC := w_laws_markStringS.1.code
def R_laws_markStringS := regAt c_laws_markStringS
def B_laws_markStringS (j : Nat) : AC := (loopAt c_laws_markStringS j).1
def c_laws_markUpS : AC := w_laws_markUpS.1.code
def R_laws_markUpS := regAt c_laws_markUpS
def B_laws_markUpS (j : Nat) : AC := (loopAt c_laws_markUpS j).1
def c_laws_markNodeS : AC := w_laws_markNodeS.1.code
def R_laws_markNodeS := regAt c_laws_markNodeS
def B_laws_markNodeS (j : Nat) : AC := (loopAt c_laws_markNodeS j).1
def c_laws_szStringS : AC := w_laws_szStringS.1.code
def R_laws_szStringS := regAt c_laws_szStringS
def B_laws_szStringS (j : Nat) : AC := (loopAt c_laws_szStringS j).1
def c_laws_szUpS : AC := w_laws_szUpS.1.code
def R_laws_szUpS := regAt c_laws_szUpS
def B_laws_szUpS (j : Nat) : AC := (loopAt c_laws_szUpS j).1
def c_laws_szNodeS : AC := w_laws_szNodeS.1.code
def R_laws_szNodeS := regAt c_laws_szNodeS
def B_laws_szNodeS (j : Nat) : AC := (loopAt c_laws_szNodeS j).1
def c_spec_l3name : AC := w_spec_l3name.1.code
def R_spec_l3name := regAt c_spec_l3name
def B_spec_l3name (j : Nat) : AC := (loopAt c_spec_l3name j).1
def c_spec_l3stat : AC := w_spec_l3stat.1.code
def R_spec_l3stat := regAt c_spec_l3stat
def B_spec_l3stat (j : Nat) : AC := (loopAt c_spec_l3stat j).1
def c_zSt : AC := w_zSt.1.code
def R_zSt := regAt c_zSt
def B_zSt (j : Nat) : AC := (loopAt c_zSt j).1
def c_zEx : AC := w_zEx.1.code
def R_zEx := regAt c_zEx
def B_zEx (j : Nat) : AC := (loopAt c_zEx j).1
def c_spec_l3visible : AC := w_spec_l3visible.1.code
def R_spec_l3visible := regAt c_spec_l3visible
def B_spec_l3visible (j : Nat) : AC := (loopAt c_spec_l3visible j).1
def c_laws_toStringS : AC := w_laws_toStringS.1.code
def R_laws_toStringS := regAt c_laws_toStringS
def B_laws_toStringS (j : Nat) : AC := (loopAt c_laws_toStringS j).1
def c_laws_toUpS : AC := w_laws_toUpS.1.code
def R_laws_toUpS := regAt c_laws_toUpS
def B_laws_toUpS (j : Nat) : AC := (loopAt c_laws_toUpS j).1
def c_laws_toNodeS : AC := w_laws_toNodeS.1.code
def R_laws_toNodeS := regAt c_laws_toNodeS
def B_laws_toNodeS (j : Nat) : AC := (loopAt c_laws_toNodeS j).1
def c_zSw_S1 : AC := w_zSw_S1.1.code
def R_zSw_S1 := regAt c_zSw_S1
def B_zSw_S1 (j : Nat) : AC := (loopAt c_zSw_S1 j).1
def c_laws_eqStringS : AC := w_laws_eqStringS.1.code
def R_laws_eqStringS := regAt c_laws_eqStringS
def B_laws_eqStringS (j : Nat) : AC := (loopAt c_laws_eqStringS j).1
def c_laws_eqUpS : AC := w_laws_eqUpS.1.code
def R_laws_eqUpS := regAt c_laws_eqUpS
def B_laws_eqUpS (j : Nat) : AC := (loopAt c_laws_eqUpS j).1
def c_laws_eqNodeS : AC := w_laws_eqNodeS.1.code
def R_laws_eqNodeS := regAt c_laws_eqNodeS
def B_laws_eqNodeS (j : Nat) : AC := (loopAt c_laws_eqNodeS j).1
def c_laws_markIntS : AC := w_laws_markIntS.1.code
def R_laws_markIntS := regAt c_laws_markIntS
def B_laws_markIntS (j : Nat) : AC := (loopAt c_laws_markIntS j).1
def c_laws_szNode : AC := w_laws_szNode.1.code
def R_laws_szNode := regAt c_laws_szNode
def B_laws_szNode (j : Nat) : AC := (loopAt c_laws_szNode j).1
def c_spec_l3kid : AC := w_spec_l3kid.1.code
def R_spec_l3kid := regAt c_spec_l3kid
def B_spec_l3kid (j : Nat) : AC := (loopAt c_spec_l3kid j).1
def c_spec_l3bare : AC := w_spec_l3bare.1.code
def R_spec_l3bare := regAt c_spec_l3bare
def B_spec_l3bare (j : Nat) : AC := (loopAt c_spec_l3bare j).1
def c_spec_l3exprs : AC := w_spec_l3exprs.1.code
def R_spec_l3exprs := regAt c_spec_l3exprs
def B_spec_l3exprs (j : Nat) : AC := (loopAt c_spec_l3exprs j).1
def c_spec_l3target : AC := w_spec_l3target.1.code
def R_spec_l3target := regAt c_spec_l3target
def B_spec_l3target (j : Nat) : AC := (loopAt c_spec_l3target j).1
def c_spec_l3many : AC := w_spec_l3many.1.code
def R_spec_l3many := regAt c_spec_l3many
def B_spec_l3many (j : Nat) : AC := (loopAt c_spec_l3many j).1
def c_spec_l3place : AC := w_spec_l3place.1.code
def R_spec_l3place := regAt c_spec_l3place
def B_spec_l3place (j : Nat) : AC := (loopAt c_spec_l3place j).1
def c_spec_l3declares : AC := w_spec_l3declares.1.code
def R_spec_l3declares := regAt c_spec_l3declares
def B_spec_l3declares (j : Nat) : AC := (loopAt c_spec_l3declares j).1
def c_laws_toUp : AC := w_laws_toUp.1.code
def R_laws_toUp := regAt c_laws_toUp
def B_laws_toUp (j : Nat) : AC := (loopAt c_laws_toUp j).1
def c_laws_toNode : AC := w_laws_toNode.1.code
def R_laws_toNode := regAt c_laws_toNode
def B_laws_toNode (j : Nat) : AC := (loopAt c_laws_toNode j).1
def c_laws_eqUp : AC := w_laws_eqUp.1.code
def R_laws_eqUp := regAt c_laws_eqUp
def B_laws_eqUp (j : Nat) : AC := (loopAt c_laws_eqUp j).1
def c_laws_eqNode : AC := w_laws_eqNode.1.code
def R_laws_eqNode := regAt c_laws_eqNode
def B_laws_eqNode (j : Nat) : AC := (loopAt c_laws_eqNode j).1
def c_laws_szIntS : AC := w_laws_szIntS.1.code
def R_laws_szIntS := regAt c_laws_szIntS
def B_laws_szIntS (j : Nat) : AC := (loopAt c_laws_szIntS j).1
def c_spec_l3expr : AC := w_spec_l3expr.1.code
def R_spec_l3expr := regAt c_spec_l3expr
def B_spec_l3expr (j : Nat) : AC := (loopAt c_spec_l3expr j).1
def c_laws_toIntS : AC := w_laws_toIntS.1.code
def R_laws_toIntS := regAt c_laws_toIntS
def B_laws_toIntS (j : Nat) : AC := (loopAt c_laws_toIntS j).1
def c_laws_sameFloat : AC := w_laws_sameFloat.1.code
def R_laws_sameFloat := regAt c_laws_sameFloat
def B_laws_sameFloat (j : Nat) : AC := (loopAt c_laws_sameFloat j).1
def c_laws_eqIntS : AC := w_laws_eqIntS.1.code
def R_laws_eqIntS := regAt c_laws_eqIntS
def B_laws_eqIntS (j : Nat) : AC := (loopAt c_laws_eqIntS j).1
def A : AProg := ⟨fun f => match f with
  | 3 => some w_laws_FnExactConstants.1
  | 4 => some w_laws_FnExactCheckUnit.1
  | 5 => some w_laws_FnExactCaptured.1
  | 6 => some w_laws_szUnit.1
  | 7 => some w_spec_CheckUnit.1
  | 8 => some w_laws_toUnit.1
  | 9 => some w_zCU.1
  | 10 => some w_laws_eqFault.1
  | 11 => some w_laws_eqUnit.1
  | 12 => some w_spec_Captured.1
  | 13 => some w_impl_Captured.1
  | 14 => some w_laws_eqBoolS.1
  | 15 => some w_laws_markUnit.1
  | 16 => some w_laws_markBoolS.1
  | 17 => some w_laws_heldBoolS.1
  | 18 => some w_laws_szFnS.1
  | 19 => some w_z3f.1
  | 20 => some w_z3s.1
  | 21 => some w_z3t.1
  | 22 => some w_laws_toFnS.1
  | 23 => some w_impl_fnOk.1
  | 24 => some w_zNo.1
  | 25 => some w_impl_scopes.1
  | 26 => some w_zCU_S1.1
  | 27 => some w_impl_declares.1
  | 28 => some w_zCU_S2.1
  | 29 => some w_zCU_S3.1
  | 30 => some w_laws_eqFnS.1
  | 31 => some w_spec_l8captured.1
  | 32 => some w_impl_captured.1
  | 33 => some w_laws_markFnS.1
  | 34 => some w_laws_szFn.1
  | 35 => some w_spec_l3fault.1
  | 36 => some w_spec_l3head.1
  | 37 => some w_spec_l3shape.1
  | 38 => some w_spec_l3grow.1
  | 39 => some w_spec_l3refs.1
  | 40 => some w_spec_l3inloop.1
  | 41 => some w_spec_l3ups.1
  | 42 => some w_laws_toFn.1
  | 43 => some w_impl_statement.1
  | 44 => some w_impl_expression.1
  | 45 => some w_zNo_S1.1
  | 46 => some w_zNo_S2.1
  | 47 => some w_zNo_S3.1
  | 48 => some w_math_IsNaN.1
  | 49 => some w_zSw.1
  | 50 => some w_laws_eqFn.1
  | 51 => some w_laws_markText.1
  | 52 => some w_laws_markStringS.1
  | 53 => some w_laws_markUpS.1
  | 54 => some w_laws_markNodeS.1
  | 55 => some w_laws_szStringS.1
  | 56 => some w_laws_szUpS.1
  | 57 => some w_laws_szNodeS.1
  | 58 => some w_spec_l3name.1
  | 59 => some w_spec_l3stat.1
  | 60 => some w_zSt.1
  | 61 => some w_zEx.1
  | 62 => some w_spec_l3visible.1
  | 63 => some w_laws_toStringS.1
  | 64 => some w_laws_toUpS.1
  | 65 => some w_laws_toNodeS.1
  | 66 => some w_zSw_S1.1
  | 67 => some w_laws_eqStringS.1
  | 68 => some w_laws_eqUpS.1
  | 69 => some w_laws_eqNodeS.1
  | 70 => some w_laws_markIntS.1
  | 71 => some w_laws_szNode.1
  | 72 => some w_spec_l3kid.1
  | 73 => some w_spec_l3bare.1
  | 74 => some w_spec_l3exprs.1
  | 75 => some w_spec_l3target.1
  | 76 => some w_spec_l3many.1
  | 77 => some w_spec_l3place.1
  | 78 => some w_spec_l3declares.1
  | 79 => some w_laws_toUp.1
  | 80 => some w_laws_toNode.1
  | 81 => some w_laws_eqUp.1
  | 82 => some w_laws_eqNode.1
  | 83 => some w_laws_szIntS.1
  | 84 => some w_spec_l3expr.1
  | 85 => some w_laws_toIntS.1
  | 86 => some w_laws_sameFloat.1
  | 87 => some w_laws_eqIntS.1
  | _ => none, fun _ => none⟩
theorem e_laws_FnExactCaptured (x0 x1 : PV) : EP A n_laws_FnExactCaptured [x0, x1] = endP [.tmp 4] (EV A c_laws_FnExactCaptured ⟨[(0, x0), (1, x1)], [], [], []⟩) := run_P (F := w_laws_FnExactCaptured.1) rfl rfl
theorem e_laws_szUnit (x0 x1 : PV) : EP A n_laws_szUnit [x0, x1] = endP [.tmp 4] (EV A c_laws_szUnit ⟨[(0, x0), (1, x1)], [], [], []⟩) := run_P (F := w_laws_szUnit.1) rfl rfl
theorem e_spec_CheckUnit (x0 : PV) : EP A n_spec_CheckUnit [x0] = endP [.cell 2 true 3] (EV A c_spec_CheckUnit ⟨[(0, x0)], [], [], []⟩) := run_P (F := w_spec_CheckUnit.1) rfl rfl
theorem e_laws_toUnit (x0 : PV) : EP A n_laws_toUnit [x0] = endP [.cell 2 true 1] (EV A c_laws_toUnit ⟨[(0, x0)], [], [], []⟩) := run_P (F := w_laws_toUnit.1) rfl rfl
theorem s_laws_toUnit (x0 : PV) (H : Heap) : ES A n_laws_toUnit [x0] H = endS H.length [.cell 2 true 1] (EV A c_laws_toUnit ⟨[(0, x0)], [], H, []⟩) := run_S (F := w_laws_toUnit.1) rfl rfl
theorem e_zCU (x0 : PV) : EP A n_zCU [x0] = endP [.cell 2 true 3] (EV A c_zCU ⟨[(0, x0)], [], [], []⟩) := run_P (F := w_zCU.1) rfl rfl
theorem e_laws_eqUnit (x0 x1 : PV) : EP A n_laws_eqUnit [x0, x1] = endP [.tmp 4] (EV A c_laws_eqUnit ⟨[(0, x0), (1, x1)], [], [], []⟩) := run_P (F := w_laws_eqUnit.1) rfl rfl
theorem e_spec_Captured (x0 x1 : PV) : EP A n_spec_Captured [x0, x1] = endP [.tmp 4] (EV A c_spec_Captured ⟨[(0, x0), (1, x1)], [], [], []⟩) := run_P (F := w_spec_Captured.1) rfl rfl
theorem e_impl_Captured (x0 x1 : PV) : EP A n_impl_Captured [x0, x1] = endP [.tmp 4] (EV A c_impl_Captured ⟨[(0, x0), (1, x1)], [], [], []⟩) := run_P (F := w_impl_Captured.1) rfl rfl
theorem s_impl_Captured (x0 x1 : PV) (H : Heap) : ES A n_impl_Captured [x0, x1] H = endS H.length [.tmp 4] (EV A c_impl_Captured ⟨[(0, x0), (1, x1)], [], H, []⟩) := run_S (F := w_impl_Captured.1) rfl rfl
theorem e_laws_eqBoolS (x0 x1 : PV) : EP A n_laws_eqBoolS [x0, x1] = endP [.tmp 4] (EV A c_laws_eqBoolS ⟨[(0, x0), (1, x1)], [], [], []⟩) := run_P (F := w_laws_eqBoolS.1) rfl rfl
theorem s_laws_markUnit (x0 x1 : PV) (H : Heap) : ES A n_laws_markUnit [x0, x1] H = endS H.length [.tmp 4] (EV A c_laws_markUnit ⟨[(0, x0), (1, x1)], [], H, []⟩) := run_S (F := w_laws_markUnit.1) rfl rfl
theorem s_laws_markBoolS (x0 x1 : PV) (H : Heap) : ES A n_laws_markBoolS [x0, x1] H = endS H.length [.tmp 4] (EV A c_laws_markBoolS ⟨[(0, x0), (1, x1)], [], H, []⟩) := run_S (F := w_laws_markBoolS.1) rfl rfl
theorem e_laws_heldBoolS (x0 x1 : PV) : EP A n_laws_heldBoolS [x0, x1] = endP [.tmp 4] (EV A c_laws_heldBoolS ⟨[(0, x0), (1, x1)], [], [], []⟩) := run_P (F := w_laws_heldBoolS.1) rfl rfl
theorem e_laws_szFnS (x0 x1 : PV) : EP A n_laws_szFnS [x0, x1] = endP [.tmp 4] (EV A c_laws_szFnS ⟨[(0, x0), (1, x1)], [], [], []⟩) := run_P (F := w_laws_szFnS.1) rfl rfl
theorem e_z3f (x0 : PV) : EP A n_z3f [x0] = endP [.cell 2 true 3] (EV A c_z3f ⟨[(0, x0)], [], [], []⟩) := run_P (F := w_z3f.1) rfl rfl
theorem e_z3s (x0 : PV) : EP A n_z3s [x0] = endP [.cell 2 true 3] (EV A c_z3s ⟨[(0, x0)], [], [], []⟩) := run_P (F := w_z3s.1) rfl rfl
theorem e_z3t (x0 : PV) : EP A n_z3t [x0] = endP [.cell 2 true 3] (EV A c_z3t ⟨[(0, x0)], [], [], []⟩) := run_P (F := w_z3t.1) rfl rfl
theorem s_laws_toFnS (x0 : PV) (H : Heap) : ES A n_laws_toFnS [x0] H = endS H.length [.tmp 2] (EV A c_laws_toFnS ⟨[(0, x0)], [], H, []⟩) := run_S (F := w_laws_toFnS.1) rfl rfl
theorem e_impl_fnOk (x0 x1 : PV) : EP A n_impl_fnOk [x0, x1] = endP [.tmp 4] (EV A c_impl_fnOk ⟨[(0, x0), (1, x1)], [], [], []⟩) := run_P (F := w_impl_fnOk.1) rfl rfl
theorem e_zNo (x0 x1 : PV) : EP A n_zNo [x0, x1] = endP [.tmp 4] (EV A c_zNo ⟨[(0, x0), (1, x1)], [], [], []⟩) := run_P (F := w_zNo.1) rfl rfl
theorem s_impl_scopes (x0 x1 : PV) (H : Heap) : ES A n_impl_scopes [x0, x1] H = endS H.length [] (EV A c_impl_scopes ⟨[(0, x0), (1, x1)], [], H, []⟩) := run_S (F := w_impl_scopes.1) rfl rfl
theorem s_zCU_S1 (x0 x1 x2 x3 x4 : PV) (H : Heap) : ES A n_zCU_S1 [x0, x1, x2, x3, x4] H = endS H.length [] (EV A c_zCU_S1 ⟨[(0, x0), (1, x1), (2, x2), (3, x3), (4, x4)], [], H, []⟩) := run_S (F := w_zCU_S1.1) rfl rfl
theorem e_impl_declares (x0 : PV) : EP A n_impl_declares [x0] = endP [.tmp 2] (EV A c_impl_declares ⟨[(0, x0)], [], [], []⟩) := run_P (F := w_impl_declares.1) rfl rfl
theorem s_zCU_S2 (x0 x1 x2 x3 x4 : PV) (H : Heap) : ES A n_zCU_S2 [x0, x1, x2, x3, x4] H = endS H.length [] (EV A c_zCU_S2 ⟨[(0, x0), (1, x1), (2, x2), (3, x3), (4, x4)], [], H, []⟩) := run_S (F := w_zCU_S2.1) rfl rfl
theorem s_zCU_S3 (x0 x1 x2 x3 x4 x5 : PV) (H : Heap) : ES A n_zCU_S3 [x0, x1, x2, x3, x4, x5] H = endS H.length [] (EV A c_zCU_S3 ⟨[(0, x0), (1, x1), (2, x2), (3, x3), (4, x4), (5, x5)], [], H, []⟩) := run_S (F := w_zCU_S3.1) rfl rfl
theorem e_laws_eqFnS (x0 x1 : PV) : EP A n_laws_eqFnS [x0, x1] = endP [.tmp 4] (EV A c_laws_eqFnS ⟨[(0, x0), (1, x1)], [], [], []⟩) := run_P (F := w_laws_eqFnS.1) rfl rfl
theorem e_spec_l8captured (x0 x1 : PV) : EP A n_spec_l8captured [x0, x1] = endP [.tmp 4] (EV A c_spec_l8captured ⟨[(0, x0), (1, x1)], [], [], []⟩) := run_P (F := w_spec_l8captured.1) rfl rfl
theorem s_impl_captured (x0 x1 : PV) (H : Heap) : ES A n_impl_captured [x0, x1] H = endS H.length [.tmp 4] (EV A c_impl_captured ⟨[(0, x0), (1, x1)], [], H, []⟩) := run_S (F := w_impl_captured.1) rfl rfl
theorem s_laws_markFnS (x0 x1 : PV) (H : Heap) : ES A n_laws_markFnS [x0, x1] H = endS H.length [.tmp 4] (EV A c_laws_markFnS ⟨[(0, x0), (1, x1)], [], H, []⟩) := run_S (F := w_laws_markFnS.1) rfl rfl
theorem e_laws_szFn (x0 x1 : PV) : EP A n_laws_szFn [x0, x1] = endP [.tmp 4] (EV A c_laws_szFn ⟨[(0, x0), (1, x1)], [], [], []⟩) := run_P (F := w_laws_szFn.1) rfl rfl
theorem e_spec_l3fault (x0 x1 x2 : PV) : EP A n_spec_l3fault [x0, x1, x2] = endP [.cell 6 true 3] (EV A c_spec_l3fault ⟨[(0, x0), (1, x1), (2, x2)], [], [], []⟩) := run_P (F := w_spec_l3fault.1) rfl rfl
theorem e_spec_l3head (x0 x1 : PV) : EP A n_spec_l3head [x0, x1] = endP [.tmp 4] (EV A c_spec_l3head ⟨[(0, x0), (1, x1)], [], [], []⟩) := run_P (F := w_spec_l3head.1) rfl rfl
theorem e_spec_l3shape (x0 x1 : PV) : EP A n_spec_l3shape [x0, x1] = endP [.tmp 4] (EV A c_spec_l3shape ⟨[(0, x0), (1, x1)], [], [], []⟩) := run_P (F := w_spec_l3shape.1) rfl rfl
theorem e_spec_l3grow (x0 : PV) : EP A n_spec_l3grow [x0] = endP [.cell 2 true 2] (EV A c_spec_l3grow ⟨[(0, x0)], [], [], []⟩) := run_P (F := w_spec_l3grow.1) rfl rfl
theorem s_spec_l3refs (x0 x1 x2 x3 x4 : PV) (H : Heap) : ES A n_spec_l3refs [x0, x1, x2, x3, x4] H = endS H.length [.tmp 10] (EV A c_spec_l3refs ⟨[(0, x0), (1, x1), (2, x2), (3, x3), (4, x4)], [], H, []⟩) := run_S (F := w_spec_l3refs.1) rfl rfl
theorem e_spec_l3inloop (x0 x1 x2 : PV) : EP A n_spec_l3inloop [x0, x1, x2] = endP [.tmp 6] (EV A c_spec_l3inloop ⟨[(0, x0), (1, x1), (2, x2)], [], [], []⟩) := run_P (F := w_spec_l3inloop.1) rfl rfl
theorem e_spec_l3ups (x0 x1 x2 x3 x4 : PV) : EP A n_spec_l3ups [x0, x1, x2, x3, x4] = endP [.tmp 10] (EV A c_spec_l3ups ⟨[(0, x0), (1, x1), (2, x2), (3, x3), (4, x4)], [], [], []⟩) := run_P (F := w_spec_l3ups.1) rfl rfl
theorem s_laws_toFn (x0 : PV) (H : Heap) : ES A n_laws_toFn [x0] H = endS H.length [.cell 2 true 7] (EV A c_laws_toFn ⟨[(0, x0)], [], H, []⟩) := run_S (F := w_laws_toFn.1) rfl rfl
theorem e_impl_statement (x0 : PV) : EP A n_impl_statement [x0] = endP [.tmp 2] (EV A c_impl_statement ⟨[(0, x0)], [], [], []⟩) := run_P (F := w_impl_statement.1) rfl rfl
theorem e_impl_expression (x0 : PV) : EP A n_impl_expression [x0] = endP [.tmp 2] (EV A c_impl_expression ⟨[(0, x0)], [], [], []⟩) := run_P (F := w_impl_expression.1) rfl rfl
theorem e_zNo_S1 (x0 x1 x2 : PV) : EP A n_zNo_S1 [x0, x1, x2] = endP [.tmp 4] (EV A c_zNo_S1 ⟨[(0, x0), (1, x1), (2, x2)], [], [], []⟩) := run_P (F := w_zNo_S1.1) rfl rfl
theorem e_zNo_S2 (x0 x1 x2 x3 : PV) : EP A n_zNo_S2 [x0, x1, x2, x3] = endP [.tmp 6] (EV A c_zNo_S2 ⟨[(0, x0), (1, x1), (2, x2), (3, x3)], [], [], []⟩) := run_P (F := w_zNo_S2.1) rfl rfl
theorem e_zNo_S3 (x0 x1 x2 : PV) : EP A n_zNo_S3 [x0, x1, x2] = endP [.tmp 5] (EV A c_zNo_S3 ⟨[(0, x0), (1, x1), (2, x2)], [], [], []⟩) := run_P (F := w_zNo_S3.1) rfl rfl
theorem e_math_IsNaN (x0 : PV) : EP A n_math_IsNaN [x0] = endP [.tmp 2] (EV A c_math_IsNaN ⟨[(0, x0)], [], [], []⟩) := run_P (F := w_math_IsNaN.1) rfl rfl
theorem s_zSw (x0 x1 x2 : PV) (H : Heap) : ES A n_zSw [x0, x1, x2] H = endS H.length [] (EV A c_zSw ⟨[(0, x0), (1, x1), (2, x2)], [], H, []⟩) := run_S (F := w_zSw.1) rfl rfl
theorem e_laws_eqFn (x0 x1 : PV) : EP A n_laws_eqFn [x0, x1] = endP [.tmp 4] (EV A c_laws_eqFn ⟨[(0, x0), (1, x1)], [], [], []⟩) := run_P (F := w_laws_eqFn.1) rfl rfl
theorem e_laws_markText (x0 : PV) : EP A n_laws_markText [x0] = endP [.tmp 2] (EV A c_laws_markText ⟨[(0, x0)], [], [], []⟩) := run_P (F := w_laws_markText.1) rfl rfl
theorem s_laws_markStringS (x0 x1 : PV) (H : Heap) : ES A n_laws_markStringS [x0, x1] H = endS H.length [.tmp 4] (EV A c_laws_markStringS ⟨[(0, x0), (1, x1)], [], H, []⟩) := run_S (F := w_laws_markStringS.1) rfl rfl
theorem s_laws_markUpS (x0 x1 : PV) (H : Heap) : ES A n_laws_markUpS [x0, x1] H = endS H.length [.tmp 4] (EV A c_laws_markUpS ⟨[(0, x0), (1, x1)], [], H, []⟩) := run_S (F := w_laws_markUpS.1) rfl rfl
theorem s_laws_markNodeS (x0 x1 : PV) (H : Heap) : ES A n_laws_markNodeS [x0, x1] H = endS H.length [.tmp 4] (EV A c_laws_markNodeS ⟨[(0, x0), (1, x1)], [], H, []⟩) := run_S (F := w_laws_markNodeS.1) rfl rfl
theorem e_laws_szStringS (x0 x1 : PV) : EP A n_laws_szStringS [x0, x1] = endP [.tmp 4] (EV A c_laws_szStringS ⟨[(0, x0), (1, x1)], [], [], []⟩) := run_P (F := w_laws_szStringS.1) rfl rfl
theorem e_laws_szUpS (x0 x1 : PV) : EP A n_laws_szUpS [x0, x1] = endP [.tmp 4] (EV A c_laws_szUpS ⟨[(0, x0), (1, x1)], [], [], []⟩) := run_P (F := w_laws_szUpS.1) rfl rfl
theorem e_laws_szNodeS (x0 x1 : PV) : EP A n_laws_szNodeS [x0, x1] = endP [.tmp 4] (EV A c_laws_szNodeS ⟨[(0, x0), (1, x1)], [], [], []⟩) := run_P (F := w_laws_szNodeS.1) rfl rfl
theorem e_spec_l3name (x0 x1 : PV) : EP A n_spec_l3name [x0, x1] = endP [.tmp 4] (EV A c_spec_l3name ⟨[(0, x0), (1, x1)], [], [], []⟩) := run_P (F := w_spec_l3name.1) rfl rfl
theorem e_spec_l3stat (x0 : PV) : EP A n_spec_l3stat [x0] = endP [.tmp 2] (EV A c_spec_l3stat ⟨[(0, x0)], [], [], []⟩) := run_P (F := w_spec_l3stat.1) rfl rfl
theorem e_zSt (x0 x1 : PV) : EP A n_zSt [x0, x1] = endP [.tmp 4] (EV A c_zSt ⟨[(0, x0), (1, x1)], [], [], []⟩) := run_P (F := w_zSt.1) rfl rfl
theorem e_zEx (x0 x1 : PV) : EP A n_zEx [x0, x1] = endP [.tmp 4] (EV A c_zEx ⟨[(0, x0), (1, x1)], [], [], []⟩) := run_P (F := w_zEx.1) rfl rfl
theorem e_spec_l3visible (x0 x1 x2 x3 : PV) : EP A n_spec_l3visible [x0, x1, x2, x3] = endP [.tmp 8] (EV A c_spec_l3visible ⟨[(0, x0), (1, x1), (2, x2), (3, x3)], [], [], []⟩) := run_P (F := w_spec_l3visible.1) rfl rfl
theorem s_laws_toStringS (x0 : PV) (H : Heap) : ES A n_laws_toStringS [x0] H = endS H.length [.tmp 2] (EV A c_laws_toStringS ⟨[(0, x0)], [], H, []⟩) := run_S (F := w_laws_toStringS.1) rfl rfl
theorem s_laws_toUpS (x0 : PV) (H : Heap) : ES A n_laws_toUpS [x0] H = endS H.length [.tmp 2] (EV A c_laws_toUpS ⟨[(0, x0)], [], H, []⟩) := run_S (F := w_laws_toUpS.1) rfl rfl
theorem s_laws_toNodeS (x0 : PV) (H : Heap) : ES A n_laws_toNodeS [x0] H = endS H.length [.tmp 2] (EV A c_laws_toNodeS ⟨[(0, x0)], [], H, []⟩) := run_S (F := w_laws_toNodeS.1) rfl rfl
theorem s_zSw_S1 (x0 x1 x2 x3 : PV) (H : Heap) : ES A n_zSw_S1 [x0, x1, x2, x3] H = endS H.length [] (EV A c_zSw_S1 ⟨[(0, x0), (1, x1), (2, x2), (3, x3)], [], H, []⟩) := run_S (F := w_zSw_S1.1) rfl rfl
theorem e_laws_eqStringS (x0 x1 : PV) : EP A n_laws_eqStringS [x0, x1] = endP [.tmp 4] (EV A c_laws_eqStringS ⟨[(0, x0), (1, x1)], [], [], []⟩) := run_P (F := w_laws_eqStringS.1) rfl rfl
theorem e_laws_eqUpS (x0 x1 : PV) : EP A n_laws_eqUpS [x0, x1] = endP [.tmp 4] (EV A c_laws_eqUpS ⟨[(0, x0), (1, x1)], [], [], []⟩) := run_P (F := w_laws_eqUpS.1) rfl rfl
theorem e_laws_eqNodeS (x0 x1 : PV) : EP A n_laws_eqNodeS [x0, x1] = endP [.tmp 4] (EV A c_laws_eqNodeS ⟨[(0, x0), (1, x1)], [], [], []⟩) := run_P (F := w_laws_eqNodeS.1) rfl rfl
theorem s_laws_markIntS (x0 x1 : PV) (H : Heap) : ES A n_laws_markIntS [x0, x1] H = endS H.length [.tmp 4] (EV A c_laws_markIntS ⟨[(0, x0), (1, x1)], [], H, []⟩) := run_S (F := w_laws_markIntS.1) rfl rfl
theorem e_laws_szNode (x0 x1 : PV) : EP A n_laws_szNode [x0, x1] = endP [.tmp 4] (EV A c_laws_szNode ⟨[(0, x0), (1, x1)], [], [], []⟩) := run_P (F := w_laws_szNode.1) rfl rfl
theorem e_spec_l3kid (x0 x1 x2 : PV) : EP A n_spec_l3kid [x0, x1, x2] = endP [.tmp 6] (EV A c_spec_l3kid ⟨[(0, x0), (1, x1), (2, x2)], [], [], []⟩) := run_P (F := w_spec_l3kid.1) rfl rfl
theorem e_spec_l3bare (x0 x1 x2 x3 x4 x5 : PV) : EP A n_spec_l3bare [x0, x1, x2, x3, x4, x5] = endP [.tmp 12] (EV A c_spec_l3bare ⟨[(0, x0), (1, x1), (2, x2), (3, x3), (4, x4), (5, x5)], [], [], []⟩) := run_P (F := w_spec_l3bare.1) rfl rfl
theorem e_spec_l3exprs (x0 x1 x2 x3 : PV) : EP A n_spec_l3exprs [x0, x1, x2, x3] = endP [.tmp 8] (EV A c_spec_l3exprs ⟨[(0, x0), (1, x1), (2, x2), (3, x3)], [], [], []⟩) := run_P (F := w_spec_l3exprs.1) rfl rfl
theorem e_spec_l3target (x0 : PV) : EP A n_spec_l3target [x0] = endP [.tmp 2] (EV A c_spec_l3target ⟨[(0, x0)], [], [], []⟩) := run_P (F := w_spec_l3target.1) rfl rfl
theorem e_spec_l3many (x0 : PV) : EP A n_spec_l3many [x0] = endP [.tmp 2] (EV A c_spec_l3many ⟨[(0, x0)], [], [], []⟩) := run_P (F := w_spec_l3many.1) rfl rfl
theorem e_spec_l3place (x0 x1 : PV) : EP A n_spec_l3place [x0, x1] = endP [.tmp 4] (EV A c_spec_l3place ⟨[(0, x0), (1, x1)], [], [], []⟩) := run_P (F := w_spec_l3place.1) rfl rfl
theorem e_spec_l3declares (x0 x1 : PV) : EP A n_spec_l3declares [x0, x1] = endP [.tmp 4] (EV A c_spec_l3declares ⟨[(0, x0), (1, x1)], [], [], []⟩) := run_P (F := w_spec_l3declares.1) rfl rfl
theorem e_laws_toUp (x0 : PV) : EP A n_laws_toUp [x0] = endP [.cell 2 true 2] (EV A c_laws_toUp ⟨[(0, x0)], [], [], []⟩) := run_P (F := w_laws_toUp.1) rfl rfl
theorem s_laws_toNode (x0 : PV) (H : Heap) : ES A n_laws_toNode [x0] H = endS H.length [.cell 2 true 8] (EV A c_laws_toNode ⟨[(0, x0)], [], H, []⟩) := run_S (F := w_laws_toNode.1) rfl rfl
theorem e_laws_eqUp (x0 x1 : PV) : EP A n_laws_eqUp [x0, x1] = endP [.tmp 4] (EV A c_laws_eqUp ⟨[(0, x0), (1, x1)], [], [], []⟩) := run_P (F := w_laws_eqUp.1) rfl rfl
theorem e_laws_eqNode (x0 x1 : PV) : EP A n_laws_eqNode [x0, x1] = endP [.tmp 4] (EV A c_laws_eqNode ⟨[(0, x0), (1, x1)], [], [], []⟩) := run_P (F := w_laws_eqNode.1) rfl rfl
theorem e_laws_szIntS (x0 x1 : PV) : EP A n_laws_szIntS [x0, x1] = endP [.tmp 4] (EV A c_laws_szIntS ⟨[(0, x0), (1, x1)], [], [], []⟩) := run_P (F := w_laws_szIntS.1) rfl rfl
theorem e_spec_l3expr (x0 : PV) : EP A n_spec_l3expr [x0] = endP [.tmp 2] (EV A c_spec_l3expr ⟨[(0, x0)], [], [], []⟩) := run_P (F := w_spec_l3expr.1) rfl rfl
theorem s_laws_toIntS (x0 : PV) (H : Heap) : ES A n_laws_toIntS [x0] H = endS H.length [.tmp 2] (EV A c_laws_toIntS ⟨[(0, x0)], [], H, []⟩) := run_S (F := w_laws_toIntS.1) rfl rfl
theorem e_laws_sameFloat (x0 x1 : PV) : EP A n_laws_sameFloat [x0, x1] = endP [.tmp 4] (EV A c_laws_sameFloat ⟨[(0, x0), (1, x1)], [], [], []⟩) := run_P (F := w_laws_sameFloat.1) rfl rfl
theorem e_laws_eqIntS (x0 x1 : PV) : EP A n_laws_eqIntS [x0, x1] = endP [.tmp 4] (EV A c_laws_eqIntS ⟨[(0, x0), (1, x1)], [], [], []⟩) := run_P (F := w_laws_eqIntS.1) rfl rfl
def u_laws_FnExactCaptured := skC (c := c_laws_FnExactCaptured) (R := R_laws_FnExactCaptured) (B := B_laws_FnExactCaptured) rfl rfl (fun R B => by cbv)
def rr_laws_FnExactCaptured := rrOf (P := A) (c := c_laws_FnExactCaptured) (R := R_laws_FnExactCaptured) rfl rfl (by cbv) (fun P R => by cbv)
def u_laws_szUnit := skC (c := c_laws_szUnit) (R := R_laws_szUnit) (B := B_laws_szUnit) rfl rfl (fun R B => by cbv)
def rr_laws_szUnit := rrOf (P := A) (c := c_laws_szUnit) (R := R_laws_szUnit) rfl rfl (by cbv) (fun P R => by cbv)
def u_spec_CheckUnit := skC (c := c_spec_CheckUnit) (R := R_spec_CheckUnit) (B := B_spec_CheckUnit) rfl rfl (fun R B => by cbv)
def rr_spec_CheckUnit := rrOf (P := A) (c := c_spec_CheckUnit) (R := R_spec_CheckUnit) rfl rfl (by cbv) (fun P R => by cbv)
def u_laws_toUnit := skC (c := c_laws_toUnit) (R := R_laws_toUnit) (B := B_laws_toUnit) rfl rfl (fun R B => by cbv)
def rr_laws_toUnit := rrOf (P := A) (c := c_laws_toUnit) (R := R_laws_toUnit) rfl rfl (by cbv) (fun P R => by cbv)
def u_zCU := skC (c := c_zCU) (R := R_zCU) (B := B_zCU) rfl rfl (fun R B => by cbv)
def ub_zCU_0 := skB (c := c_zCU) (R := R_zCU) (B := B_zCU) (j := 0) rfl rfl (fun R B => by cbv)
def ub_zCU_1 := skB (c := c_zCU) (R := R_zCU) (B := B_zCU) (j := 1) rfl rfl (fun R B => by cbv)
def ub_zCU_2 := skB (c := c_zCU) (R := R_zCU) (B := B_zCU) (j := 2) rfl rfl (fun R B => by cbv)
def ub_zCU_3 := skB (c := c_zCU) (R := R_zCU) (B := B_zCU) (j := 3) rfl rfl (fun R B => by cbv)
def ub_zCU_4 := skB (c := c_zCU) (R := R_zCU) (B := B_zCU) (j := 4) rfl rfl (fun R B => by cbv)
def ub_zCU_5 := skB (c := c_zCU) (R := R_zCU) (B := B_zCU) (j := 5) rfl rfl (fun R B => by cbv)
def ub_zCU_6 := skB (c := c_zCU) (R := R_zCU) (B := B_zCU) (j := 6) rfl rfl (fun R B => by cbv)
def ub_zCU_7 := skB (c := c_zCU) (R := R_zCU) (B := B_zCU) (j := 7) rfl rfl (fun R B => by cbv)
def ub_zCU_8 := skB (c := c_zCU) (R := R_zCU) (B := B_zCU) (j := 8) rfl rfl (fun R B => by cbv)
def ub_zCU_9 := skB (c := c_zCU) (R := R_zCU) (B := B_zCU) (j := 9) rfl rfl (fun R B => by cbv)
def ub_zCU_10 := skB (c := c_zCU) (R := R_zCU) (B := B_zCU) (j := 10) rfl rfl (fun R B => by cbv)
def ub_zCU_11 := skB (c := c_zCU) (R := R_zCU) (B := B_zCU) (j := 11) rfl rfl (fun R B => by cbv)
def ub_zCU_12 := skB (c := c_zCU) (R := R_zCU) (B := B_zCU) (j := 12) rfl rfl (fun R B => by cbv)
def ub_zCU_13 := skB (c := c_zCU) (R := R_zCU) (B := B_zCU) (j := 13) rfl rfl (fun R B => by cbv)
def ub_zCU_14 := skB (c := c_zCU) (R := R_zCU) (B := B_zCU) (j := 14) rfl rfl (fun R B => by cbv)
def ub_zCU_15 := skB (c := c_zCU) (R := R_zCU) (B := B_zCU) (j := 15) rfl rfl (fun R B => by cbv)
def ub_zCU_16 := skB (c := c_zCU) (R := R_zCU) (B := B_zCU) (j := 16) rfl rfl (fun R B => by cbv)
def ub_zCU_17 := skB (c := c_zCU) (R := R_zCU) (B := B_zCU) (j := 17) rfl rfl (fun R B => by cbv)
def ub_zCU_18 := skB (c := c_zCU) (R := R_zCU) (B := B_zCU) (j := 18) rfl rfl (fun R B => by cbv)
def ub_zCU_19 := skB (c := c_zCU) (R := R_zCU) (B := B_zCU) (j := 19) rfl rfl (fun R B => by cbv)
def ub_zCU_20 := skB (c := c_zCU) (R := R_zCU) (B := B_zCU) (j := 20) rfl rfl (fun R B => by cbv)
def rr_zCU := rrOf (P := A) (c := c_zCU) (R := R_zCU) rfl rfl (by cbv) (fun P R => by cbv)
def u_laws_eqUnit := skC (c := c_laws_eqUnit) (R := R_laws_eqUnit) (B := B_laws_eqUnit) rfl rfl (fun R B => by cbv)
def rr_laws_eqUnit := rrOf (P := A) (c := c_laws_eqUnit) (R := R_laws_eqUnit) rfl rfl (by cbv) (fun P R => by cbv)
def u_spec_Captured := skC (c := c_spec_Captured) (R := R_spec_Captured) (B := B_spec_Captured) rfl rfl (fun R B => by cbv)
def rr_spec_Captured := rrOf (P := A) (c := c_spec_Captured) (R := R_spec_Captured) rfl rfl (by cbv) (fun P R => by cbv)
def u_impl_Captured := skC (c := c_impl_Captured) (R := R_impl_Captured) (B := B_impl_Captured) rfl rfl (fun R B => by cbv)
def rr_impl_Captured := rrOf (P := A) (c := c_impl_Captured) (R := R_impl_Captured) rfl rfl (by cbv) (fun P R => by cbv)
def u_laws_eqBoolS := skC (c := c_laws_eqBoolS) (R := R_laws_eqBoolS) (B := B_laws_eqBoolS) rfl rfl (fun R B => by cbv)
def ub_laws_eqBoolS_0 := skB (c := c_laws_eqBoolS) (R := R_laws_eqBoolS) (B := B_laws_eqBoolS) (j := 0) rfl rfl (fun R B => by cbv)
def rr_laws_eqBoolS := rrOf (P := A) (c := c_laws_eqBoolS) (R := R_laws_eqBoolS) rfl rfl (by cbv) (fun P R => by cbv)
def u_laws_markUnit := skC (c := c_laws_markUnit) (R := R_laws_markUnit) (B := B_laws_markUnit) rfl rfl (fun R B => by cbv)
def rr_laws_markUnit := rrOf (P := A) (c := c_laws_markUnit) (R := R_laws_markUnit) rfl rfl (by cbv) (fun P R => by cbv)
def u_laws_markBoolS := skC (c := c_laws_markBoolS) (R := R_laws_markBoolS) (B := B_laws_markBoolS) rfl rfl (fun R B => by cbv)
def ub_laws_markBoolS_0 := skB (c := c_laws_markBoolS) (R := R_laws_markBoolS) (B := B_laws_markBoolS) (j := 0) rfl rfl (fun R B => by cbv)
def rr_laws_markBoolS := rrOf (P := A) (c := c_laws_markBoolS) (R := R_laws_markBoolS) rfl rfl (by cbv) (fun P R => by cbv)
def u_laws_heldBoolS := skC (c := c_laws_heldBoolS) (R := R_laws_heldBoolS) (B := B_laws_heldBoolS) rfl rfl (fun R B => by cbv)
def ub_laws_heldBoolS_0 := skB (c := c_laws_heldBoolS) (R := R_laws_heldBoolS) (B := B_laws_heldBoolS) (j := 0) rfl rfl (fun R B => by cbv)
def rr_laws_heldBoolS := rrOf (P := A) (c := c_laws_heldBoolS) (R := R_laws_heldBoolS) rfl rfl (by cbv) (fun P R => by cbv)
def u_laws_szFnS := skC (c := c_laws_szFnS) (R := R_laws_szFnS) (B := B_laws_szFnS) rfl rfl (fun R B => by cbv)
def ub_laws_szFnS_0 := skB (c := c_laws_szFnS) (R := R_laws_szFnS) (B := B_laws_szFnS) (j := 0) rfl rfl (fun R B => by cbv)
def rr_laws_szFnS := rrOf (P := A) (c := c_laws_szFnS) (R := R_laws_szFnS) rfl rfl (by cbv) (fun P R => by cbv)
def u_z3f := skC (c := c_z3f) (R := R_z3f) (B := B_z3f) rfl rfl (fun R B => by cbv)
def ub_z3f_0 := skB (c := c_z3f) (R := R_z3f) (B := B_z3f) (j := 0) rfl rfl (fun R B => by cbv)
def ub_z3f_1 := skB (c := c_z3f) (R := R_z3f) (B := B_z3f) (j := 1) rfl rfl (fun R B => by cbv)
def ub_z3f_2 := skB (c := c_z3f) (R := R_z3f) (B := B_z3f) (j := 2) rfl rfl (fun R B => by cbv)
def ub_z3f_3 := skB (c := c_z3f) (R := R_z3f) (B := B_z3f) (j := 3) rfl rfl (fun R B => by cbv)
def rr_z3f := rrOf (P := A) (c := c_z3f) (R := R_z3f) rfl rfl (by cbv) (fun P R => by cbv)
def u_z3s := skC (c := c_z3s) (R := R_z3s) (B := B_z3s) rfl rfl (fun R B => by cbv)
def ub_z3s_0 := skB (c := c_z3s) (R := R_z3s) (B := B_z3s) (j := 0) rfl rfl (fun R B => by cbv)
def ub_z3s_1 := skB (c := c_z3s) (R := R_z3s) (B := B_z3s) (j := 1) rfl rfl (fun R B => by cbv)
def ub_z3s_2 := skB (c := c_z3s) (R := R_z3s) (B := B_z3s) (j := 2) rfl rfl (fun R B => by cbv)
def ub_z3s_3 := skB (c := c_z3s) (R := R_z3s) (B := B_z3s) (j := 3) rfl rfl (fun R B => by cbv)
def rr_z3s := rrOf (P := A) (c := c_z3s) (R := R_z3s) rfl rfl (by cbv) (fun P R => by cbv)
def u_z3t := skC (c := c_z3t) (R := R_z3t) (B := B_z3t) rfl rfl (fun R B => by cbv)
def ub_z3t_0 := skB (c := c_z3t) (R := R_z3t) (B := B_z3t) (j := 0) rfl rfl (fun R B => by cbv)
def ub_z3t_1 := skB (c := c_z3t) (R := R_z3t) (B := B_z3t) (j := 1) rfl rfl (fun R B => by cbv)
def ub_z3t_2 := skB (c := c_z3t) (R := R_z3t) (B := B_z3t) (j := 2) rfl rfl (fun R B => by cbv)
def ub_z3t_3 := skB (c := c_z3t) (R := R_z3t) (B := B_z3t) (j := 3) rfl rfl (fun R B => by cbv)
def ub_z3t_4 := skB (c := c_z3t) (R := R_z3t) (B := B_z3t) (j := 4) rfl rfl (fun R B => by cbv)
def ub_z3t_5 := skB (c := c_z3t) (R := R_z3t) (B := B_z3t) (j := 5) rfl rfl (fun R B => by cbv)
def ub_z3t_6 := skB (c := c_z3t) (R := R_z3t) (B := B_z3t) (j := 6) rfl rfl (fun R B => by cbv)
def ub_z3t_7 := skB (c := c_z3t) (R := R_z3t) (B := B_z3t) (j := 7) rfl rfl (fun R B => by cbv)
def rr_z3t := rrOf (P := A) (c := c_z3t) (R := R_z3t) rfl rfl (by cbv) (fun P R => by cbv)
def u_laws_toFnS := skC (c := c_laws_toFnS) (R := R_laws_toFnS) (B := B_laws_toFnS) rfl rfl (fun R B => by cbv)
def ub_laws_toFnS_0 := skB (c := c_laws_toFnS) (R := R_laws_toFnS) (B := B_laws_toFnS) (j := 0) rfl rfl (fun R B => by cbv)
def rr_laws_toFnS := rrOf (P := A) (c := c_laws_toFnS) (R := R_laws_toFnS) rfl rfl (by cbv) (fun P R => by cbv)
def u_impl_fnOk := skC (c := c_impl_fnOk) (R := R_impl_fnOk) (B := B_impl_fnOk) rfl rfl (fun R B => by cbv)
def ub_impl_fnOk_0 := skB (c := c_impl_fnOk) (R := R_impl_fnOk) (B := B_impl_fnOk) (j := 0) rfl rfl (fun R B => by cbv)
def rr_impl_fnOk := rrOf (P := A) (c := c_impl_fnOk) (R := R_impl_fnOk) rfl rfl (by cbv) (fun P R => by cbv)
def u_zNo := skC (c := c_zNo) (R := R_zNo) (B := B_zNo) rfl rfl (fun R B => by cbv)
def ub_zNo_0 := skB (c := c_zNo) (R := R_zNo) (B := B_zNo) (j := 0) rfl rfl (fun R B => by cbv)
def ub_zNo_1 := skB (c := c_zNo) (R := R_zNo) (B := B_zNo) (j := 1) rfl rfl (fun R B => by cbv)
def rr_zNo := rrOf (P := A) (c := c_zNo) (R := R_zNo) rfl rfl (by cbv) (fun P R => by cbv)
def u_impl_scopes := skC (c := c_impl_scopes) (R := R_impl_scopes) (B := B_impl_scopes) rfl rfl (fun R B => by cbv)
def ub_impl_scopes_0 := skB (c := c_impl_scopes) (R := R_impl_scopes) (B := B_impl_scopes) (j := 0) rfl rfl (fun R B => by cbv)
def rr_impl_scopes := rrOf (P := A) (c := c_impl_scopes) (R := R_impl_scopes) rfl rfl (by cbv) (fun P R => by cbv)
def u_zCU_S1 := skC (c := c_zCU_S1) (R := R_zCU_S1) (B := B_zCU_S1) rfl rfl (fun R B => by cbv)
def rr_zCU_S1 := rrOf (P := A) (c := c_zCU_S1) (R := R_zCU_S1) rfl rfl (by cbv) (fun P R => by cbv)
def u_impl_declares := skC (c := c_impl_declares) (R := R_impl_declares) (B := B_impl_declares) rfl rfl (fun R B => by cbv)
def rr_impl_declares := rrOf (P := A) (c := c_impl_declares) (R := R_impl_declares) rfl rfl (by cbv) (fun P R => by cbv)
def u_zCU_S2 := skC (c := c_zCU_S2) (R := R_zCU_S2) (B := B_zCU_S2) rfl rfl (fun R B => by cbv)
def rr_zCU_S2 := rrOf (P := A) (c := c_zCU_S2) (R := R_zCU_S2) rfl rfl (by cbv) (fun P R => by cbv)
def u_zCU_S3 := skC (c := c_zCU_S3) (R := R_zCU_S3) (B := B_zCU_S3) rfl rfl (fun R B => by cbv)
def ub_zCU_S3_0 := skB (c := c_zCU_S3) (R := R_zCU_S3) (B := B_zCU_S3) (j := 0) rfl rfl (fun R B => by cbv)
def rr_zCU_S3 := rrOf (P := A) (c := c_zCU_S3) (R := R_zCU_S3) rfl rfl (by cbv) (fun P R => by cbv)
def u_laws_eqFnS := skC (c := c_laws_eqFnS) (R := R_laws_eqFnS) (B := B_laws_eqFnS) rfl rfl (fun R B => by cbv)
def ub_laws_eqFnS_0 := skB (c := c_laws_eqFnS) (R := R_laws_eqFnS) (B := B_laws_eqFnS) (j := 0) rfl rfl (fun R B => by cbv)
def rr_laws_eqFnS := rrOf (P := A) (c := c_laws_eqFnS) (R := R_laws_eqFnS) rfl rfl (by cbv) (fun P R => by cbv)
def u_spec_l8captured := skC (c := c_spec_l8captured) (R := R_spec_l8captured) (B := B_spec_l8captured) rfl rfl (fun R B => by cbv)
def ub_spec_l8captured_0 := skB (c := c_spec_l8captured) (R := R_spec_l8captured) (B := B_spec_l8captured) (j := 0) rfl rfl (fun R B => by cbv)
def ub_spec_l8captured_1 := skB (c := c_spec_l8captured) (R := R_spec_l8captured) (B := B_spec_l8captured) (j := 1) rfl rfl (fun R B => by cbv)
def rr_spec_l8captured := rrOf (P := A) (c := c_spec_l8captured) (R := R_spec_l8captured) rfl rfl (by cbv) (fun P R => by cbv)
def u_impl_captured := skC (c := c_impl_captured) (R := R_impl_captured) (B := B_impl_captured) rfl rfl (fun R B => by cbv)
def ub_impl_captured_0 := skB (c := c_impl_captured) (R := R_impl_captured) (B := B_impl_captured) (j := 0) rfl rfl (fun R B => by cbv)
def ub_impl_captured_1 := skB (c := c_impl_captured) (R := R_impl_captured) (B := B_impl_captured) (j := 1) rfl rfl (fun R B => by cbv)
def rr_impl_captured := rrOf (P := A) (c := c_impl_captured) (R := R_impl_captured) rfl rfl (by cbv) (fun P R => by cbv)
def u_laws_markFnS := skC (c := c_laws_markFnS) (R := R_laws_markFnS) (B := B_laws_markFnS) rfl rfl (fun R B => by cbv)
def ub_laws_markFnS_0 := skB (c := c_laws_markFnS) (R := R_laws_markFnS) (B := B_laws_markFnS) (j := 0) rfl rfl (fun R B => by cbv)
def rr_laws_markFnS := rrOf (P := A) (c := c_laws_markFnS) (R := R_laws_markFnS) rfl rfl (by cbv) (fun P R => by cbv)
def u_laws_szFn := skC (c := c_laws_szFn) (R := R_laws_szFn) (B := B_laws_szFn) rfl rfl (fun R B => by cbv)
def rr_laws_szFn := rrOf (P := A) (c := c_laws_szFn) (R := R_laws_szFn) rfl rfl (by cbv) (fun P R => by cbv)
def u_spec_l3fault := skC (c := c_spec_l3fault) (R := R_spec_l3fault) (B := B_spec_l3fault) rfl rfl (fun R B => by cbv)
def rr_spec_l3fault := rrOf (P := A) (c := c_spec_l3fault) (R := R_spec_l3fault) rfl rfl (by cbv) (fun P R => by cbv)
def u_spec_l3head := skC (c := c_spec_l3head) (R := R_spec_l3head) (B := B_spec_l3head) rfl rfl (fun R B => by cbv)
def ub_spec_l3head_0 := skB (c := c_spec_l3head) (R := R_spec_l3head) (B := B_spec_l3head) (j := 0) rfl rfl (fun R B => by cbv)
def rr_spec_l3head := rrOf (P := A) (c := c_spec_l3head) (R := R_spec_l3head) rfl rfl (by cbv) (fun P R => by cbv)
def u_spec_l3shape := skC (c := c_spec_l3shape) (R := R_spec_l3shape) (B := B_spec_l3shape) rfl rfl (fun R B => by cbv)
def ub_spec_l3shape_0 := skB (c := c_spec_l3shape) (R := R_spec_l3shape) (B := B_spec_l3shape) (j := 0) rfl rfl (fun R B => by cbv)
def rr_spec_l3shape := rrOf (P := A) (c := c_spec_l3shape) (R := R_spec_l3shape) rfl rfl (by cbv) (fun P R => by cbv)
def u_spec_l3grow := skC (c := c_spec_l3grow) (R := R_spec_l3grow) (B := B_spec_l3grow) rfl rfl (fun R B => by cbv)
def ub_spec_l3grow_0 := skB (c := c_spec_l3grow) (R := R_spec_l3grow) (B := B_spec_l3grow) (j := 0) rfl rfl (fun R B => by cbv)
def ub_spec_l3grow_1 := skB (c := c_spec_l3grow) (R := R_spec_l3grow) (B := B_spec_l3grow) (j := 1) rfl rfl (fun R B => by cbv)
def ub_spec_l3grow_2 := skB (c := c_spec_l3grow) (R := R_spec_l3grow) (B := B_spec_l3grow) (j := 2) rfl rfl (fun R B => by cbv)
def ub_spec_l3grow_3 := skB (c := c_spec_l3grow) (R := R_spec_l3grow) (B := B_spec_l3grow) (j := 3) rfl rfl (fun R B => by cbv)
def rr_spec_l3grow := rrOf (P := A) (c := c_spec_l3grow) (R := R_spec_l3grow) rfl rfl (by cbv) (fun P R => by cbv)
def u_spec_l3refs := skC (c := c_spec_l3refs) (R := R_spec_l3refs) (B := B_spec_l3refs) rfl rfl (fun R B => by cbv)
def ub_spec_l3refs_0 := skB (c := c_spec_l3refs) (R := R_spec_l3refs) (B := B_spec_l3refs) (j := 0) rfl rfl (fun R B => by cbv)
def rr_spec_l3refs := rrOf (P := A) (c := c_spec_l3refs) (R := R_spec_l3refs) rfl rfl (by cbv) (fun P R => by cbv)
def u_spec_l3inloop := skC (c := c_spec_l3inloop) (R := R_spec_l3inloop) (B := B_spec_l3inloop) rfl rfl (fun R B => by cbv)
def ub_spec_l3inloop_0 := skB (c := c_spec_l3inloop) (R := R_spec_l3inloop) (B := B_spec_l3inloop) (j := 0) rfl rfl (fun R B => by cbv)
def rr_spec_l3inloop := rrOf (P := A) (c := c_spec_l3inloop) (R := R_spec_l3inloop) rfl rfl (by cbv) (fun P R => by cbv)
def u_spec_l3ups := skC (c := c_spec_l3ups) (R := R_spec_l3ups) (B := B_spec_l3ups) rfl rfl (fun R B => by cbv)
def ub_spec_l3ups_0 := skB (c := c_spec_l3ups) (R := R_spec_l3ups) (B := B_spec_l3ups) (j := 0) rfl rfl (fun R B => by cbv)
def rr_spec_l3ups := rrOf (P := A) (c := c_spec_l3ups) (R := R_spec_l3ups) rfl rfl (by cbv) (fun P R => by cbv)
def u_laws_toFn := skC (c := c_laws_toFn) (R := R_laws_toFn) (B := B_laws_toFn) rfl rfl (fun R B => by cbv)
def rr_laws_toFn := rrOf (P := A) (c := c_laws_toFn) (R := R_laws_toFn) rfl rfl (by cbv) (fun P R => by cbv)
def u_impl_statement := skC (c := c_impl_statement) (R := R_impl_statement) (B := B_impl_statement) rfl rfl (fun R B => by cbv)
def rr_impl_statement := rrOf (P := A) (c := c_impl_statement) (R := R_impl_statement) rfl rfl (by cbv) (fun P R => by cbv)
def u_impl_expression := skC (c := c_impl_expression) (R := R_impl_expression) (B := B_impl_expression) rfl rfl (fun R B => by cbv)
def rr_impl_expression := rrOf (P := A) (c := c_impl_expression) (R := R_impl_expression) rfl rfl (by cbv) (fun P R => by cbv)
def u_zNo_S1 := skC (c := c_zNo_S1) (R := R_zNo_S1) (B := B_zNo_S1) rfl rfl (fun R B => by cbv)
def rr_zNo_S1 := rrOf (P := A) (c := c_zNo_S1) (R := R_zNo_S1) rfl rfl (by cbv) (fun P R => by cbv)
def u_zNo_S2 := skC (c := c_zNo_S2) (R := R_zNo_S2) (B := B_zNo_S2) rfl rfl (fun R B => by cbv)
def ub_zNo_S2_0 := skB (c := c_zNo_S2) (R := R_zNo_S2) (B := B_zNo_S2) (j := 0) rfl rfl (fun R B => by cbv)
def rr_zNo_S2 := rrOf (P := A) (c := c_zNo_S2) (R := R_zNo_S2) rfl rfl (by cbv) (fun P R => by cbv)
def u_zNo_S3 := skC (c := c_zNo_S3) (R := R_zNo_S3) (B := B_zNo_S3) rfl rfl (fun R B => by cbv)
def rr_zNo_S3 := rrOf (P := A) (c := c_zNo_S3) (R := R_zNo_S3) rfl rfl (by cbv) (fun P R => by cbv)
def u_math_IsNaN := skC (c := c_math_IsNaN) (R := R_math_IsNaN) (B := B_math_IsNaN) rfl rfl (fun R B => by cbv)
def rr_math_IsNaN := rrOf (P := A) (c := c_math_IsNaN) (R := R_math_IsNaN) rfl rfl (by cbv) (fun P R => by cbv)
def u_zSw := skC (c := c_zSw) (R := R_zSw) (B := B_zSw) rfl rfl (fun R B => by cbv)
def ub_zSw_0 := skB (c := c_zSw) (R := R_zSw) (B := B_zSw) (j := 0) rfl rfl (fun R B => by cbv)
def ub_zSw_1 := skB (c := c_zSw) (R := R_zSw) (B := B_zSw) (j := 1) rfl rfl (fun R B => by cbv)
def ub_zSw_2 := skB (c := c_zSw) (R := R_zSw) (B := B_zSw) (j := 2) rfl rfl (fun R B => by cbv)
def ub_zSw_3 := skB (c := c_zSw) (R := R_zSw) (B := B_zSw) (j := 3) rfl rfl (fun R B => by cbv)
def ub_zSw_4 := skB (c := c_zSw) (R := R_zSw) (B := B_zSw) (j := 4) rfl rfl (fun R B => by cbv)
def rr_zSw := rrOf (P := A) (c := c_zSw) (R := R_zSw) rfl rfl (by cbv) (fun P R => by cbv)
def u_laws_eqFn := skC (c := c_laws_eqFn) (R := R_laws_eqFn) (B := B_laws_eqFn) rfl rfl (fun R B => by cbv)
def rr_laws_eqFn := rrOf (P := A) (c := c_laws_eqFn) (R := R_laws_eqFn) rfl rfl (by cbv) (fun P R => by cbv)
def u_laws_markText := skC (c := c_laws_markText) (R := R_laws_markText) (B := B_laws_markText) rfl rfl (fun R B => by cbv)
def ub_laws_markText_0 := skB (c := c_laws_markText) (R := R_laws_markText) (B := B_laws_markText) (j := 0) rfl rfl (fun R B => by cbv)
def rr_laws_markText := rrOf (P := A) (c := c_laws_markText) (R := R_laws_markText) rfl rfl (by cbv) (fun P R => by cbv)
def u_laws_markStringS := skC (c := c_laws_markStringS) (R := R_laws_markStringS) (B := B_laws_markStringS) rfl rfl (fun R B => by cbv)
def ub_laws_markStringS_0 := skB (c := c_laws_markStringS) (R := R_laws_markStringS) (B := B_laws_markStringS) (j := 0) rfl rfl (fun R B => by cbv)
def rr_laws_markStringS := rrOf (P := A) (c := c_laws_markStringS) (R := R_laws_markStringS) rfl rfl (by cbv) (fun P R => by cbv)
def u_laws_markUpS := skC (c := c_laws_markUpS) (R := R_laws_markUpS) (B := B_laws_markUpS) rfl rfl (fun R B => by cbv)
def ub_laws_markUpS_0 := skB (c := c_laws_markUpS) (R := R_laws_markUpS) (B := B_laws_markUpS) (j := 0) rfl rfl (fun R B => by cbv)
def rr_laws_markUpS := rrOf (P := A) (c := c_laws_markUpS) (R := R_laws_markUpS) rfl rfl (by cbv) (fun P R => by cbv)
def u_laws_markNodeS := skC (c := c_laws_markNodeS) (R := R_laws_markNodeS) (B := B_laws_markNodeS) rfl rfl (fun R B => by cbv)
def ub_laws_markNodeS_0 := skB (c := c_laws_markNodeS) (R := R_laws_markNodeS) (B := B_laws_markNodeS) (j := 0) rfl rfl (fun R B => by cbv)
def rr_laws_markNodeS := rrOf (P := A) (c := c_laws_markNodeS) (R := R_laws_markNodeS) rfl rfl (by cbv) (fun P R => by cbv)
def u_laws_szStringS := skC (c := c_laws_szStringS) (R := R_laws_szStringS) (B := B_laws_szStringS) rfl rfl (fun R B => by cbv)
def ub_laws_szStringS_0 := skB (c := c_laws_szStringS) (R := R_laws_szStringS) (B := B_laws_szStringS) (j := 0) rfl rfl (fun R B => by cbv)
def rr_laws_szStringS := rrOf (P := A) (c := c_laws_szStringS) (R := R_laws_szStringS) rfl rfl (by cbv) (fun P R => by cbv)
def u_laws_szUpS := skC (c := c_laws_szUpS) (R := R_laws_szUpS) (B := B_laws_szUpS) rfl rfl (fun R B => by cbv)
def rr_laws_szUpS := rrOf (P := A) (c := c_laws_szUpS) (R := R_laws_szUpS) rfl rfl (by cbv) (fun P R => by cbv)
def u_laws_szNodeS := skC (c := c_laws_szNodeS) (R := R_laws_szNodeS) (B := B_laws_szNodeS) rfl rfl (fun R B => by cbv)
def ub_laws_szNodeS_0 := skB (c := c_laws_szNodeS) (R := R_laws_szNodeS) (B := B_laws_szNodeS) (j := 0) rfl rfl (fun R B => by cbv)
def rr_laws_szNodeS := rrOf (P := A) (c := c_laws_szNodeS) (R := R_laws_szNodeS) rfl rfl (by cbv) (fun P R => by cbv)
def u_spec_l3name := skC (c := c_spec_l3name) (R := R_spec_l3name) (B := B_spec_l3name) rfl rfl (fun R B => by cbv)
def rr_spec_l3name := rrOf (P := A) (c := c_spec_l3name) (R := R_spec_l3name) rfl rfl (by cbv) (fun P R => by cbv)
def u_spec_l3stat := skC (c := c_spec_l3stat) (R := R_spec_l3stat) (B := B_spec_l3stat) rfl rfl (fun R B => by cbv)
def rr_spec_l3stat := rrOf (P := A) (c := c_spec_l3stat) (R := R_spec_l3stat) rfl rfl (by cbv) (fun P R => by cbv)
def u_zSt := skC (c := c_zSt) (R := R_zSt) (B := B_zSt) rfl rfl (fun R B => by cbv)
def ub_zSt_0 := skB (c := c_zSt) (R := R_zSt) (B := B_zSt) (j := 0) rfl rfl (fun R B => by cbv)
def ub_zSt_1 := skB (c := c_zSt) (R := R_zSt) (B := B_zSt) (j := 1) rfl rfl (fun R B => by cbv)
def rr_zSt := rrOf (P := A) (c := c_zSt) (R := R_zSt) rfl rfl (by cbv) (fun P R => by cbv)
def u_zEx := skC (c := c_zEx) (R := R_zEx) (B := B_zEx) rfl rfl (fun R B => by cbv)
def rr_zEx := rrOf (P := A) (c := c_zEx) (R := R_zEx) rfl rfl (by cbv) (fun P R => by cbv)
def u_spec_l3visible := skC (c := c_spec_l3visible) (R := R_spec_l3visible) (B := B_spec_l3visible) rfl rfl (fun R B => by cbv)
def ub_spec_l3visible_0 := skB (c := c_spec_l3visible) (R := R_spec_l3visible) (B := B_spec_l3visible) (j := 0) rfl rfl (fun R B => by cbv)
def ub_spec_l3visible_1 := skB (c := c_spec_l3visible) (R := R_spec_l3visible) (B := B_spec_l3visible) (j := 1) rfl rfl (fun R B => by cbv)
def rr_spec_l3visible := rrOf (P := A) (c := c_spec_l3visible) (R := R_spec_l3visible) rfl rfl (by cbv) (fun P R => by cbv)
def u_laws_toStringS := skC (c := c_laws_toStringS) (R := R_laws_toStringS) (B := B_laws_toStringS) rfl rfl (fun R B => by cbv)
def ub_laws_toStringS_0 := skB (c := c_laws_toStringS) (R := R_laws_toStringS) (B := B_laws_toStringS) (j := 0) rfl rfl (fun R B => by cbv)
def rr_laws_toStringS := rrOf (P := A) (c := c_laws_toStringS) (R := R_laws_toStringS) rfl rfl (by cbv) (fun P R => by cbv)
def u_laws_toUpS := skC (c := c_laws_toUpS) (R := R_laws_toUpS) (B := B_laws_toUpS) rfl rfl (fun R B => by cbv)
def ub_laws_toUpS_0 := skB (c := c_laws_toUpS) (R := R_laws_toUpS) (B := B_laws_toUpS) (j := 0) rfl rfl (fun R B => by cbv)
def rr_laws_toUpS := rrOf (P := A) (c := c_laws_toUpS) (R := R_laws_toUpS) rfl rfl (by cbv) (fun P R => by cbv)
def u_laws_toNodeS := skC (c := c_laws_toNodeS) (R := R_laws_toNodeS) (B := B_laws_toNodeS) rfl rfl (fun R B => by cbv)
def ub_laws_toNodeS_0 := skB (c := c_laws_toNodeS) (R := R_laws_toNodeS) (B := B_laws_toNodeS) (j := 0) rfl rfl (fun R B => by cbv)
def rr_laws_toNodeS := rrOf (P := A) (c := c_laws_toNodeS) (R := R_laws_toNodeS) rfl rfl (by cbv) (fun P R => by cbv)
def u_zSw_S1 := skC (c := c_zSw_S1) (R := R_zSw_S1) (B := B_zSw_S1) rfl rfl (fun R B => by cbv)
def ub_zSw_S1_0 := skB (c := c_zSw_S1) (R := R_zSw_S1) (B := B_zSw_S1) (j := 0) rfl rfl (fun R B => by cbv)
def rr_zSw_S1 := rrOf (P := A) (c := c_zSw_S1) (R := R_zSw_S1) rfl rfl (by cbv) (fun P R => by cbv)
def u_laws_eqStringS := skC (c := c_laws_eqStringS) (R := R_laws_eqStringS) (B := B_laws_eqStringS) rfl rfl (fun R B => by cbv)
def ub_laws_eqStringS_0 := skB (c := c_laws_eqStringS) (R := R_laws_eqStringS) (B := B_laws_eqStringS) (j := 0) rfl rfl (fun R B => by cbv)
def rr_laws_eqStringS := rrOf (P := A) (c := c_laws_eqStringS) (R := R_laws_eqStringS) rfl rfl (by cbv) (fun P R => by cbv)
def u_laws_eqUpS := skC (c := c_laws_eqUpS) (R := R_laws_eqUpS) (B := B_laws_eqUpS) rfl rfl (fun R B => by cbv)
def ub_laws_eqUpS_0 := skB (c := c_laws_eqUpS) (R := R_laws_eqUpS) (B := B_laws_eqUpS) (j := 0) rfl rfl (fun R B => by cbv)
def rr_laws_eqUpS := rrOf (P := A) (c := c_laws_eqUpS) (R := R_laws_eqUpS) rfl rfl (by cbv) (fun P R => by cbv)
def u_laws_eqNodeS := skC (c := c_laws_eqNodeS) (R := R_laws_eqNodeS) (B := B_laws_eqNodeS) rfl rfl (fun R B => by cbv)
def ub_laws_eqNodeS_0 := skB (c := c_laws_eqNodeS) (R := R_laws_eqNodeS) (B := B_laws_eqNodeS) (j := 0) rfl rfl (fun R B => by cbv)
def rr_laws_eqNodeS := rrOf (P := A) (c := c_laws_eqNodeS) (R := R_laws_eqNodeS) rfl rfl (by cbv) (fun P R => by cbv)
def u_laws_markIntS := skC (c := c_laws_markIntS) (R := R_laws_markIntS) (B := B_laws_markIntS) rfl rfl (fun R B => by cbv)
def ub_laws_markIntS_0 := skB (c := c_laws_markIntS) (R := R_laws_markIntS) (B := B_laws_markIntS) (j := 0) rfl rfl (fun R B => by cbv)
def rr_laws_markIntS := rrOf (P := A) (c := c_laws_markIntS) (R := R_laws_markIntS) rfl rfl (by cbv) (fun P R => by cbv)
def u_laws_szNode := skC (c := c_laws_szNode) (R := R_laws_szNode) (B := B_laws_szNode) rfl rfl (fun R B => by cbv)
def rr_laws_szNode := rrOf (P := A) (c := c_laws_szNode) (R := R_laws_szNode) rfl rfl (by cbv) (fun P R => by cbv)
def u_spec_l3kid := skC (c := c_spec_l3kid) (R := R_spec_l3kid) (B := B_spec_l3kid) rfl rfl (fun R B => by cbv)
def rr_spec_l3kid := rrOf (P := A) (c := c_spec_l3kid) (R := R_spec_l3kid) rfl rfl (by cbv) (fun P R => by cbv)
def u_spec_l3bare := skC (c := c_spec_l3bare) (R := R_spec_l3bare) (B := B_spec_l3bare) rfl rfl (fun R B => by cbv)
def rr_spec_l3bare := rrOf (P := A) (c := c_spec_l3bare) (R := R_spec_l3bare) rfl rfl (by cbv) (fun P R => by cbv)
def u_spec_l3exprs := skC (c := c_spec_l3exprs) (R := R_spec_l3exprs) (B := B_spec_l3exprs) rfl rfl (fun R B => by cbv)
def ub_spec_l3exprs_0 := skB (c := c_spec_l3exprs) (R := R_spec_l3exprs) (B := B_spec_l3exprs) (j := 0) rfl rfl (fun R B => by cbv)
def rr_spec_l3exprs := rrOf (P := A) (c := c_spec_l3exprs) (R := R_spec_l3exprs) rfl rfl (by cbv) (fun P R => by cbv)
def u_spec_l3target := skC (c := c_spec_l3target) (R := R_spec_l3target) (B := B_spec_l3target) rfl rfl (fun R B => by cbv)
def rr_spec_l3target := rrOf (P := A) (c := c_spec_l3target) (R := R_spec_l3target) rfl rfl (by cbv) (fun P R => by cbv)
def u_spec_l3many := skC (c := c_spec_l3many) (R := R_spec_l3many) (B := B_spec_l3many) rfl rfl (fun R B => by cbv)
def rr_spec_l3many := rrOf (P := A) (c := c_spec_l3many) (R := R_spec_l3many) rfl rfl (by cbv) (fun P R => by cbv)
def u_spec_l3place := skC (c := c_spec_l3place) (R := R_spec_l3place) (B := B_spec_l3place) rfl rfl (fun R B => by cbv)
def ub_spec_l3place_0 := skB (c := c_spec_l3place) (R := R_spec_l3place) (B := B_spec_l3place) (j := 0) rfl rfl (fun R B => by cbv)
def rr_spec_l3place := rrOf (P := A) (c := c_spec_l3place) (R := R_spec_l3place) rfl rfl (by cbv) (fun P R => by cbv)
def u_spec_l3declares := skC (c := c_spec_l3declares) (R := R_spec_l3declares) (B := B_spec_l3declares) rfl rfl (fun R B => by cbv)
def rr_spec_l3declares := rrOf (P := A) (c := c_spec_l3declares) (R := R_spec_l3declares) rfl rfl (by cbv) (fun P R => by cbv)
def u_laws_toUp := skC (c := c_laws_toUp) (R := R_laws_toUp) (B := B_laws_toUp) rfl rfl (fun R B => by cbv)
def rr_laws_toUp := rrOf (P := A) (c := c_laws_toUp) (R := R_laws_toUp) rfl rfl (by cbv) (fun P R => by cbv)
def u_laws_toNode := skC (c := c_laws_toNode) (R := R_laws_toNode) (B := B_laws_toNode) rfl rfl (fun R B => by cbv)
def rr_laws_toNode := rrOf (P := A) (c := c_laws_toNode) (R := R_laws_toNode) rfl rfl (by cbv) (fun P R => by cbv)
def u_laws_eqUp := skC (c := c_laws_eqUp) (R := R_laws_eqUp) (B := B_laws_eqUp) rfl rfl (fun R B => by cbv)
def rr_laws_eqUp := rrOf (P := A) (c := c_laws_eqUp) (R := R_laws_eqUp) rfl rfl (by cbv) (fun P R => by cbv)
def u_laws_eqNode := skC (c := c_laws_eqNode) (R := R_laws_eqNode) (B := B_laws_eqNode) rfl rfl (fun R B => by cbv)
def rr_laws_eqNode := rrOf (P := A) (c := c_laws_eqNode) (R := R_laws_eqNode) rfl rfl (by cbv) (fun P R => by cbv)
def u_laws_szIntS := skC (c := c_laws_szIntS) (R := R_laws_szIntS) (B := B_laws_szIntS) rfl rfl (fun R B => by cbv)
def rr_laws_szIntS := rrOf (P := A) (c := c_laws_szIntS) (R := R_laws_szIntS) rfl rfl (by cbv) (fun P R => by cbv)
def u_spec_l3expr := skC (c := c_spec_l3expr) (R := R_spec_l3expr) (B := B_spec_l3expr) rfl rfl (fun R B => by cbv)
def rr_spec_l3expr := rrOf (P := A) (c := c_spec_l3expr) (R := R_spec_l3expr) rfl rfl (by cbv) (fun P R => by cbv)
def u_laws_toIntS := skC (c := c_laws_toIntS) (R := R_laws_toIntS) (B := B_laws_toIntS) rfl rfl (fun R B => by cbv)
def ub_laws_toIntS_0 := skB (c := c_laws_toIntS) (R := R_laws_toIntS) (B := B_laws_toIntS) (j := 0) rfl rfl (fun R B => by cbv)
def rr_laws_toIntS := rrOf (P := A) (c := c_laws_toIntS) (R := R_laws_toIntS) rfl rfl (by cbv) (fun P R => by cbv)
def u_laws_sameFloat := skC (c := c_laws_sameFloat) (R := R_laws_sameFloat) (B := B_laws_sameFloat) rfl rfl (fun R B => by cbv)
def rr_laws_sameFloat := rrOf (P := A) (c := c_laws_sameFloat) (R := R_laws_sameFloat) rfl rfl (by cbv) (fun P R => by cbv)
def u_laws_eqIntS := skC (c := c_laws_eqIntS) (R := R_laws_eqIntS) (B := B_laws_eqIntS) rfl rfl (fun R B => by cbv)
def ub_laws_eqIntS_0 := skB (c := c_laws_eqIntS) (R := R_laws_eqIntS) (B := B_laws_eqIntS) (j := 0) rfl rfl (fun R B => by cbv)
def rr_laws_eqIntS := rrOf (P := A) (c := c_laws_eqIntS) (R := R_laws_eqIntS) rfl rfl (by cbv) (fun P R => by cbv)
theorem fits : Fits Try.prog A := by
  intro f F h
  simp only [A] at h
  split at h
  · cases h; exact ⟨Try.f3, _, _, by kernel_rfl, rfl, trT hQ (w_laws_FnExactConstants.2 ▸ v_laws_FnExactConstants.2), by kernel_rfl⟩
  · cases h; exact ⟨Try.f4, _, _, by kernel_rfl, rfl, trT hQ (w_laws_FnExactCheckUnit.2 ▸ v_laws_FnExactCheckUnit.2), by kernel_rfl⟩
  · cases h; exact ⟨Try.f5, _, _, by kernel_rfl, rfl, trT hQ (w_laws_FnExactCaptured.2 ▸ v_laws_FnExactCaptured.2), by kernel_rfl⟩
  · cases h; exact ⟨Try.f6, _, _, by kernel_rfl, rfl, trT hQ (w_laws_szUnit.2 ▸ v_laws_szUnit.2), by kernel_rfl⟩
  · cases h; exact ⟨Try.f7, _, _, by kernel_rfl, rfl, trT hQ (w_spec_CheckUnit.2 ▸ v_spec_CheckUnit.2), by kernel_rfl⟩
  · cases h; exact ⟨Try.f8, _, _, by kernel_rfl, rfl, trT hQ (w_laws_toUnit.2 ▸ v_laws_toUnit.2), by kernel_rfl⟩
  · cases h; exact ⟨Try.f9, _, _, by kernel_rfl, rfl, trT hQ (w_zCU.2 ▸ v_zCU.2), by kernel_rfl⟩
  · cases h; exact ⟨Try.f10, _, _, by kernel_rfl, rfl, trT hQ (w_laws_eqFault.2 ▸ v_laws_eqFault.2), by kernel_rfl⟩
  · cases h; exact ⟨Try.f11, _, _, by kernel_rfl, rfl, trT hQ (w_laws_eqUnit.2 ▸ v_laws_eqUnit.2), by kernel_rfl⟩
  · cases h; exact ⟨Try.f12, _, _, by kernel_rfl, rfl, trT hQ (w_spec_Captured.2 ▸ v_spec_Captured.2), by kernel_rfl⟩
  · cases h; exact ⟨Try.f13, _, _, by kernel_rfl, rfl, trT hQ (w_impl_Captured.2 ▸ v_impl_Captured.2), by kernel_rfl⟩
  · cases h; exact ⟨Try.f14, _, _, by kernel_rfl, rfl, trT hQ (w_laws_eqBoolS.2 ▸ v_laws_eqBoolS.2), by kernel_rfl⟩
  · cases h; exact ⟨Try.f15, _, _, by kernel_rfl, rfl, trT hQ (w_laws_markUnit.2 ▸ v_laws_markUnit.2), by kernel_rfl⟩
  · cases h; exact ⟨Try.f16, _, _, by kernel_rfl, rfl, trT hQ (w_laws_markBoolS.2 ▸ v_laws_markBoolS.2), by kernel_rfl⟩
  · cases h; exact ⟨Try.f17, _, _, by kernel_rfl, rfl, trT hQ (w_laws_heldBoolS.2 ▸ v_laws_heldBoolS.2), by kernel_rfl⟩
  · cases h; exact ⟨Try.f18, _, _, by kernel_rfl, rfl, trT hQ (w_laws_szFnS.2 ▸ v_laws_szFnS.2), by kernel_rfl⟩
  · cases h; exact ⟨Try.f19, _, _, by kernel_rfl, rfl, trT hQ (w_z3f.2 ▸ v_z3f.2), by kernel_rfl⟩
  · cases h; exact ⟨Try.f20, _, _, by kernel_rfl, rfl, trT hQ (w_z3s.2 ▸ v_z3s.2), by kernel_rfl⟩
  · cases h; exact ⟨Try.f21, _, _, by kernel_rfl, rfl, trT hQ (w_z3t.2 ▸ v_z3t.2), by kernel_rfl⟩
  · cases h; exact ⟨Try.f22, _, _, by kernel_rfl, rfl, trT hQ (w_laws_toFnS.2 ▸ v_laws_toFnS.2), by kernel_rfl⟩
  · cases h; exact ⟨Try.f23, _, _, by kernel_rfl, rfl, trT hQ (w_impl_fnOk.2 ▸ v_impl_fnOk.2), by kernel_rfl⟩
  · cases h; exact ⟨Try.f24, _, _, by kernel_rfl, rfl, trT hQ (w_zNo.2 ▸ v_zNo.2), by kernel_rfl⟩
  · cases h; exact ⟨Try.f25, _, _, by kernel_rfl, rfl, trT hQ (w_impl_scopes.2 ▸ v_impl_scopes.2), by kernel_rfl⟩
  · cases h; exact ⟨Try.f26, _, _, by kernel_rfl, rfl, trT hQ (w_zCU_S1.2 ▸ v_zCU_S1.2), by kernel_rfl⟩
  · cases h; exact ⟨Try.f27, _, _, by kernel_rfl, rfl, trT hQ (w_impl_declares.2 ▸ v_impl_declares.2), by kernel_rfl⟩
  · cases h; exact ⟨Try.f28, _, _, by kernel_rfl, rfl, trT hQ (w_zCU_S2.2 ▸ v_zCU_S2.2), by kernel_rfl⟩
  · cases h; exact ⟨Try.f29, _, _, by kernel_rfl, rfl, trT hQ (w_zCU_S3.2 ▸ v_zCU_S3.2), by kernel_rfl⟩
  · cases h; exact ⟨Try.f30, _, _, by kernel_rfl, rfl, trT hQ (w_laws_eqFnS.2 ▸ v_laws_eqFnS.2), by kernel_rfl⟩
  · cases h; exact ⟨Try.f31, _, _, by kernel_rfl, rfl, trT hQ (w_spec_l8captured.2 ▸ v_spec_l8captured.2), by kernel_rfl⟩
  · cases h; exact ⟨Try.f32, _, _, by kernel_rfl, rfl, trT hQ (w_impl_captured.2 ▸ v_impl_captured.2), by kernel_rfl⟩
  · cases h; exact ⟨Try.f33, _, _, by kernel_rfl, rfl, trT hQ (w_laws_markFnS.2 ▸ v_laws_markFnS.2), by kernel_rfl⟩
  · cases h; exact ⟨Try.f34, _, _, by kernel_rfl, rfl, trT hQ (w_laws_szFn.2 ▸ v_laws_szFn.2), by kernel_rfl⟩
  · cases h; exact ⟨Try.f35, _, _, by kernel_rfl, rfl, trT hQ (w_spec_l3fault.2 ▸ v_spec_l3fault.2), by kernel_rfl⟩
  · cases h; exact ⟨Try.f36, _, _, by kernel_rfl, rfl, trT hQ (w_spec_l3head.2 ▸ v_spec_l3head.2), by kernel_rfl⟩
  · cases h; exact ⟨Try.f37, _, _, by kernel_rfl, rfl, trT hQ (w_spec_l3shape.2 ▸ v_spec_l3shape.2), by kernel_rfl⟩
  · cases h; exact ⟨Try.f38, _, _, by kernel_rfl, rfl, trT hQ (w_spec_l3grow.2 ▸ v_spec_l3grow.2), by kernel_rfl⟩
  · cases h; exact ⟨Try.f39, _, _, by kernel_rfl, rfl, trT hQ (w_spec_l3refs.2 ▸ v_spec_l3refs.2), by kernel_rfl⟩
  · cases h; exact ⟨Try.f40, _, _, by kernel_rfl, rfl, trT hQ (w_spec_l3inloop.2 ▸ v_spec_l3inloop.2), by kernel_rfl⟩
  · cases h; exact ⟨Try.f41, _, _, by kernel_rfl, rfl, trT hQ (w_spec_l3ups.2 ▸ v_spec_l3ups.2), by kernel_rfl⟩
  · cases h; exact ⟨Try.f42, _, _, by kernel_rfl, rfl, trT hQ (w_laws_toFn.2 ▸ v_laws_toFn.2), by kernel_rfl⟩
  · cases h; exact ⟨Try.f43, _, _, by kernel_rfl, rfl, trT hQ (w_impl_statement.2 ▸ v_impl_statement.2), by kernel_rfl⟩
  · cases h; exact ⟨Try.f44, _, _, by kernel_rfl, rfl, trT hQ (w_impl_expression.2 ▸ v_impl_expression.2), by kernel_rfl⟩
  · cases h; exact ⟨Try.f45, _, _, by kernel_rfl, rfl, trT hQ (w_zNo_S1.2 ▸ v_zNo_S1.2), by kernel_rfl⟩
  · cases h; exact ⟨Try.f46, _, _, by kernel_rfl, rfl, trT hQ (w_zNo_S2.2 ▸ v_zNo_S2.2), by kernel_rfl⟩
  · cases h; exact ⟨Try.f47, _, _, by kernel_rfl, rfl, trT hQ (w_zNo_S3.2 ▸ v_zNo_S3.2), by kernel_rfl⟩
  · cases h; exact ⟨Try.f48, _, _, by kernel_rfl, rfl, trT hQ (w_math_IsNaN.2 ▸ v_math_IsNaN.2), by kernel_rfl⟩
  · cases h; exact ⟨Try.f49, _, _, by kernel_rfl, rfl, trT hQ (w_zSw.2 ▸ v_zSw.2), by kernel_rfl⟩
  · cases h; exact ⟨Try.f50, _, _, by kernel_rfl, rfl, trT hQ (w_laws_eqFn.2 ▸ v_laws_eqFn.2), by kernel_rfl⟩
  · cases h; exact ⟨Try.f51, _, _, by kernel_rfl, rfl, trT hQ (w_laws_markText.2 ▸ v_laws_markText.2), by kernel_rfl⟩
  · cases h; exact ⟨Try.f52, _, _, by kernel_rfl, rfl, trT hQ (w_laws_markStringS.2 ▸ v_laws_markStringS.2), by kernel_rfl⟩
  · cases h; exact ⟨Try.f53, _, _, by kernel_rfl, rfl, trT hQ (w_laws_markUpS.2 ▸ v_laws_markUpS.2), by kernel_rfl⟩
  · cases h; exact ⟨Try.f54, _, _, by kernel_rfl, rfl, trT hQ (w_laws_markNodeS.2 ▸ v_laws_markNodeS.2), by kernel_rfl⟩
  · cases h; exact ⟨Try.f55, _, _, by kernel_rfl, rfl, trT hQ (w_laws_szStringS.2 ▸ v_laws_szStringS.2), by kernel_rfl⟩
  · cases h; exact ⟨Try.f56, _, _, by kernel_rfl, rfl, trT hQ (w_laws_szUpS.2 ▸ v_laws_szUpS.2), by kernel_rfl⟩
  · cases h; exact ⟨Try.f57, _, _, by kernel_rfl, rfl, trT hQ (w_laws_szNodeS.2 ▸ v_laws_szNodeS.2), by kernel_rfl⟩
  · cases h; exact ⟨Try.f58, _, _, by kernel_rfl, rfl, trT hQ (w_spec_l3name.2 ▸ v_spec_l3name.2), by kernel_rfl⟩
  · cases h; exact ⟨Try.f59, _, _, by kernel_rfl, rfl, trT hQ (w_spec_l3stat.2 ▸ v_spec_l3stat.2), by kernel_rfl⟩
  · cases h; exact ⟨Try.f60, _, _, by kernel_rfl, rfl, trT hQ (w_zSt.2 ▸ v_zSt.2), by kernel_rfl⟩
  · cases h; exact ⟨Try.f61, _, _, by kernel_rfl, rfl, trT hQ (w_zEx.2 ▸ v_zEx.2), by kernel_rfl⟩
  · cases h; exact ⟨Try.f62, _, _, by kernel_rfl, rfl, trT hQ (w_spec_l3visible.2 ▸ v_spec_l3visible.2), by kernel_rfl⟩
  · cases h; exact ⟨Try.f63, _, _, by kernel_rfl, rfl, trT hQ (w_laws_toStringS.2 ▸ v_laws_toStringS.2), by kernel_rfl⟩
  · cases h; exact ⟨Try.f64, _, _, by kernel_rfl, rfl, trT hQ (w_laws_toUpS.2 ▸ v_laws_toUpS.2), by kernel_rfl⟩
  · cases h; exact ⟨Try.f65, _, _, by kernel_rfl, rfl, trT hQ (w_laws_toNodeS.2 ▸ v_laws_toNodeS.2), by kernel_rfl⟩
  · cases h; exact ⟨Try.f66, _, _, by kernel_rfl, rfl, trT hQ (w_zSw_S1.2 ▸ v_zSw_S1.2), by kernel_rfl⟩
  · cases h; exact ⟨Try.f67, _, _, by kernel_rfl, rfl, trT hQ (w_laws_eqStringS.2 ▸ v_laws_eqStringS.2), by kernel_rfl⟩
  · cases h; exact ⟨Try.f68, _, _, by kernel_rfl, rfl, trT hQ (w_laws_eqUpS.2 ▸ v_laws_eqUpS.2), by kernel_rfl⟩
  · cases h; exact ⟨Try.f69, _, _, by kernel_rfl, rfl, trT hQ (w_laws_eqNodeS.2 ▸ v_laws_eqNodeS.2), by kernel_rfl⟩
  · cases h; exact ⟨Try.f70, _, _, by kernel_rfl, rfl, trT hQ (w_laws_markIntS.2 ▸ v_laws_markIntS.2), by kernel_rfl⟩
  · cases h; exact ⟨Try.f71, _, _, by kernel_rfl, rfl, trT hQ (w_laws_szNode.2 ▸ v_laws_szNode.2), by kernel_rfl⟩
  · cases h; exact ⟨Try.f72, _, _, by kernel_rfl, rfl, trT hQ (w_spec_l3kid.2 ▸ v_spec_l3kid.2), by kernel_rfl⟩
  · cases h; exact ⟨Try.f73, _, _, by kernel_rfl, rfl, trT hQ (w_spec_l3bare.2 ▸ v_spec_l3bare.2), by kernel_rfl⟩
  · cases h; exact ⟨Try.f74, _, _, by kernel_rfl, rfl, trT hQ (w_spec_l3exprs.2 ▸ v_spec_l3exprs.2), by kernel_rfl⟩
  · cases h; exact ⟨Try.f75, _, _, by kernel_rfl, rfl, trT hQ (w_spec_l3target.2 ▸ v_spec_l3target.2), by kernel_rfl⟩
  · cases h; exact ⟨Try.f76, _, _, by kernel_rfl, rfl, trT hQ (w_spec_l3many.2 ▸ v_spec_l3many.2), by kernel_rfl⟩
  · cases h; exact ⟨Try.f77, _, _, by kernel_rfl, rfl, trT hQ (w_spec_l3place.2 ▸ v_spec_l3place.2), by kernel_rfl⟩
  · cases h; exact ⟨Try.f78, _, _, by kernel_rfl, rfl, trT hQ (w_spec_l3declares.2 ▸ v_spec_l3declares.2), by kernel_rfl⟩
  · cases h; exact ⟨Try.f79, _, _, by kernel_rfl, rfl, trT hQ (w_laws_toUp.2 ▸ v_laws_toUp.2), by kernel_rfl⟩
  · cases h; exact ⟨Try.f80, _, _, by kernel_rfl, rfl, trT hQ (w_laws_toNode.2 ▸ v_laws_toNode.2), by kernel_rfl⟩
  · cases h; exact ⟨Try.f81, _, _, by kernel_rfl, rfl, trT hQ (w_laws_eqUp.2 ▸ v_laws_eqUp.2), by kernel_rfl⟩
  · cases h; exact ⟨Try.f82, _, _, by kernel_rfl, rfl, trT hQ (w_laws_eqNode.2 ▸ v_laws_eqNode.2), by kernel_rfl⟩
  · cases h; exact ⟨Try.f83, _, _, by kernel_rfl, rfl, trT hQ (w_laws_szIntS.2 ▸ v_laws_szIntS.2), by kernel_rfl⟩
  · cases h; exact ⟨Try.f84, _, _, by kernel_rfl, rfl, trT hQ (w_spec_l3expr.2 ▸ v_spec_l3expr.2), by kernel_rfl⟩
  · cases h; exact ⟨Try.f85, _, _, by kernel_rfl, rfl, trT hQ (w_laws_toIntS.2 ▸ v_laws_toIntS.2), by kernel_rfl⟩
  · cases h; exact ⟨Try.f86, _, _, by kernel_rfl, rfl, trT hQ (w_laws_sameFloat.2 ▸ v_laws_sameFloat.2), by kernel_rfl⟩
  · cases h; exact ⟨Try.f87, _, _, by kernel_rfl, rfl, trT hQ (w_laws_eqIntS.2 ▸ v_laws_eqIntS.2), by kernel_rfl⟩
  · cases h
theorem mixed : Try.prog.follows .mixedOrders = true := by kernel_rfl
end Go.Proofs.Try.Av
end
end
