/- The codes -/
import Derived.KernelRfl
import Derived.Test.YthndemlfnhpdbaaDoorAv2
import Derived.Test.YthndemlfnhpdbaaDoorProg
set_option linter.all false
section
set_option maxRecDepth 100000
set_option maxHeartbeats 4000000
namespace Go.Proofs.Tryd.Av
open Go Go.Av
abbrev K0:Nat:=4
abbrev zgE:Nat:=5
abbrev zb5:Nat:=6
abbrev Wj:Nat:=7
abbrev zb1:Nat:=8
abbrev zgB:Nat:=10
abbrev zaO:Nat:=11
abbrev ZP:Nat:=12
abbrev K1:Nat:=13
abbrev zcY:Nat:=14
abbrev UG:Nat:=15
abbrev UF:Nat:=16
abbrev zc3:Nat:=17
abbrev za5:Nat:=18
abbrev Je:Nat:=19
abbrev zc6:Nat:=20
abbrev zaY:Nat:=21
abbrev ZQ:Nat:=22
abbrev zcV:Nat:=23
abbrev zeG:Nat:=24
abbrev za3:Nat:=25
abbrev zc0:Nat:=26
abbrev za1:Nat:=27
abbrev zcX:Nat:=28
abbrev za0:Nat:=29
abbrev zeK:Nat:=30
abbrev zeT:Nat:=31
abbrev zeW:Nat:=32
abbrev zeR:Nat:=33
abbrev zeV:Nat:=34
abbrev zgI:Nat:=35
abbrev zaP:Nat:=36
abbrev vu:Nat:=37
abbrev zeY:Nat:=38
abbrev zgK:Nat:=39
abbrev zan:Nat:=40
abbrev WN:Nat:=41
abbrev zgL:Nat:=42
abbrev QR:Nat:=43
abbrev zgA:Nat:=44
abbrev zeC:Nat:=45
abbrev zeO:Nat:=46
abbrev zhW:Nat:=47
abbrev zdO:Nat:=48
abbrev Qw:Nat:=49
abbrev zb3:Nat:=50
abbrev zhX:Nat:=51
abbrev zeF:Nat:=52
abbrev zgD:Nat:=53
abbrev zcT:Nat:=54
abbrev zc1:Nat:=55
abbrev zeI:Nat:=56
abbrev za4:Nat:=57
abbrev zcZ:Nat:=58
abbrev za2:Nat:=59
abbrev zh0:Nat:=60
abbrev zc4:Nat:=61
abbrev zgF:Nat:=62
abbrev zc2:Nat:=63
abbrev zc9:Nat:=64
abbrev zb6:Nat:=65
abbrev zb7:Nat:=66
abbrev zeS:Nat:=67
abbrev zjj:Nat:=68
abbrev WO:Nat:=69
abbrev zeU:Nat:=70
abbrev zc8:Nat:=71
abbrev zeX:Nat:=72
abbrev zeQ:Nat:=73
abbrev zh2:Nat:=74
abbrev zc7:Nat:=75
abbrev zgG:Nat:=76
abbrev zc5:Nat:=77
abbrev zjg:Nat:=78
abbrev zaZ:Nat:=80
abbrev zeA:Nat:=81
abbrev zb2:Nat:=82
abbrev zeB:Nat:=83
abbrev zhV:Nat:=84
abbrev Jd:Nat:=85
abbrev zhZ:Nat:=86
abbrev zcW:Nat:=87
abbrev zgC:Nat:=88
abbrev zcU:Nat:=89
abbrev zeD:Nat:=90
abbrev zeL:Nat:=91
abbrev zeJ:Nat:=92
abbrev zeP:Nat:=93
abbrev zgJ:Nat:=94
abbrev zji:Nat:=95
abbrev zeN:Nat:=96
abbrev zh1:Nat:=97
abbrev zeM:Nat:=98
abbrev zjh:Nat:=99
abbrev zeH:Nat:=100
abbrev zhY:Nat:=101
abbrev zeE:Nat:=102
abbrev zgH:Nat:=103
abbrev zb4:Nat:=104
noncomputable def lU:{ l // (List.range 185).map Tryd.prog.underlying=l }:=⟨_,by cbv⟩
noncomputable def lI:{ l // (List.range 185).map (J1 Tryd.prog)=l }:=⟨_,by cbv⟩
noncomputable def lB:{ l // (List.range 125).map (Vt Tryd.prog)=l }:=⟨_,by cbv⟩
noncomputable def lS:{ l // (List.range 125).map (zbY Tryd.prog)=l }:=⟨[false,false,false,false,false,false,false,false,false,false,false,false,false,false,false,false,false,false,false,false,false,false,false,false,false,false,false,false,false,false,false,false,false,false,false,false,false,false,false,false,false,false,false,false,false,false,false,false,false,false,false,false,false,false,false,false,false,false,false,false,false,false,false,false,false,false,false,false,false,false,false,false,false,false,false,false,false,false,false,true,false,false,false,false,false,false,false,false,false,false,false,false,false,false,false,false,false,false,false,false,false,false,false,false,false,false,false,false,false,false,false,false,false,false,false,false,false,false,false,false,false,false,false,false,false],by kernel_rfl⟩
noncomputable def Q:v5:=v5.mk' Tryd.prog 185 125 lU.1 lI.1 [(27,[0,0,0]),(116,[1,0,0])] lB.1 lS.1
theorem hQ:Q=v5.of Tryd.prog:=zCR lU.2 lI.2 (by kernel_rfl) lB.2 lS.2
noncomputable def Ut:{ F:zL // zW Q { keep:=138414207,shared:=0,gone:=138414080,still:=0 } Tryd.f3=some F }:=⟨_,rfl⟩
noncomputable def Uu:{ F:zL // Ut.1=F }:=⟨_,by cbv⟩
noncomputable def Qm:{ F:zL // zW Q { keep:=10662380274594883969015,shared:=563224831328256,gone:=10662380274594883960832,still:=0,lend:=75497472 } Tryd.f4=some F }:=⟨_,rfl⟩
noncomputable def kL:{ F:zL // Qm.1=F }:=⟨_,by cbv⟩
noncomputable def zg1:{ F:zL // zW Q { keep:=1047,shared:=0,gone:=1024,still:=0 } Tryd.f5=some F }:=⟨_,rfl⟩
noncomputable def Ju:{ F:zL // zg1.1=F }:=⟨_,by cbv⟩
noncomputable def zcp:{ F:zL // zW Q { keep:=134449247,shared:=0,gone:=134350848,still:=0 } Tryd.f6=some F }:=⟨_,rfl⟩
noncomputable def XY:{ F:zL // zcp.1=F }:=⟨_,by cbv⟩
noncomputable def zg3:{ F:zL // zW Q { keep:=15,shared:=0,gone:=0,still:=0,lend:=64 } Tryd.f7=some F }:=⟨_,rfl⟩
noncomputable def Wp:{ F:zL // zg3.1=F }:=⟨_,by cbv⟩
noncomputable def zcl:{ F:zL // zW Q { keep:=268898527,shared:=0,gone:=268701696,still:=0 } Tryd.f8=some F }:=⟨_,rfl⟩
noncomputable def XT:{ F:zL // zcl.1=F }:=⟨_,by cbv⟩
noncomputable def zaA:{ F:zL // zW Q { keep:=541215,shared:=0,gone:=541184,still:=0 } Tryd.f9=some F }:=⟨_,rfl⟩
noncomputable def zaC:{ F:zL // zaA.1=F }:=⟨_,by cbv⟩
noncomputable def zgY:{ F:zL // zW Q { keep:=1055,shared:=0,gone:=1024,still:=0 } Tryd.f10=some F }:=⟨_,rfl⟩
noncomputable def Jr:{ F:zL // zgY.1=F }:=⟨_,by cbv⟩
noncomputable def zg5:{ F:zL // zW Q { keep:=8388727,shared:=0,gone:=8388608,still:=0 } Tryd.f11=some F }:=⟨_,rfl⟩
noncomputable def Jx:{ F:zL // zg5.1=F }:=⟨_,by cbv⟩
noncomputable def zgU:{ F:zL // zW Q { keep:=4194359,shared:=0,gone:=4194304,still:=0,lend:=67108864 } Tryd.f12=some F }:=⟨_,rfl⟩
noncomputable def Wm:{ F:zL // zgU.1=F }:=⟨_,by cbv⟩
noncomputable def zdp:{ F:zL // zW Q { keep:=67126323,shared:=0,gone:=67126272,still:=0 } Tryd.f13=some F }:=⟨_,rfl⟩
noncomputable def WV:{ F:zL // zdp.1=F }:=⟨_,by cbv⟩
noncomputable def zds:{ F:zL // zW Q { keep:=23,shared:=256,gone:=0,still:=0 } Tryd.f14=some F }:=⟨_,rfl⟩
noncomputable def WY:{ F:zL // zds.1=F }:=⟨_,by cbv⟩
noncomputable def zbj:{ F:zL // zW Q { keep:=563,shared:=17314086912,gone:=512,still:=0 } Tryd.f15=some F }:=⟨_,rfl⟩
noncomputable def YN:{ F:zL // zbj.1=F }:=⟨_,by cbv⟩
noncomputable def zbf:{ F:zL // zW Q { keep:=1101660160563,shared:=0,gone:=1101660160512,still:=0 } Tryd.f16=some F }:=⟨_,rfl⟩
noncomputable def YJ:{ F:zL // zbf.1=F }:=⟨_,by cbv⟩
noncomputable def zdx:{ F:zL // zW Q { keep:=33589299,shared:=0,gone:=33589248,still:=0 } Tryd.f17=some F }:=⟨_,rfl⟩
noncomputable def W3:{ F:zL // zdx.1=F }:=⟨_,by cbv⟩
noncomputable def zbl:{ F:zL // zW Q { keep:=304592782260563154584575,shared:=0,gone:=304592782260559381807104,still:=0 } Tryd.f18=some F }:=⟨_,rfl⟩
noncomputable def YP:{ F:zL // zbl.1=F }:=⟨_,by cbv⟩
noncomputable def zha:{ F:zL // zW Q { keep:=25711009092670794032955247531927462086734537560765941253144567,shared:=93536105486076094988305236606143823400226296692736,gone:=25711009092016041299431003024572211281564305972371211987976192,still:=0,lend:=324518553658426726783156020576256,fresh:=49039857307708443467467104868809893875799651909875269632 } Tryd.f19=some F }:=⟨_,rfl⟩
noncomputable def JE:{ F:zL // zha.1=F }:=⟨_,by cbv⟩
noncomputable def zdA:{ F:zL // zW Q { keep:=2077,shared:=0,gone:=2048,still:=0,lend:=1048576 } Tryd.f20=some F }:=⟨_,rfl⟩
noncomputable def W6:{ F:zL // zdA.1=F }:=⟨_,by cbv⟩
noncomputable def zbc:{ F:zL // zW Q { keep:=10346663924250572659825432908295153906729649862714897966950260996414461344418171230046839159274474961933087859971779985391,shared:=0,gone:=10339098739060856892571515614766848955047285513633125260070613441739836219955142152033580920561522467717066128281577717760,still:=0 } Tryd.f21=some F }:=⟨_,rfl⟩
noncomputable def YG:{ F:zL // zbc.1=F }:=⟨_,by cbv⟩
noncomputable def zgW:{ F:zL // zW Q { keep:=21820606781349784063229202518844356624375,shared:=0,gone:=21820606781345451273091703687856439427072,still:=0,lend:=162259276829213363391578010288128,fresh:=1208925819614629174706176 } Tryd.f22=some F }:=⟨_,rfl⟩
noncomputable def Wo:{ F:zL // zgW.1=F }:=⟨_,by cbv⟩
noncomputable def zdo:{ F:zL // zW Q { keep:=67126323,shared:=0,gone:=67126272,still:=0 } Tryd.f23=some F }:=⟨_,rfl⟩
noncomputable def WU:{ F:zL // zdo.1=F }:=⟨_,by cbv⟩
noncomputable def zfh:{ F:zL // zW Q { keep:=2130463,shared:=0,gone:=2130432,still:=0 } Tryd.f24=some F }:=⟨_,rfl⟩
noncomputable def V9:{ F:zL // zfh.1=F }:=⟨_,by cbv⟩
noncomputable def zbi:{ F:zL // zW Q { keep:=563,shared:=152305614502176950845440,gone:=512,still:=0 } Tryd.f25=some F }:=⟨_,rfl⟩
noncomputable def YM:{ F:zL // zbi.1=F }:=⟨_,by cbv⟩
noncomputable def zdu:{ F:zL // zW Q { keep:=563,shared:=0,gone:=512,still:=0 } Tryd.f26=some F }:=⟨_,rfl⟩
noncomputable def W0:{ F:zL // zdu.1=F }:=⟨_,by cbv⟩
noncomputable def zbg:{ F:zL // zW Q { keep:=563,shared:=0,gone:=512,still:=0 } Tryd.f27=some F }:=⟨_,rfl⟩
noncomputable def YK:{ F:zL // zbg.1=F }:=⟨_,by cbv⟩
noncomputable def zdr:{ F:zL // zW Q { keep:=131635,shared:=0,gone:=131584,still:=0 } Tryd.f28=some F }:=⟨_,rfl⟩
noncomputable def WX:{ F:zL // zdr.1=F }:=⟨_,by cbv⟩
noncomputable def zbe:{ F:zL // zW Q { keep:=275415826995,shared:=0,gone:=275415826944,still:=0 } Tryd.f29=some F }:=⟨_,rfl⟩
noncomputable def YI:{ F:zL // zbe.1=F }:=⟨_,by cbv⟩
noncomputable def zfl:{ F:zL // zW Q { keep:=34905131031,shared:=0,gone:=34905131008,still:=0 } Tryd.f30=some F }:=⟨_,rfl⟩
noncomputable def Ub:{ F:zL // zfl.1=F }:=⟨_,by cbv⟩
noncomputable def zfv:{ F:zL // zW Q { keep:=699258220145811295582282476831343771631,shared:=0,gone:=691282284248709916743711465807726772224,still:=0 } Tryd.f31=some F }:=⟨_,rfl⟩
noncomputable def Ul:{ F:zL // zfv.1=F }:=⟨_,by cbv⟩
noncomputable def zfy:{ F:zL // zW Q { keep:=9007199254987087,shared:=0,gone:=9007199254872064,still:=0 } Tryd.f32=some F }:=⟨_,rfl⟩
noncomputable def Uo:{ F:zL // zfy.1=F }:=⟨_,by cbv⟩
noncomputable def zft:{ F:zL // zW Q { keep:=71,shared:=0,gone:=0,still:=0 } Tryd.f33=some F }:=⟨_,rfl⟩
noncomputable def Uj:{ F:zL // zft.1=F }:=⟨_,by cbv⟩
noncomputable def zfx:{ F:zL // zW Q { keep:=33020784412151,shared:=0,gone:=17627621621760,still:=0,lend:=131072 } Tryd.f34=some F }:=⟨_,rfl⟩
noncomputable def Un:{ F:zL // zfx.1=F }:=⟨_,by cbv⟩
noncomputable def zg7:{ F:zL // zW Q { keep:=1005,shared:=0,gone:=512,still:=0 } Tryd.f35=some F }:=⟨_,rfl⟩
noncomputable def Jz:{ F:zL // zg7.1=F }:=⟨_,by cbv⟩
noncomputable def zg_:{ F:zL // zW Q { keep:=713950688241731327620668993279580753197006687,shared:=0,gone:=713798241741350747189037272328242803180044288,still:=0 } Tryd.f36=some F }:=⟨_,rfl⟩
noncomputable def JC:{ F:zL // zg_.1=F }:=⟨_,by cbv⟩
noncomputable def zdC:{ F:zL // zW Q { keep:=10152346262217450325579015414007,shared:=0,gone:=10152346262180556837431596302336,still:=0,lend:=512 } Tryd.f37=some F }:=⟨_,rfl⟩
noncomputable def W8:{ F:zL // zdC.1=F }:=⟨_,by cbv⟩
noncomputable def zfA:{ F:zL // zW Q { keep:=35738439917655,shared:=0,gone:=35738423140352,still:=0 } Tryd.f38=some F }:=⟨_,rfl⟩
noncomputable def Ur:{ F:zL // zfA.1=F }:=⟨_,by cbv⟩
noncomputable def zg9:{ F:zL // zW Q { keep:=2307039313265679423,shared:=0,gone:=2307039312795402240,still:=0 } Tryd.f39=some F }:=⟨_,rfl⟩
noncomputable def JB:{ F:zL // zg9.1=F }:=⟨_,by cbv⟩
noncomputable def zaB:{ F:zL // zW Q { keep:=2537777080830249737560267029695,shared:=0,gone:=2537777080830177609597484793856,still:=0,lend:=39614083618315410231594582016 } Tryd.f40=some F }:=⟨_,rfl⟩
noncomputable def Yi:{ F:zL // zaB.1=F }:=⟨_,by cbv⟩
noncomputable def zdE:{ F:zL // zW Q { keep:=1005,shared:=0,gone:=512,still:=0 } Tryd.f41=some F }:=⟨_,rfl⟩
noncomputable def Yj:{ F:zL // zdE.1=F }:=⟨_,by cbv⟩
noncomputable def zg':{ F:zL // zW Q { keep:=144177310721900671,shared:=0,gone:=144150922342170624,still:=0 } Tryd.f42=some F }:=⟨_,rfl⟩
noncomputable def JD:{ F:zL // zg'.1=F }:=⟨_,by cbv⟩
noncomputable def zfo:{ F:zL // zW Q { keep:=15,shared:=0,gone:=0,still:=0,lend:=9162457088 } Tryd.f43=some F }:=⟨_,rfl⟩
noncomputable def Ue:{ F:zL // zfo.1=F }:=⟨_,by cbv⟩
noncomputable def zgX:{ F:zL // zW Q { keep:=71,shared:=0,gone:=0,still:=0 } Tryd.f44=some F }:=⟨_,rfl⟩
noncomputable def Jq:{ F:zL // zgX.1=F }:=⟨_,by cbv⟩
noncomputable def zfd:{ F:zL // zW Q { keep:=4505800940716599,shared:=0,gone:=4503601917461024,still:=0 } Tryd.f45=some F }:=⟨_,rfl⟩
noncomputable def V5:{ F:zL // zfd.1=F }:=⟨_,by cbv⟩
noncomputable def zfq:{ F:zL // zW Q { keep:=5,shared:=0,gone:=0,still:=0 } Tryd.f46=some F }:=⟨_,rfl⟩
noncomputable def Ug:{ F:zL // zfq.1=F }:=⟨_,by cbv⟩
noncomputable def ziq:{ F:zL // zW Q { keep:=8605140991,shared:=0,gone:=8598847488,still:=0 } Tryd.f47=some F }:=⟨_,rfl⟩
noncomputable def Qo:{ F:zL // ziq.1=F }:=⟨_,by cbv⟩
noncomputable def zjy:{ F:zL // zW Q { keep:=381445689527029866219231701676784719088912532325203716852374344376861102222484794080307718534505366618385847551787882675993124116295818674111,shared:=0,gone:=381445689349405713939616999734817100275515389453878307474769075023094962445546707143107568658406597331990575684797579715475666630847097733120,still:=0,lend:=2977131414714805823690030317109266572712515013375254776855652748069627595031939800767597450365982403589022809751078674554662154213502484480 } Tryd.f48=some F }:=⟨_,rfl⟩
noncomputable def zad:{ F:zL // zjy.1=F }:=⟨_,by cbv⟩
noncomputable def Qy:{ F:zL // zW Q { keep:=7,shared:=0,gone:=0,still:=0 } Tryd.f49=some F }:=⟨_,rfl⟩
noncomputable def ZE:{ F:zL // Qy.1=F }:=⟨_,by cbv⟩
noncomputable def zcn:{ F:zL // zW Q { keep:=281597391670911,shared:=0,gone:=281545852061696,still:=0 } Tryd.f50=some F }:=⟨_,rfl⟩
noncomputable def XW:{ F:zL // zcn.1=F }:=⟨_,by cbv⟩
noncomputable def zir:{ F:zL // zW Q { keep:=18295890667125239,shared:=0,gone:=18295890667118592,still:=0,lend:=2147483648 } Tryd.f51=some F }:=⟨_,rfl⟩
noncomputable def Qp:{ F:zL // zir.1=F }:=⟨_,by cbv⟩
noncomputable def zfg:{ F:zL // zW Q { keep:=9150170680279583,shared:=0,gone:=9150170680279552,still:=0 } Tryd.f52=some F }:=⟨_,rfl⟩
noncomputable def V8:{ F:zL // zfg.1=F }:=⟨_,by cbv⟩
noncomputable def zg0:{ F:zL // zW Q { keep:=33571891,shared:=0,gone:=33571840,still:=0 } Tryd.f53=some F }:=⟨_,rfl⟩
noncomputable def Jt:{ F:zL // zg0.1=F }:=⟨_,by cbv⟩
noncomputable def zdm:{ F:zL // zW Q { keep:=67126323,shared:=0,gone:=67126272,still:=0 } Tryd.f54=some F }:=⟨_,rfl⟩
noncomputable def WR:{ F:zL // zdm.1=F }:=⟨_,by cbv⟩
noncomputable def zdv:{ F:zL // zW Q { keep:=173,shared:=0,gone:=160,still:=0 } Tryd.f55=some F }:=⟨_,rfl⟩
noncomputable def W1:{ F:zL // zdv.1=F }:=⟨_,by cbv⟩
noncomputable def zfj:{ F:zL // zW Q { keep:=563,shared:=0,gone:=512,still:=0 } Tryd.f56=some F }:=⟨_,rfl⟩
noncomputable def V':{ F:zL // zfj.1=F }:=⟨_,by cbv⟩
noncomputable def zbk:{ F:zL // zW Q { keep:=563,shared:=0,gone:=512,still:=0 } Tryd.f57=some F }:=⟨_,rfl⟩
noncomputable def YO:{ F:zL // zbk.1=F }:=⟨_,by cbv⟩
noncomputable def zdt:{ F:zL // zW Q { keep:=563,shared:=0,gone:=512,still:=0 } Tryd.f58=some F }:=⟨_,rfl⟩
noncomputable def WZ:{ F:zL // zdt.1=F }:=⟨_,by cbv⟩
noncomputable def zbh:{ F:zL // zW Q { keep:=563,shared:=0,gone:=512,still:=0 } Tryd.f59=some F }:=⟨_,rfl⟩
noncomputable def YL:{ F:zL // zbh.1=F }:=⟨_,by cbv⟩
noncomputable def ziu:{ F:zL // zW Q { keep:=1043,shared:=0,gone:=1024,still:=0 } Tryd.f60=some F }:=⟨_,rfl⟩
noncomputable def Qs:{ F:zL // ziu.1=F }:=⟨_,by cbv⟩
noncomputable def zdy:{ F:zL // zW Q { keep:=33589299,shared:=0,gone:=33589248,still:=0 } Tryd.f61=some F }:=⟨_,rfl⟩
noncomputable def W4:{ F:zL // zdy.1=F }:=⟨_,by cbv⟩
noncomputable def zg2:{ F:zL // zW Q { keep:=1043,shared:=0,gone:=1024,still:=0 } Tryd.f62=some F }:=⟨_,rfl⟩
noncomputable def Jv:{ F:zL // zg2.1=F }:=⟨_,by cbv⟩
noncomputable def zdw:{ F:zL // zW Q { keep:=33589299,shared:=0,gone:=33589248,still:=0 } Tryd.f63=some F }:=⟨_,rfl⟩
noncomputable def W2:{ F:zL // zdw.1=F }:=⟨_,by cbv⟩
noncomputable def zdF:{ F:zL // zW Q { keep:=65783,shared:=0,gone:=65536,still:=0 } Tryd.f64=some F }:=⟨_,rfl⟩
noncomputable def W_:{ F:zL // zdF.1=F }:=⟨_,by cbv⟩
noncomputable def zcq:{ F:zL // zW Q { keep:=9437191,shared:=0,gone:=9437184,still:=0 } Tryd.f65=some F }:=⟨_,rfl⟩
noncomputable def XZ:{ F:zL // zcq.1=F }:=⟨_,by cbv⟩
noncomputable def zcr:{ F:zL // zW Q { keep:=55,shared:=0,gone:=0,still:=0 } Tryd.f66=some F }:=⟨_,rfl⟩
noncomputable def X5:{ F:zL // zcr.1=F }:=⟨_,by cbv⟩
noncomputable def zfu:{ F:zL // zW Q { keep:=8800186666959,shared:=0,gone:=8798307614720,still:=0 } Tryd.f67=some F }:=⟨_,rfl⟩
noncomputable def Uk:{ F:zL // zfu.1=F }:=⟨_,by cbv⟩
noncomputable def zjB:{ F:zL // zW Q { keep:=71,shared:=0,gone:=0,still:=0 } Tryd.f68=some F }:=⟨_,rfl⟩
noncomputable def zag:{ F:zL // zjB.1=F }:=⟨_,by cbv⟩
noncomputable def zdG:{ F:zL // zW Q { keep:=563504055607415,shared:=0,gone:=562954299768832,still:=0 } Tryd.f69=some F }:=⟨_,rfl⟩
noncomputable def Yk:{ F:zL // zdG.1=F }:=⟨_,by cbv⟩
noncomputable def zfw:{ F:zL // zW Q { keep:=11856505838568583459566473112224925,shared:=0,gone:=11846354730246438729626144426983568,still:=0 } Tryd.f70=some F }:=⟨_,rfl⟩
noncomputable def Um:{ F:zL // zfw.1=F }:=⟨_,by cbv⟩
noncomputable def zdD:{ F:zL // zW Q { keep:=7,shared:=0,gone:=0,still:=0 } Tryd.f71=some F }:=⟨_,rfl⟩
noncomputable def W9:{ F:zL // zdD.1=F }:=⟨_,by cbv⟩
noncomputable def zfz:{ F:zL // zW Q { keep:=82621,shared:=0,gone:=82080,still:=0 } Tryd.f72=some F }:=⟨_,rfl⟩
noncomputable def Uq:{ F:zL // zfz.1=F }:=⟨_,by cbv⟩
noncomputable def zfs:{ F:zL // zW Q { keep:=1050579,shared:=0,gone:=1049600,still:=0 } Tryd.f73=some F }:=⟨_,rfl⟩
noncomputable def Ui:{ F:zL // zfs.1=F }:=⟨_,by cbv⟩
noncomputable def ziw:{ F:zL // zW Q { keep:=2077,shared:=0,gone:=2048,still:=0 } Tryd.f74=some F }:=⟨_,rfl⟩
noncomputable def Qu:{ F:zL // ziw.1=F }:=⟨_,by cbv⟩
noncomputable def zdB:{ F:zL // zW Q { keep:=2077,shared:=0,gone:=2048,still:=0 } Tryd.f75=some F }:=⟨_,rfl⟩
noncomputable def W7:{ F:zL // zdB.1=F }:=⟨_,by cbv⟩
noncomputable def zg4:{ F:zL // zW Q { keep:=2077,shared:=0,gone:=2048,still:=0 } Tryd.f76=some F }:=⟨_,rfl⟩
noncomputable def Jw:{ F:zL // zg4.1=F }:=⟨_,by cbv⟩
noncomputable def zdz:{ F:zL // zW Q { keep:=2077,shared:=0,gone:=2048,still:=0 } Tryd.f77=some F }:=⟨_,rfl⟩
noncomputable def W5:{ F:zL // zdz.1=F }:=⟨_,by cbv⟩
noncomputable def zjx:{ F:zL // zW Q { keep:=1087,shared:=0,gone:=0,still:=0 } Tryd.f78=some F }:=⟨_,rfl⟩
noncomputable def zac:{ F:zL // zjx.1=F }:=⟨_,by cbv⟩
noncomputable def zbd:{ F:zL // zW Q { keep:=7,shared:=0,gone:=0,still:=0 } Tryd.f80=some F }:=⟨_,rfl⟩
noncomputable def YH:{ F:zL // zbd.1=F }:=⟨_,by cbv⟩
noncomputable def zfb:{ F:zL // zW Q { keep:=20442124500757167221204445038399,shared:=0,gone:=159714897105496797257192701952,still:=0 } Tryd.f81=some F }:=⟨_,rfl⟩
noncomputable def V3:{ F:zL // zfb.1=F }:=⟨_,by cbv⟩
noncomputable def zcm:{ F:zL // zW Q { keep:=5,shared:=0,gone:=0,still:=0 } Tryd.f82=some F }:=⟨_,rfl⟩
noncomputable def XV:{ F:zL // zcm.1=F }:=⟨_,by cbv⟩
noncomputable def zfc:{ F:zL // zW Q { keep:=1050539,shared:=0,gone:=1049600,still:=0 } Tryd.f83=some F }:=⟨_,rfl⟩
noncomputable def V4:{ F:zL // zfc.1=F }:=⟨_,by cbv⟩
noncomputable def zip:{ F:zL // zW Q { keep:=1117,shared:=0,gone:=1040,still:=0 } Tryd.f84=some F }:=⟨_,rfl⟩
noncomputable def Qn:{ F:zL // zip.1=F }:=⟨_,by cbv⟩
noncomputable def zgV:{ F:zL // zW Q { keep:=34636964055,shared:=0,gone:=277225472,still:=0 } Tryd.f85=some F }:=⟨_,rfl⟩
noncomputable def Wn:{ F:zL // zgV.1=F }:=⟨_,by cbv⟩
noncomputable def zit:{ F:zL // zW Q { keep:=67126323,shared:=0,gone:=67126272,still:=0 } Tryd.f86=some F }:=⟨_,rfl⟩
noncomputable def Qr:{ F:zL // zit.1=F }:=⟨_,by cbv⟩
noncomputable def zdq:{ F:zL // zW Q { keep:=67126323,shared:=0,gone:=67126272,still:=0 } Tryd.f87=some F }:=⟨_,rfl⟩
noncomputable def WW:{ F:zL // zdq.1=F }:=⟨_,by cbv⟩
noncomputable def zgZ:{ F:zL // zW Q { keep:=67126323,shared:=0,gone:=67126272,still:=0 } Tryd.f88=some F }:=⟨_,rfl⟩
noncomputable def Js:{ F:zL // zgZ.1=F }:=⟨_,by cbv⟩
noncomputable def zdn:{ F:zL // zW Q { keep:=67126323,shared:=0,gone:=67126272,still:=0 } Tryd.f89=some F }:=⟨_,rfl⟩
noncomputable def WS:{ F:zL // zdn.1=F }:=⟨_,by cbv⟩
noncomputable def zfe:{ F:zL // zW Q { keep:=541215,shared:=0,gone:=541184,still:=0 } Tryd.f90=some F }:=⟨_,rfl⟩
noncomputable def V6:{ F:zL // zfe.1=F }:=⟨_,by cbv⟩
noncomputable def zfm:{ F:zL // zW Q { keep:=2071,shared:=0,gone:=2048,still:=0 } Tryd.f91=some F }:=⟨_,rfl⟩
noncomputable def Uc:{ F:zL // zfm.1=F }:=⟨_,by cbv⟩
noncomputable def zfk:{ F:zL // zW Q { keep:=2071,shared:=0,gone:=2048,still:=0 } Tryd.f92=some F }:=⟨_,rfl⟩
noncomputable def Ua:{ F:zL // zfk.1=F }:=⟨_,by cbv⟩
noncomputable def zfr:{ F:zL // zW Q { keep:=4505800940716599,shared:=0,gone:=4503601917461024,still:=0 } Tryd.f93=some F }:=⟨_,rfl⟩
noncomputable def Uh:{ F:zL // zfr.1=F }:=⟨_,by cbv⟩
noncomputable def zg8:{ F:zL // zW Q { keep:=173074235654318542448789149549343,shared:=0,gone:=173074235654318542448787000983552,still:=0 } Tryd.f94=some F }:=⟨_,rfl⟩
noncomputable def JA:{ F:zL // zg8.1=F }:=⟨_,by cbv⟩
noncomputable def zjA:{ F:zL // zW Q { keep:=15,shared:=0,gone:=0,still:=0 } Tryd.f95=some F }:=⟨_,rfl⟩
noncomputable def zaf:{ F:zL // zjA.1=F }:=⟨_,by cbv⟩
noncomputable def zfp:{ F:zL // zW Q { keep:=15,shared:=0,gone:=0,still:=0 } Tryd.f96=some F }:=⟨_,rfl⟩
noncomputable def Uf:{ F:zL // zfp.1=F }:=⟨_,by cbv⟩
noncomputable def ziv:{ F:zL // zW Q { keep:=15,shared:=0,gone:=0,still:=0 } Tryd.f97=some F }:=⟨_,rfl⟩
noncomputable def Qt:{ F:zL // ziv.1=F }:=⟨_,by cbv⟩
noncomputable def zfn:{ F:zL // zW Q { keep:=15,shared:=0,gone:=0,still:=0 } Tryd.f98=some F }:=⟨_,rfl⟩
noncomputable def Ud:{ F:zL // zfn.1=F }:=⟨_,by cbv⟩
noncomputable def zjz:{ F:zL // zW Q { keep:=16927,shared:=0,gone:=16896,still:=0 } Tryd.f99=some F }:=⟨_,rfl⟩
noncomputable def zae:{ F:zL // zjz.1=F }:=⟨_,by cbv⟩
noncomputable def zfi:{ F:zL // zW Q { keep:=1108361759,shared:=0,gone:=1108361728,still:=0 } Tryd.f100=some F }:=⟨_,rfl⟩
noncomputable def V_:{ F:zL // zfi.1=F }:=⟨_,by cbv⟩
noncomputable def zis:{ F:zL // zW Q { keep:=554189343,shared:=0,gone:=554189312,still:=0 } Tryd.f101=some F }:=⟨_,rfl⟩
noncomputable def Qq:{ F:zL // zis.1=F }:=⟨_,by cbv⟩
noncomputable def zff:{ F:zL // zW Q { keep:=17318431,shared:=0,gone:=17318400,still:=0 } Tryd.f102=some F }:=⟨_,rfl⟩
noncomputable def V7:{ F:zL // zff.1=F }:=⟨_,by cbv⟩
noncomputable def zg6:{ F:zL // zW Q { keep:=1087,shared:=0,gone:=0,still:=0 } Tryd.f103=some F }:=⟨_,rfl⟩
noncomputable def Jy:{ F:zL // zg6.1=F }:=⟨_,by cbv⟩
noncomputable def zco:{ F:zL // zW Q { keep:=67112979,shared:=0,gone:=67112960,still:=0 } Tryd.f104=some F }:=⟨_,rfl⟩
noncomputable def XX:{ F:zL // zco.1=F }:=⟨_,by cbv⟩
noncomputable def uA:AC:=kL.1.code
noncomputable def Ky:=zV uA
noncomputable def zfB (j:Nat):AC:=(zJ uA j).1
noncomputable def Wc:AC:=Ju.1.code
noncomputable def zgp:=zV Wc
noncomputable def znR (j:Nat):AC:=(zJ Wc j).1
noncomputable def jg:AC:=XY.1.code
noncomputable def JI:=zV jg
noncomputable def Xv (j:Nat):AC:=(zJ jg j).1
noncomputable def ZM:AC:=Wp.1.code
noncomputable def zgr:=zV ZM
noncomputable def znT (j:Nat):AC:=(zJ ZM j).1
noncomputable def jf:AC:=XT.1.code
noncomputable def JH:=zV jf
noncomputable def Xu (j:Nat):AC:=(zJ jf j).1
noncomputable def Wb:AC:=Jr.1.code
noncomputable def zgo:=zV Wb
noncomputable def znQ (j:Nat):AC:=(zJ Wb j).1
noncomputable def We:AC:=Jx.1.code
noncomputable def zgs:=zV We
noncomputable def znU (j:Nat):AC:=(zJ We j).1
noncomputable def kk:AC:=Wm.1.code
noncomputable def zgl:=zV kk
noncomputable def znN (j:Nat):AC:=(zJ kk j).1
noncomputable def jP:AC:=WV.1.code
noncomputable def KC:=zV jP
noncomputable def ZV (j:Nat):AC:=(zJ jP j).1
noncomputable def Z2:AC:=WY.1.code
noncomputable def zcx:=zV Z2
noncomputable def zke (j:Nat):AC:=(zJ Z2 j).1
noncomputable def uQ:AC:=YN.1.code
noncomputable def UA:=zV uQ
noncomputable def ky (j:Nat):AC:=(zJ uQ j).1
noncomputable def uM:AC:=YJ.1.code
noncomputable def Uw:=zV uM
noncomputable def ku (j:Nat):AC:=(zJ uM j).1
noncomputable def jW:AC:=W3.1.code
noncomputable def KK:=zV jW
noncomputable def ZY (j:Nat):AC:=(zJ jW j).1
noncomputable def vq:AC:=YP.1.code
noncomputable def kz:=zV vq
noncomputable def xZ (j:Nat):AC:=(zJ vq j).1
noncomputable def vM:AC:=JE.1.code
noncomputable def kj:=zV vM
noncomputable def xG (j:Nat):AC:=(zJ vM j).1
noncomputable def jZ:AC:=W6.1.code
noncomputable def KN:=zV jZ
noncomputable def WJ (j:Nat):AC:=(zJ jZ j).1
noncomputable def yV:AC:=YG.1.code
noncomputable def xx:=zV yV
noncomputable def zM (j:Nat):AC:=(zJ yV j).1
noncomputable def vL:AC:=Wo.1.code
noncomputable def X8:=zV vL
noncomputable def vI (j:Nat):AC:=(zJ vL j).1
noncomputable def jO:AC:=WU.1.code
noncomputable def KB:=zV jO
noncomputable def Ko (j:Nat):AC:=(zJ jO j).1
noncomputable def Y0:AC:=V9.1.code
noncomputable def zd0:=zV Y0
noncomputable def zl0 (j:Nat):AC:=(zJ Y0 j).1
noncomputable def uP:AC:=YM.1.code
noncomputable def Uz:=zV uP
noncomputable def Yw (j:Nat):AC:=(zJ uP j).1
noncomputable def jT:AC:=W0.1.code
noncomputable def KH:=zV jT
noncomputable def ZW (j:Nat):AC:=(zJ jT j).1
noncomputable def uN:AC:=YK.1.code
noncomputable def Ux:=zV uN
noncomputable def kw (j:Nat):AC:=(zJ uN j).1
noncomputable def jR:AC:=WX.1.code
noncomputable def KE:=zV jR
noncomputable def WH (j:Nat):AC:=(zJ jR j).1
noncomputable def uL:AC:=YI.1.code
noncomputable def Uv:=zV uL
noncomputable def Yu (j:Nat):AC:=(zJ uL j).1
noncomputable def Y4:AC:=Ub.1.code
noncomputable def zd3:=zV Y4
noncomputable def zl5 (j:Nat):AC:=(zJ Y4 j).1
noncomputable def wt:AC:=Ul.1.code
noncomputable def vj:=zV wt
noncomputable def yy (j:Nat):AC:=(zJ wt j).1
noncomputable def kY:AC:=Uo.1.code
noncomputable def QF:=zV kY
noncomputable def VG (j:Nat):AC:=(zJ kY j).1
noncomputable def Xa:AC:=Uj.1.code
noncomputable def zd_:=zV Xa
noncomputable def zma (j:Nat):AC:=(zJ Xa j).1
noncomputable def jh:AC:=Un.1.code
noncomputable def VH:=zV jh
noncomputable def u7 (j:Nat):AC:=(zJ jh j).1
noncomputable def ZO:AC:=Jz.1.code
noncomputable def zaJ:=zV ZO
noncomputable def U4 (j:Nat):AC:=(zJ ZO j).1
noncomputable def uf:AC:=JC.1.code
noncomputable def ZI:=zV uf
noncomputable def xN (j:Nat):AC:=(zJ uf j).1
noncomputable def Z3:AC:=W8.1.code
noncomputable def zcy:=zV Z3
noncomputable def zkf (j:Nat):AC:=(zJ Z3 j).1
noncomputable def Xd:AC:=Ur.1.code
noncomputable def zeb:=zV Xd
noncomputable def zmd (j:Nat):AC:=(zJ Xd j).1
noncomputable def uV:AC:=JB.1.code
noncomputable def X9:=zV uV
noncomputable def vJ (j:Nat):AC:=(zJ uV j).1
noncomputable def ur:AC:=Yi.1.code
noncomputable def Vb:=zV ur
noncomputable def Va (j:Nat):AC:=(zJ ur j).1
noncomputable def uB:AC:=Yj.1.code
noncomputable def KP:=zV uB
noncomputable def WK (j:Nat):AC:=(zJ uB j).1
noncomputable def km:AC:=JD.1.code
noncomputable def U5:=zV km
noncomputable def ki (j:Nat):AC:=(zJ km j).1
noncomputable def Y7:AC:=Ue.1.code
noncomputable def zd6:=zV Y7
noncomputable def zl8 (j:Nat):AC:=(zJ Y7 j).1
noncomputable def Wa:AC:=Jq.1.code
noncomputable def zgn:=zV Wa
noncomputable def znP (j:Nat):AC:=(zJ Wa j).1
noncomputable def YW:AC:=V5.1.code
noncomputable def zdW:=zV YW
noncomputable def zlW (j:Nat):AC:=(zJ YW j).1
noncomputable def Y_:AC:=Ug.1.code
noncomputable def zd8:=zV Y_
noncomputable def zl_ (j:Nat):AC:=(zJ Y_ j).1
noncomputable def YV:AC:=Qo.1.code
noncomputable def zbD:=zV YV
noncomputable def Km (j:Nat):AC:=(zJ YV j).1
noncomputable def wa:AC:=zad.1.code
noncomputable def zw:=zV wa
noncomputable def z8 (j:Nat):AC:=(zJ wa j).1
noncomputable def uY:AC:=ZE.1.code
noncomputable def Qv:=zV uY
noncomputable def zhb (j:Nat):AC:=(zJ uY j).1
noncomputable def ui:AC:=XW.1.code
noncomputable def Xw:=zV ui
noncomputable def uh (j:Nat):AC:=(zJ ui j).1
noncomputable def Zl:AC:=Qp.1.code
noncomputable def Kx:=zV Zl
noncomputable def jx (j:Nat):AC:=(zJ Zl j).1
noncomputable def YZ:AC:=V8.1.code
noncomputable def zdZ:=zV YZ
noncomputable def zlZ (j:Nat):AC:=(zJ YZ j).1
noncomputable def ZL:AC:=Jt.1.code
noncomputable def zaH:=zV ZL
noncomputable def U3 (j:Nat):AC:=(zJ ZL j).1
noncomputable def jM:AC:=WR.1.code
noncomputable def Kz:=zV jM
noncomputable def WG (j:Nat):AC:=(zJ jM j).1
noncomputable def jU:AC:=W1.1.code
noncomputable def KI:=zV jU
noncomputable def Kq (j:Nat):AC:=(zJ jU j).1
noncomputable def kV:AC:=V'.1.code
noncomputable def QC:=zV kV
noncomputable def VD (j:Nat):AC:=(zJ kV j).1
noncomputable def uR:AC:=YO.1.code
noncomputable def UB:=zV uR
noncomputable def Yx (j:Nat):AC:=(zJ uR j).1
noncomputable def jS:AC:=WZ.1.code
noncomputable def KF:=zV jS
noncomputable def WI (j:Nat):AC:=(zJ jS j).1
noncomputable def uO:AC:=YL.1.code
noncomputable def Uy:=zV uO
noncomputable def Yv (j:Nat):AC:=(zJ uO j).1
noncomputable def Vf:AC:=Qs.1.code
noncomputable def zho:=zV Vf
noncomputable def zoI (j:Nat):AC:=(zJ Vf j).1
noncomputable def jX:AC:=W4.1.code
noncomputable def KL:=zV jX
noncomputable def ZZ (j:Nat):AC:=(zJ jX j).1
noncomputable def Wd:AC:=Jv.1.code
noncomputable def zgq:=zV Wd
noncomputable def znS (j:Nat):AC:=(zJ Wd j).1
noncomputable def jV:AC:=W2.1.code
noncomputable def KJ:=zV jV
noncomputable def ZX (j:Nat):AC:=(zJ jV j).1
noncomputable def Z5:AC:=W_.1.code
noncomputable def zcA:=zV Z5
noncomputable def zkh (j:Nat):AC:=(zJ Z5 j).1
noncomputable def Zn:AC:=XZ.1.code
noncomputable def zbH:=zV Zn
noncomputable def zjE (j:Nat):AC:=(zJ Zn j).1
noncomputable def Zo:AC:=X5.1.code
noncomputable def zbI:=zV Zo
noncomputable def zjF (j:Nat):AC:=(zJ Zo j).1
noncomputable def kX:AC:=Uk.1.code
noncomputable def QE:=zV kX
noncomputable def VF (j:Nat):AC:=(zJ kX j).1
noncomputable def UT:AC:=zag.1.code
noncomputable def zi0:=zV UT
noncomputable def zqw (j:Nat):AC:=(zJ UT j).1
noncomputable def uC:AC:=Yk.1.code
noncomputable def zcB:=zV uC
noncomputable def zki (j:Nat):AC:=(zJ uC j).1
noncomputable def Xb:AC:=Um.1.code
noncomputable def zd':=zV Xb
noncomputable def zmb (j:Nat):AC:=(zJ Xb j).1
noncomputable def Z4:AC:=W9.1.code
noncomputable def zcz:=zV Z4
noncomputable def zkg (j:Nat):AC:=(zJ Z4 j).1
noncomputable def Xc:AC:=Uq.1.code
noncomputable def zea:=zV Xc
noncomputable def zmc (j:Nat):AC:=(zJ Xc j).1
noncomputable def kW:AC:=Ui.1.code
noncomputable def QD:=zV kW
noncomputable def VE (j:Nat):AC:=(zJ kW j).1
noncomputable def Y8:AC:=Qu.1.code
noncomputable def zbG:=zV Y8
noncomputable def zbA (j:Nat):AC:=(zJ Y8 j).1
noncomputable def j5:AC:=W7.1.code
noncomputable def KO:=zV j5
noncomputable def Ks (j:Nat):AC:=(zJ j5 j).1
noncomputable def ZN:AC:=Jw.1.code
noncomputable def zaI:=zV ZN
noncomputable def zaE (j:Nat):AC:=(zJ ZN j).1
noncomputable def jY:AC:=W5.1.code
noncomputable def KM:=zV jY
noncomputable def Kr (j:Nat):AC:=(zJ jY j).1
noncomputable def UQ:AC:=zac.1.code
noncomputable def ziX:=zV UQ
noncomputable def zqt (j:Nat):AC:=(zJ UQ j).1
noncomputable def kA:AC:=YH.1.code
noncomputable def zaU:=zV kA
noncomputable def ziJ (j:Nat):AC:=(zJ kA j).1
noncomputable def YU:AC:=V3.1.code
noncomputable def zdV:=zV YU
noncomputable def zlV (j:Nat):AC:=(zJ YU j).1
noncomputable def Zk:AC:=XV.1.code
noncomputable def zbC:=zV Zk
noncomputable def zjC (j:Nat):AC:=(zJ Zk j).1
noncomputable def kU:AC:=V4.1.code
noncomputable def QB:=zV kU
noncomputable def VC (j:Nat):AC:=(zJ kU j).1
noncomputable def Vd:AC:=Qn.1.code
noncomputable def zhm:=zV Vd
noncomputable def zoG (j:Nat):AC:=(zJ Vd j).1
noncomputable def kl:AC:=Wn.1.code
noncomputable def zgm:=zV kl
noncomputable def znO (j:Nat):AC:=(zJ kl j).1
noncomputable def Y1:AC:=Qr.1.code
noncomputable def zbE:=zV Y1
noncomputable def zbz (j:Nat):AC:=(zJ Y1 j).1
noncomputable def jQ:AC:=WW.1.code
noncomputable def KD:=zV jQ
noncomputable def Kp (j:Nat):AC:=(zJ jQ j).1
noncomputable def ZK:AC:=Js.1.code
noncomputable def zaG:=zV ZK
noncomputable def zaD (j:Nat):AC:=(zJ ZK j).1
noncomputable def jN:AC:=WS.1.code
noncomputable def KA:=zV jN
noncomputable def Kn (j:Nat):AC:=(zJ jN j).1
noncomputable def YX:AC:=V6.1.code
noncomputable def zdX:=zV YX
noncomputable def zlX (j:Nat):AC:=(zJ YX j).1
noncomputable def Y5:AC:=Uc.1.code
noncomputable def zd4:=zV Y5
noncomputable def zl6 (j:Nat):AC:=(zJ Y5 j).1
noncomputable def Y3:AC:=Ua.1.code
noncomputable def zd2:=zV Y3
noncomputable def zl4 (j:Nat):AC:=(zJ Y3 j).1
noncomputable def Y':AC:=Uh.1.code
noncomputable def zd9:=zV Y'
noncomputable def zl' (j:Nat):AC:=(zJ Y' j).1
noncomputable def Wg:AC:=JA.1.code
noncomputable def zgu:=zV Wg
noncomputable def znW (j:Nat):AC:=(zJ Wg j).1
noncomputable def US:AC:=zaf.1.code
noncomputable def ziZ:=zV US
noncomputable def zqv (j:Nat):AC:=(zJ US j).1
noncomputable def Y9:AC:=Uf.1.code
noncomputable def zd7:=zV Y9
noncomputable def zl9 (j:Nat):AC:=(zJ Y9 j).1
noncomputable def Vg:AC:=Qt.1.code
noncomputable def zhp:=zV Vg
noncomputable def zoJ (j:Nat):AC:=(zJ Vg j).1
noncomputable def Y6:AC:=Ud.1.code
noncomputable def zd5:=zV Y6
noncomputable def zl7 (j:Nat):AC:=(zJ Y6 j).1
noncomputable def UR:AC:=zae.1.code
noncomputable def ziY:=zV UR
noncomputable def zqu (j:Nat):AC:=(zJ UR j).1
noncomputable def Y2:AC:=V_.1.code
noncomputable def zd1:=zV Y2
noncomputable def zl3 (j:Nat):AC:=(zJ Y2 j).1
noncomputable def Ve:AC:=Qq.1.code
noncomputable def zhn:=zV Ve
noncomputable def zoH (j:Nat):AC:=(zJ Ve j).1
noncomputable def YY:AC:=V7.1.code
noncomputable def zdY:=zV YY
noncomputable def zlY (j:Nat):AC:=(zJ YY j).1
noncomputable def Wf:AC:=Jy.1.code
noncomputable def zgt:=zV Wf
noncomputable def znV (j:Nat):AC:=(zJ Wf j).1
noncomputable def Zm:AC:=XX.1.code
noncomputable def zbF:=zV Zm
noncomputable def zjD (j:Nat):AC:=(zJ Zm j).1
def yN:List (Int×List Int):=[(1,[7,0,0,0]),(2,[8,0,0,0]),(3,[0,0,0,0]),(4,[1,9,0,0]),(5,[1,2,0,0]),(6,[1,2,0,0]),(7,[1,5,0,0]),(8,[5,2,0,0]),(9,[1,10,0,0]),(10,[10,2,0,0]),(11,[1,11,0,0]),(12,[1,0,0,0]),(13,[4,2,2,0]),(14,[4,2,3,0]),(15,[1,2,2,0]),(16,[2,2,2,0]),(17,[1,14,2,0]),(18,[1,13,2,2]),(19,[12,0,0,0]),(20,[2,12,0,0]),(21,[2,12,0,0]),(22,[1,0,0,0]),(23,[6,2,0,0]),(24,[6,3,0,0]),(25,[1,3,0,0]),(26,[1,6,15,0]),(27,[1,6,0,0]),(28,[1,2,3,0]),(29,[3,0,0,0]),(30,[2,0,0,0]),(31,[12,17,0,0]),(32,[0,0,0,0]),(33,[16,0,0,0]),(34,[16,0,0,0]),(35,[2,3,0,0]),(36,[0,0,0,0]),(37,[18,0,0,0]),(38,[18,12,0,0]),(39,[18,12,0,0]),(40,[19,0,0,0]),(41,[20,12,1,0]),(42,[1,0,0,0])]
def G1:List PV:=[.fm (yN.map λ e=>(.int .i64 e.1,.agg (e.2.map λ x=>.int .i64 x)))]
noncomputable def A:xn:=⟨λ f=>match f with
 |3=>some Uu.1
 |4=>some kL.1
 |5=>some Ju.1
 |6=>some XY.1
 |7=>some Wp.1
 |8=>some XT.1
 |9=>some zaC.1
 |10=>some Jr.1
 |11=>some Jx.1
 |12=>some Wm.1
 |13=>some WV.1
 |14=>some WY.1
 |15=>some YN.1
 |16=>some YJ.1
 |17=>some W3.1
 |18=>some YP.1
 |19=>some JE.1
 |20=>some W6.1
 |21=>some YG.1
 |22=>some Wo.1
 |23=>some WU.1
 |24=>some V9.1
 |25=>some YM.1
 |26=>some W0.1
 |27=>some YK.1
 |28=>some WX.1
 |29=>some YI.1
 |30=>some Ub.1
 |31=>some Ul.1
 |32=>some Uo.1
 |33=>some Uj.1
 |34=>some Un.1
 |35=>some Jz.1
 |36=>some JC.1
 |37=>some W8.1
 |38=>some Ur.1
 |39=>some JB.1
 |40=>some Yi.1
 |41=>some Yj.1
 |42=>some JD.1
 |43=>some Ue.1
 |44=>some Jq.1
 |45=>some V5.1
 |46=>some Ug.1
 |47=>some Qo.1
 |48=>some zad.1
 |49=>some ZE.1
 |50=>some XW.1
 |51=>some Qp.1
 |52=>some V8.1
 |53=>some Jt.1
 |54=>some WR.1
 |55=>some W1.1
 |56=>some V'.1
 |57=>some YO.1
 |58=>some WZ.1
 |59=>some YL.1
 |60=>some Qs.1
 |61=>some W4.1
 |62=>some Jv.1
 |63=>some W2.1
 |64=>some W_.1
 |65=>some XZ.1
 |66=>some X5.1
 |67=>some Uk.1
 |68=>some zag.1
 |69=>some Yk.1
 |70=>some Um.1
 |71=>some W9.1
 |72=>some Uq.1
 |73=>some Ui.1
 |74=>some Qu.1
 |75=>some W7.1
 |76=>some Jw.1
 |77=>some W5.1
 |78=>some zac.1
 |80=>some YH.1
 |81=>some V3.1
 |82=>some XV.1
 |83=>some V4.1
 |84=>some Qn.1
 |85=>some Wn.1
 |86=>some Qr.1
 |87=>some WW.1
 |88=>some Js.1
 |89=>some WS.1
 |90=>some V6.1
 |91=>some Uc.1
 |92=>some Ua.1
 |93=>some Uh.1
 |94=>some JA.1
 |95=>some zaf.1
 |96=>some Uf.1
 |97=>some Qt.1
 |98=>some Ud.1
 |99=>some zae.1
 |100=>some V_.1
 |101=>some Qq.1
 |102=>some V7.1
 |103=>some Jy.1
 |104=>some XX.1
 |_=>none,λ g=>match g with|1=>some G1|_=>none⟩
theorem Xx (x0 x1:PV):EP A K0 [x0,x1]=yD [.tmp 4] (EV A uA ⟨[(0,x0),(1,x1)],[],[],[]⟩):=yn (F:=kL.1) rfl rfl
theorem zgv (x0 x1:PV):EP A zgE [x0,x1]=yD [.tmp 4] (EV A Wc ⟨[(0,x0),(1,x1)],[],[],[]⟩):=yn (F:=Ju.1) rfl rfl
theorem JL (x0:PV):EP A zb5 [x0]=yD [.cell 2 true 3] (EV A jg ⟨[(0,x0)],[],[],[]⟩):=yn (F:=XY.1) rfl rfl
theorem zn4 (x0:PV):EP A Wj [x0]=yD [.cell 2 true 1] (EV A ZM ⟨[(0,x0)],[],[],[]⟩):=yn (F:=Wp.1) rfl rfl
theorem zog (x0:PV) (H:zd):ES A Wj [x0] H=vY H.length [.cell 2 true 1] (EV A ZM ⟨[(0,x0)],[],H,[]⟩):=vR (F:=Wp.1) rfl rfl
theorem JJ (x0:PV):EP A zb1 [x0]=yD [.cell 2 true 3] (EV A jf ⟨[(0,x0)],[],[],[]⟩):=yn (F:=XT.1) rfl rfl
theorem zn0 (x0 x1:PV):EP A zgB [x0,x1]=yD [.tmp 4] (EV A Wb ⟨[(0,x0),(1,x1)],[],[],[]⟩):=yn (F:=Jr.1) rfl rfl
theorem U9 (x0 x1:PV):EP A zaO [x0,x1]=yD [.tmp 4] (EV A We ⟨[(0,x0),(1,x1)],[],[],[]⟩):=yn (F:=Jx.1) rfl rfl
theorem U8 (x0 x1:PV):EP A ZP [x0,x1]=yD [.tmp 4] (EV A kk ⟨[(0,x0),(1,x1)],[],[],[]⟩):=yn (F:=Wm.1) rfl rfl
theorem Ji (x0 x1:PV) (H:zd):ES A ZP [x0,x1] H=vY H.length [.tmp 4] (EV A kk ⟨[(0,x0),(1,x1)],[],H,[]⟩):=vR (F:=Wm.1) rfl rfl
theorem zcE (x0 x1:PV):EP A K1 [x0,x1]=yD [.tmp 4] (EV A jP ⟨[(0,x0),(1,x1)],[],[],[]⟩):=yn (F:=WV.1) rfl rfl
theorem zlr (x0 x1:PV) (H:zd):ES A zcY [x0,x1] H=vY H.length [.tmp 4] (EV A Z2 ⟨[(0,x0),(1,x1)],[],H,[]⟩):=vR (F:=WY.1) rfl rfl
theorem za7 (x0 x1:PV) (H:zd):ES A UG [x0,x1] H=vY H.length [.tmp 4] (EV A uQ ⟨[(0,x0),(1,x1)],[],H,[]⟩):=vR (F:=YN.1) rfl rfl
theorem zaX (x0 x1:PV):EP A UF [x0,x1]=yD [.tmp 4] (EV A uM ⟨[(0,x0),(1,x1)],[],[],[]⟩):=yn (F:=YJ.1) rfl rfl
theorem KU (x0 x1:PV):EP A zc3 [x0,x1]=yD [.tmp 4] (EV A jW ⟨[(0,x0),(1,x1)],[],[],[]⟩):=yn (F:=W3.1) rfl rfl
theorem Yz (x0:PV):EP A za5 [x0]=yD [.cell 2 true 3] (EV A vq ⟨[(0,x0)],[],[],[]⟩):=yn (F:=YP.1) rfl rfl
theorem U_ (x0 x1:PV):EP A Je [x0,x1]=yD [.tmp 4,.cell 5 true 3] (EV A vM ⟨[(0,x0),(1,x1)],[],[],[]⟩):=yn (F:=JE.1) rfl rfl
theorem zlu (x0:PV) (H:zd):ES A zc6 [x0] H=vY H.length [.tmp 2] (EV A jZ ⟨[(0,x0)],[],H,[]⟩):=vR (F:=W6.1) rfl rfl
theorem wA (x0:PV):EP A zaY [x0]=yD [.cell 2 true 3] (EV A yV ⟨[(0,x0)],[],[],[]⟩):=yn (F:=YG.1) rfl rfl
theorem znY (x0 x1:PV):EP A ZQ [x0,x1]=yD [.tmp 4,.tmp 5,.tmp 6] (EV A vL ⟨[(0,x0),(1,x1)],[],[],[]⟩):=yn (F:=Wo.1) rfl rfl
theorem zof (x0 x1:PV) (H:zd):ES A ZQ [x0,x1] H=vY H.length [.tmp 4,.tmp 5,.tmp 6] (EV A vL ⟨[(0,x0),(1,x1)],[],H,[]⟩):=vR (F:=Wo.1) rfl rfl
theorem zkv (x0 x1:PV):EP A zcV [x0,x1]=yD [.tmp 4] (EV A jO ⟨[(0,x0),(1,x1)],[],[],[]⟩):=yn (F:=WU.1) rfl rfl
theorem zmp (x0 x1:PV):EP A zeG [x0,x1]=yD [.tmp 4] (EV A Y0 ⟨[(0,x0),(1,x1)],[],[],[]⟩):=yn (F:=V9.1) rfl rfl
theorem ziQ (x0 x1:PV) (H:zd):ES A za3 [x0,x1] H=vY H.length [.tmp 4] (EV A uP ⟨[(0,x0),(1,x1)],[],H,[]⟩):=vR (F:=YM.1) rfl rfl
theorem zdb (x0 x1:PV) (H:zd):ES A zc0 [x0,x1] H=vY H.length [.tmp 4] (EV A jT ⟨[(0,x0),(1,x1)],[],H,[]⟩):=vR (F:=W0.1) rfl rfl
theorem za6 (x0 x1:PV) (H:zd):ES A za1 [x0,x1] H=vY H.length [.tmp 4] (EV A uN ⟨[(0,x0),(1,x1)],[],H,[]⟩):=vR (F:=YK.1) rfl rfl
theorem zkx (x0 x1:PV):EP A zcX [x0,x1]=yD [.tmp 4] (EV A jR ⟨[(0,x0),(1,x1)],[],[],[]⟩):=yn (F:=WX.1) rfl rfl
theorem ziL (x0 x1:PV):EP A za0 [x0,x1]=yD [.tmp 4] (EV A uL ⟨[(0,x0),(1,x1)],[],[],[]⟩):=yn (F:=YI.1) rfl rfl
theorem kZ (x0 x1:PV):EP A zeK [x0,x1]=yD [.tmp 4] (EV A Y4 ⟨[(0,x0),(1,x1)],[],[],[]⟩):=yn (F:=Ub.1) rfl rfl
theorem k_ (x0:PV):EP A zeT [x0]=yD [.cell 2 true 3] (EV A wt ⟨[(0,x0)],[],[],[]⟩):=yn (F:=Ul.1) rfl rfl
theorem zeo (x0 x1 x2:PV):EP A zeW [x0,x1,x2]=yD [.tmp 6] (EV A kY ⟨[(0,x0),(1,x1),(2,x2)],[],[],[]⟩):=yn (F:=Uo.1) rfl rfl
theorem zmw (x0 x1 x2:PV):EP A zeR [x0,x1,x2]=yD [.cell 6 true 3] (EV A Xa ⟨[(0,x0),(1,x1),(2,x2)],[],[],[]⟩):=yn (F:=Uj.1) rfl rfl
theorem zen (x0 x1:PV):EP A zeV [x0,x1]=yD [.tmp 4] (EV A jh ⟨[(0,x0),(1,x1)],[],[],[]⟩):=yn (F:=Un.1) rfl rfl
theorem zoi (x0:PV) (H:zd):ES A zgI [x0] H=vY H.length [.tmp 2] (EV A ZO ⟨[(0,x0)],[],H,[]⟩):=vR (F:=Jz.1) rfl rfl
theorem Jj (x0 x1 x2 x3:PV) (H:zd):ES A zaP [x0,x1,x2,x3] H=vY H.length [.tmp 8,.tmp 9] (EV A uf ⟨[(0,x0),(1,x1),(2,x2),(3,x3)],[],H,[]⟩):=vR (F:=JC.1) rfl rfl
theorem yL (x0 x1:PV):EP A vu [x0,x1]=yD [.tmp 4,.tmp 5] (EV A Z3 ⟨[(0,x0),(1,x1)],[],[],[]⟩):=yn (F:=W8.1) rfl rfl
theorem vm (x0 x1:PV) (H:zd):ES A zeY [x0,x1] H=vY H.length [] (EV A Xd ⟨[(0,x0),(1,x1)],[],H,[]⟩):=vR (F:=Ur.1) rfl rfl
theorem zgw (x0 x1 x2 x3 x4:PV):EP A zgK [x0,x1,x2,x3,x4]=yD [.tmp 10] (EV A uV ⟨[(0,x0),(1,x1),(2,x2),(3,x3),(4,x4)],[],[],[]⟩):=yn (F:=JB.1) rfl rfl
theorem vE (x0 x1 x2 x3 x4:PV) (H:zd):ES A zan [x0,x1,x2,x3,x4] H=vY H.length [.tmp 10] (EV A ur ⟨[(0,x0),(1,x1),(2,x2),(3,x3),(4,x4)],[],H,[]⟩):=vR (F:=Yi.1) rfl rfl
theorem zkz (x0:PV):EP A WN [x0]=yD [.tmp 2] (EV A uB ⟨[(0,x0)],[],[],[]⟩):=yn (F:=Yj.1) rfl rfl
theorem zlw (x0:PV) (H:zd):ES A WN [x0] H=vY H.length [.tmp 2] (EV A uB ⟨[(0,x0)],[],H,[]⟩):=vR (F:=Yj.1) rfl rfl
theorem Wh (x0 x1:PV):EP A zgL [x0,x1]=yD [.tmp 4] (EV A km ⟨[(0,x0),(1,x1)],[],[],[]⟩):=yn (F:=JD.1) rfl rfl
theorem zmV (x0:PV) (H:zd):ES A QR [x0] H=vY H.length [.cell 2 true 9] (EV A Y7 ⟨[(0,x0)],[],H,[]⟩):=vR (F:=Ue.1) rfl rfl
theorem znZ (x0 x1 x2:PV):EP A zgA [x0,x1,x2]=yD [.tmp 6] (EV A Wa ⟨[(0,x0),(1,x1),(2,x2)],[],[],[]⟩):=yn (F:=Jq.1) rfl rfl
theorem vk (x0:PV):EP A zeC [x0]=yD [.tmp 2] (EV A YW ⟨[(0,x0)],[],[],[]⟩):=yn (F:=V5.1) rfl rfl
theorem zmv (x0:PV):EP A zeO [x0]=yD [.tmp 2] (EV A Y_ ⟨[(0,x0)],[],[],[]⟩):=yn (F:=Ug.1) rfl rfl
theorem zbM (x0 x1 x2:PV):EP A zhW [x0,x1,x2]=yD [.tmp 6] (EV A YV ⟨[(0,x0),(1,x1),(2,x2)],[],[],[]⟩):=yn (F:=Qo.1) rfl rfl
theorem zrs (x0 x1 x2 x3:PV) (H:zd):ES A zdO [x0,x1,x2,x3] H=vY H.length [.tmp 8,.tmp 9] (EV A wa ⟨[(0,x0),(1,x1),(2,x2),(3,x3)],[],H,[]⟩):=vR (F:=zad.1) rfl rfl
theorem zhc (x0:PV) (H:zd):ES A Qw [x0] H=vY H.length [.cell 2 true 3] (EV A uY ⟨[(0,x0)],[],H,[]⟩):=vR (F:=ZE.1) rfl rfl
theorem Zp (x0 x1:PV):EP A zb3 [x0,x1]=yD [.tmp 4] (EV A ui ⟨[(0,x0),(1,x1)],[],[],[]⟩):=yn (F:=XW.1) rfl rfl
theorem zhz (x0 x1:PV):EP A zhX [x0,x1]=yD [.tmp 4] (EV A Zl ⟨[(0,x0),(1,x1)],[],[],[]⟩):=yn (F:=Qp.1) rfl rfl
theorem zmo (x0 x1:PV):EP A zeF [x0,x1]=yD [.tmp 4] (EV A YZ ⟨[(0,x0),(1,x1)],[],[],[]⟩):=yn (F:=V8.1) rfl rfl
theorem zn2 (x0 x1:PV):EP A zgD [x0,x1]=yD [.tmp 4] (EV A ZL ⟨[(0,x0),(1,x1)],[],[],[]⟩):=yn (F:=Jt.1) rfl rfl
theorem zkt (x0 x1:PV):EP A zcT [x0,x1]=yD [.tmp 4] (EV A jM ⟨[(0,x0),(1,x1)],[],[],[]⟩):=yn (F:=WR.1) rfl rfl
theorem zcF (x0:PV):EP A zc1 [x0]=yD [.tmp 2] (EV A jU ⟨[(0,x0)],[],[],[]⟩):=yn (F:=W1.1) rfl rfl
theorem zmU (x0 x1:PV) (H:zd):ES A zeI [x0,x1] H=vY H.length [.tmp 4] (EV A kV ⟨[(0,x0),(1,x1)],[],H,[]⟩):=vR (F:=V'.1) rfl rfl
theorem ziR (x0 x1:PV) (H:zd):ES A za4 [x0,x1] H=vY H.length [.tmp 4] (EV A uR ⟨[(0,x0),(1,x1)],[],H,[]⟩):=vR (F:=YO.1) rfl rfl
theorem zls (x0 x1:PV) (H:zd):ES A zcZ [x0,x1] H=vY H.length [.tmp 4] (EV A jS ⟨[(0,x0),(1,x1)],[],H,[]⟩):=vR (F:=WZ.1) rfl rfl
theorem ziP (x0 x1:PV) (H:zd):ES A za2 [x0,x1] H=vY H.length [.tmp 4] (EV A uO ⟨[(0,x0),(1,x1)],[],H,[]⟩):=vR (F:=YL.1) rfl rfl
theorem zo_ (x0 x1:PV):EP A zh0 [x0,x1]=yD [.tmp 4] (EV A Vf ⟨[(0,x0),(1,x1)],[],[],[]⟩):=yn (F:=Qs.1) rfl rfl
theorem KV (x0 x1:PV):EP A zc4 [x0,x1]=yD [.tmp 4] (EV A jX ⟨[(0,x0),(1,x1)],[],[],[]⟩):=yn (F:=W4.1) rfl rfl
theorem zn3 (x0 x1:PV):EP A zgF [x0,x1]=yD [.tmp 4] (EV A Wd ⟨[(0,x0),(1,x1)],[],[],[]⟩):=yn (F:=Jv.1) rfl rfl
theorem KT (x0 x1:PV):EP A zc2 [x0,x1]=yD [.tmp 4] (EV A jV ⟨[(0,x0),(1,x1)],[],[],[]⟩):=yn (F:=W2.1) rfl rfl
theorem v8 (x0 x1:PV):EP A zc9 [x0,x1]=yD [.tmp 4] (EV A Z5 ⟨[(0,x0),(1,x1)],[],[],[]⟩):=yn (F:=W_.1) rfl rfl
theorem uj (x0:PV):EP A zb6 [x0]=yD [.tmp 2] (EV A Zn ⟨[(0,x0)],[],[],[]⟩):=yn (F:=XZ.1) rfl rfl
theorem zjN (x0 x1:PV):EP A zb7 [x0,x1]=yD [.tmp 4] (EV A Zo ⟨[(0,x0),(1,x1)],[],[],[]⟩):=yn (F:=X5.1) rfl rfl
theorem VL (x0 x1 x2:PV):EP A zeS [x0,x1,x2]=yD [.tmp 6] (EV A kX ⟨[(0,x0),(1,x1),(2,x2)],[],[],[]⟩):=yn (F:=Uk.1) rfl rfl
theorem zqM (x0 x1 x2:PV):EP A zjj [x0,x1,x2]=yD [.tmp 6] (EV A UT ⟨[(0,x0),(1,x1),(2,x2)],[],[],[]⟩):=yn (F:=zag.1) rfl rfl
theorem zkA (x0 x1:PV):EP A WO [x0,x1]=yD [.tmp 4] (EV A uC ⟨[(0,x0),(1,x1)],[],[],[]⟩):=yn (F:=Yk.1) rfl rfl
theorem zdc (x0 x1:PV) (H:zd):ES A WO [x0,x1] H=vY H.length [.tmp 4] (EV A uC ⟨[(0,x0),(1,x1)],[],H,[]⟩):=vR (F:=Yk.1) rfl rfl
theorem zP (x0:PV):EP A zeU [x0]=yD [.tmp 2] (EV A Xb ⟨[(0,x0)],[],[],[]⟩):=yn (F:=Um.1) rfl rfl
theorem zky (x0:PV):EP A zc8 [x0]=yD [.tmp 2] (EV A Z4 ⟨[(0,x0)],[],[],[]⟩):=yn (F:=W9.1) rfl rfl
theorem vO (x0:PV):EP A zeX [x0]=yD [.tmp 2,.tmp 3] (EV A Xc ⟨[(0,x0)],[],[],[]⟩):=yn (F:=Uq.1) rfl rfl
theorem zem (x0 x1:PV):EP A zeQ [x0,x1]=yD [.tmp 4] (EV A kW ⟨[(0,x0),(1,x1)],[],[],[]⟩):=yn (F:=Ui.1) rfl rfl
theorem zp3 (x0:PV) (H:zd):ES A zh2 [x0] H=vY H.length [.tmp 2] (EV A Y8 ⟨[(0,x0)],[],H,[]⟩):=vR (F:=Qu.1) rfl rfl
theorem zlv (x0:PV) (H:zd):ES A zc7 [x0] H=vY H.length [.tmp 2] (EV A j5 ⟨[(0,x0)],[],H,[]⟩):=vR (F:=W7.1) rfl rfl
theorem zoh (x0:PV) (H:zd):ES A zgG [x0] H=vY H.length [.tmp 2] (EV A ZN ⟨[(0,x0)],[],H,[]⟩):=vR (F:=Jw.1) rfl rfl
theorem zlt (x0:PV) (H:zd):ES A zc5 [x0] H=vY H.length [.tmp 2] (EV A jY ⟨[(0,x0)],[],H,[]⟩):=vR (F:=W5.1) rfl rfl
theorem zqJ (x0 x1 x2 x3 x4:PV):EP A zjg [x0,x1,x2,x3,x4]=yD [.tmp 10] (EV A UQ ⟨[(0,x0),(1,x1),(2,x2),(3,x3),(4,x4)],[],[],[]⟩):=yn (F:=zac.1) rfl rfl
theorem ziK (x0:PV):EP A zaZ [x0]=yD [.cell 2 true 4] (EV A kA ⟨[(0,x0)],[],[],[]⟩):=yn (F:=YH.1) rfl rfl
theorem yE (x0 x1 x2 x3:PV):EP A zeA [x0,x1,x2,x3]=yD [.tmp 8] (EV A YU ⟨[(0,x0),(1,x1),(2,x2),(3,x3)],[],[],[]⟩):=yn (F:=V3.1) rfl rfl
theorem zjL (x0:PV):EP A zb2 [x0]=yD [.tmp 2] (EV A Zk ⟨[(0,x0)],[],[],[]⟩):=yn (F:=XV.1) rfl rfl
theorem zek (x0 x1:PV):EP A zeB [x0,x1]=yD [.tmp 3] (EV A kU ⟨[(0,x0),(1,x1)],[],[],[]⟩):=yn (F:=V4.1) rfl rfl
theorem Xe (x0:PV):EP A zhV [x0]=yD [.tmp 2] (EV A Vd ⟨[(0,x0)],[],[],[]⟩):=yn (F:=Qn.1) rfl rfl
theorem znX (x0 x1:PV):EP A Jd [x0,x1]=yD [.tmp 4] (EV A kl ⟨[(0,x0),(1,x1)],[],[],[]⟩):=yn (F:=Wn.1) rfl rfl
theorem zgO (x0 x1:PV) (H:zd):ES A Jd [x0,x1] H=vY H.length [.tmp 4] (EV A kl ⟨[(0,x0),(1,x1)],[],H,[]⟩):=vR (F:=Wn.1) rfl rfl
theorem zo9 (x0 x1:PV):EP A zhZ [x0,x1]=yD [.tmp 4] (EV A Y1 ⟨[(0,x0),(1,x1)],[],[],[]⟩):=yn (F:=Qr.1) rfl rfl
theorem zkw (x0 x1:PV):EP A zcW [x0,x1]=yD [.tmp 4] (EV A jQ ⟨[(0,x0),(1,x1)],[],[],[]⟩):=yn (F:=WW.1) rfl rfl
theorem zn1 (x0 x1:PV):EP A zgC [x0,x1]=yD [.tmp 4] (EV A ZK ⟨[(0,x0),(1,x1)],[],[],[]⟩):=yn (F:=Js.1) rfl rfl
theorem zku (x0 x1:PV):EP A zcU [x0,x1]=yD [.tmp 4] (EV A jN ⟨[(0,x0),(1,x1)],[],[],[]⟩):=yn (F:=WS.1) rfl rfl
theorem zmm (x0 x1:PV):EP A zeD [x0,x1]=yD [.tmp 4] (EV A YX ⟨[(0,x0),(1,x1)],[],[],[]⟩):=yn (F:=V6.1) rfl rfl
theorem zms (x0 x1:PV):EP A zeL [x0,x1]=yD [.tmp 4] (EV A Y5 ⟨[(0,x0),(1,x1)],[],[],[]⟩):=yn (F:=Uc.1) rfl rfl
theorem zmr (x0 x1:PV):EP A zeJ [x0,x1]=yD [.tmp 4] (EV A Y3 ⟨[(0,x0),(1,x1)],[],[],[]⟩):=yn (F:=Ua.1) rfl rfl
theorem vl (x0:PV):EP A zeP [x0]=yD [.tmp 2] (EV A Y' ⟨[(0,x0)],[],[],[]⟩):=yn (F:=Uh.1) rfl rfl
theorem y9 (x0 x1 x2 x3:PV):EP A zgJ [x0,x1,x2,x3]=yD [.tmp 8] (EV A Wg ⟨[(0,x0),(1,x1),(2,x2),(3,x3)],[],[],[]⟩):=yn (F:=JA.1) rfl rfl
theorem zqL (x0:PV):EP A zji [x0]=yD [.cell 2 true 2] (EV A US ⟨[(0,x0)],[],[],[]⟩):=yn (F:=zaf.1) rfl rfl
theorem zmu (x0:PV):EP A zeN [x0]=yD [.cell 2 true 5] (EV A Y9 ⟨[(0,x0)],[],[],[]⟩):=yn (F:=Uf.1) rfl rfl
theorem zo' (x0:PV):EP A zh1 [x0]=yD [.cell 2 true 5] (EV A Vg ⟨[(0,x0)],[],[],[]⟩):=yn (F:=Qt.1) rfl rfl
theorem zmt (x0:PV):EP A zeM [x0]=yD [.cell 2 true 4] (EV A Y6 ⟨[(0,x0)],[],[],[]⟩):=yn (F:=Ud.1) rfl rfl
theorem zqK (x0 x1:PV):EP A zjh [x0,x1]=yD [.tmp 4] (EV A UR ⟨[(0,x0),(1,x1)],[],[],[]⟩):=yn (F:=zae.1) rfl rfl
theorem zmq (x0 x1:PV):EP A zeH [x0,x1]=yD [.tmp 4] (EV A Y2 ⟨[(0,x0),(1,x1)],[],[],[]⟩):=yn (F:=V_.1) rfl rfl
theorem zo8 (x0 x1:PV):EP A zhY [x0,x1]=yD [.tmp 4] (EV A Ve ⟨[(0,x0),(1,x1)],[],[],[]⟩):=yn (F:=Qq.1) rfl rfl
theorem zmn (x0 x1:PV):EP A zeE [x0,x1]=yD [.tmp 4] (EV A YY ⟨[(0,x0),(1,x1)],[],[],[]⟩):=yn (F:=V7.1) rfl rfl
theorem zn5 (x0 x1 x2 x3 x4:PV):EP A zgH [x0,x1,x2,x3,x4]=yD [.tmp 10] (EV A Wf ⟨[(0,x0),(1,x1),(2,x2),(3,x3),(4,x4)],[],[],[]⟩):=yn (F:=Jy.1) rfl rfl
theorem JK (x0 x1:PV):EP A zb4 [x0,x1]=yD [.tmp 4] (EV A Zm ⟨[(0,x0),(1,x1)],[],[],[]⟩):=yn (F:=XX.1) rfl rfl
noncomputable def XG:=yZ (c:=uA) (R:=Ky) (B:=zfB) rfl rfl (λ R B=>by cbv)
noncomputable def Xj:=yk (P:=A) (c:=uA) (R:=Ky) rfl rfl (by cbv) (λ P R=>by cbv)
noncomputable def zgR:=yZ (c:=Wc) (R:=zgp) (B:=znR) rfl rfl (λ R B=>by cbv)
noncomputable def ze3:=yk (P:=A) (c:=Wc) (R:=zgp) rfl rfl (by cbv) (λ P R=>by cbv)
noncomputable def J4:=yZ (c:=jg) (R:=JI) (B:=Xv) rfl rfl (λ R B=>by cbv)
noncomputable def WF:=xb (c:=jg) (R:=JI) (B:=Xv) (j:=0) rfl rfl (λ R B=>by cbv)
noncomputable def uT:=yk (P:=A) (c:=jg) (R:=JI) rfl rfl (by cbv) (λ P R=>by cbv)
noncomputable def zgS:=yZ (c:=ZM) (R:=zgr) (B:=znT) rfl rfl (λ R B=>by cbv)
noncomputable def ze4:=yk (P:=A) (c:=ZM) (R:=zgr) rfl rfl (by cbv) (λ P R=>by cbv)
noncomputable def J2:=yZ (c:=jf) (R:=JH) (B:=Xu) rfl rfl (λ R B=>by cbv)
noncomputable def WC:=xb (c:=jf) (R:=JH) (B:=Xu) (j:=0) rfl rfl (λ R B=>by cbv)
noncomputable def uS:=yk (P:=A) (c:=jf) (R:=JH) rfl rfl (by cbv) (λ P R=>by cbv)
noncomputable def zom:=yZ (c:=Wb) (R:=zgo) (B:=znQ) rfl rfl (λ R B=>by cbv)
noncomputable def zmQ:=yk (P:=A) (c:=Wb) (R:=zgo) rfl rfl (by cbv) (λ P R=>by cbv)
noncomputable def Jn:=yZ (c:=We) (R:=zgs) (B:=znU) rfl rfl (λ R B=>by cbv)
noncomputable def VT:=yk (P:=A) (c:=We) (R:=zgs) rfl rfl (by cbv) (λ P R=>by cbv)
noncomputable def kr:=yZ (c:=kk) (R:=zgl) (B:=znN) rfl rfl (λ R B=>by cbv)
noncomputable def jo:=yk (P:=A) (c:=kk) (R:=zgl) rfl rfl (by cbv) (λ P R=>by cbv)
noncomputable def zdg:=yZ (c:=jP) (R:=KC) (B:=ZV) rfl rfl (λ R B=>by cbv)
noncomputable def Vv:=xb (c:=jP) (R:=KC) (B:=ZV) (j:=0) rfl rfl (λ R B=>by cbv)
noncomputable def Zr:=yk (P:=A) (c:=jP) (R:=KC) rfl rfl (by cbv) (λ P R=>by cbv)
noncomputable def zlM:=yZ (c:=Z2) (R:=zcx) (B:=zke) rfl rfl (λ R B=>by cbv)
noncomputable def zj6:=yk (P:=A) (c:=Z2) (R:=zcx) rfl rfl (by cbv) (λ P R=>by cbv)
noncomputable def za_:=yZ (c:=uQ) (R:=UA) (B:=ky) rfl rfl (λ R B=>by cbv)
noncomputable def XN:=xb (c:=uQ) (R:=UA) (B:=ky) (j:=0) rfl rfl (λ R B=>by cbv)
noncomputable def jJ:=yk (P:=A) (c:=uQ) (R:=UA) rfl rfl (by cbv) (λ P R=>by cbv)
noncomputable def za8:=yZ (c:=uM) (R:=Uw) (B:=ku) rfl rfl (λ R B=>by cbv)
noncomputable def XL:=xb (c:=uM) (R:=Uw) (B:=ku) (j:=0) rfl rfl (λ R B=>by cbv)
noncomputable def jH:=yk (P:=A) (c:=uM) (R:=Uw) rfl rfl (by cbv) (λ P R=>by cbv)
noncomputable def Qe:=yZ (c:=jW) (R:=KK) (B:=ZY) rfl rfl (λ R B=>by cbv)
noncomputable def Vz:=xb (c:=jW) (R:=KK) (B:=ZY) (j:=0) rfl rfl (λ R B=>by cbv)
noncomputable def jq:=yk (P:=A) (c:=jW) (R:=KK) rfl rfl (by cbv) (λ P R=>by cbv)
noncomputable def YB:=yZ (c:=vq) (R:=kz) (B:=xZ) rfl rfl (λ R B=>by cbv)
noncomputable def XO:=xb (c:=vq) (R:=kz) (B:=xZ) (j:=0) rfl rfl (λ R B=>by cbv)
noncomputable def kK:=xb (c:=vq) (R:=kz) (B:=xZ) (j:=1) rfl rfl (λ R B=>by cbv)
noncomputable def XP:=xb (c:=vq) (R:=kz) (B:=xZ) (j:=2) rfl rfl (λ R B=>by cbv)
noncomputable def xj:=yk (P:=A) (c:=vq) (R:=kz) rfl rfl (by cbv) (λ P R=>by cbv)
noncomputable def Jp:=yZ (c:=vM) (R:=kj) (B:=xG) rfl rfl (λ R B=>by cbv)
noncomputable def zck:=xb (c:=vM) (R:=kj) (B:=xG) (j:=0) rfl rfl (λ R B=>by cbv)
noncomputable def uo:=xb (c:=vM) (R:=kj) (B:=xG) (j:=1) rfl rfl (λ R B=>by cbv)
noncomputable def J':=xb (c:=vM) (R:=kj) (B:=xG) (j:=2) rfl rfl (λ R B=>by cbv)
noncomputable def XR:=xb (c:=vM) (R:=kj) (B:=xG) (j:=3) rfl rfl (λ R B=>by cbv)
noncomputable def XS:=xb (c:=vM) (R:=kj) (B:=xG) (j:=4) rfl rfl (λ R B=>by cbv)
noncomputable def yz:=yk (P:=A) (c:=vM) (R:=kj) rfl rfl (by cbv) (λ P R=>by cbv)
noncomputable def zlP:=yZ (c:=jZ) (R:=KN) (B:=WJ) rfl rfl (λ R B=>by cbv)
noncomputable def zay:=xb (c:=jZ) (R:=KN) (B:=WJ) (j:=0) rfl rfl (λ R B=>by cbv)
noncomputable def JY:=yk (P:=A) (c:=jZ) (R:=KN) rfl rfl (by cbv) (λ P R=>by cbv)
noncomputable def wB:=yZ (c:=yV) (R:=xx) (B:=zM) rfl rfl (λ R B=>by cbv)
noncomputable def Qg:=xb (c:=yV) (R:=xx) (B:=zM) (j:=0) rfl rfl (λ R B=>by cbv)
noncomputable def yj:=xb (c:=yV) (R:=xx) (B:=zM) (j:=1) rfl rfl (λ R B=>by cbv)
noncomputable def XH:=xb (c:=yV) (R:=xx) (B:=zM) (j:=2) rfl rfl (λ R B=>by cbv)
noncomputable def wn:=xb (c:=yV) (R:=xx) (B:=zM) (j:=3) rfl rfl (λ R B=>by cbv)
noncomputable def XI:=xb (c:=yV) (R:=xx) (B:=zM) (j:=4) rfl rfl (λ R B=>by cbv)
noncomputable def wo:=xb (c:=yV) (R:=xx) (B:=zM) (j:=5) rfl rfl (λ R B=>by cbv)
noncomputable def kJ:=xb (c:=yV) (R:=xx) (B:=zM) (j:=6) rfl rfl (λ R B=>by cbv)
noncomputable def ve:=xb (c:=yV) (R:=xx) (B:=zM) (j:=7) rfl rfl (λ R B=>by cbv)
noncomputable def XJ:=xb (c:=yV) (R:=xx) (B:=zM) (j:=8) rfl rfl (λ R B=>by cbv)
noncomputable def vU:=xb (c:=yV) (R:=xx) (B:=zM) (j:=9) rfl rfl (λ R B=>by cbv)
noncomputable def Xo:=xb (c:=yV) (R:=xx) (B:=zM) (j:=10) rfl rfl (λ R B=>by cbv)
noncomputable def kh:=xb (c:=yV) (R:=xx) (B:=zM) (j:=11) rfl rfl (λ R B=>by cbv)
noncomputable def zf:=yk (P:=A) (c:=yV) (R:=xx) rfl rfl (by cbv) (λ P R=>by cbv)
noncomputable def ZU:=yZ (c:=vL) (R:=X8) (B:=vI) rfl rfl (λ R B=>by cbv)
noncomputable def zcg:=xb (c:=vL) (R:=X8) (B:=vI) (j:=0) rfl rfl (λ R B=>by cbv)
noncomputable def Zz:=xb (c:=vL) (R:=X8) (B:=vI) (j:=1) rfl rfl (λ R B=>by cbv)
noncomputable def XK:=xb (c:=vL) (R:=X8) (B:=vI) (j:=2) rfl rfl (λ R B=>by cbv)
noncomputable def xD:=yk (P:=A) (c:=vL) (R:=X8) rfl rfl (by cbv) (λ P R=>by cbv)
noncomputable def zlJ:=yZ (c:=jO) (R:=KB) (B:=Ko) rfl rfl (λ R B=>by cbv)
noncomputable def zat:=xb (c:=jO) (R:=KB) (B:=Ko) (j:=0) rfl rfl (λ R B=>by cbv)
noncomputable def JT:=yk (P:=A) (c:=jO) (R:=KB) rfl rfl (by cbv) (λ P R=>by cbv)
noncomputable def zm7:=yZ (c:=Y0) (R:=zd0) (B:=zl0) rfl rfl (λ R B=>by cbv)
noncomputable def zlf:=yk (P:=A) (c:=Y0) (R:=zd0) rfl rfl (by cbv) (λ P R=>by cbv)
noncomputable def ziV:=yZ (c:=uP) (R:=Uz) (B:=Yw) rfl rfl (λ R B=>by cbv)
noncomputable def Qk:=xb (c:=uP) (R:=Uz) (B:=Yw) (j:=0) rfl rfl (λ R B=>by cbv)
noncomputable def Vn:=yk (P:=A) (c:=uP) (R:=Uz) rfl rfl (by cbv) (λ P R=>by cbv)
noncomputable def zdh:=yZ (c:=jT) (R:=KH) (B:=ZW) rfl rfl (λ R B=>by cbv)
noncomputable def Vw:=xb (c:=jT) (R:=KH) (B:=ZW) (j:=0) rfl rfl (λ R B=>by cbv)
noncomputable def Zs:=yk (P:=A) (c:=jT) (R:=KH) rfl rfl (by cbv) (λ P R=>by cbv)
noncomputable def za9:=yZ (c:=uN) (R:=Ux) (B:=kw) rfl rfl (λ R B=>by cbv)
noncomputable def XM:=xb (c:=uN) (R:=Ux) (B:=kw) (j:=0) rfl rfl (λ R B=>by cbv)
noncomputable def jI:=yk (P:=A) (c:=uN) (R:=Ux) rfl rfl (by cbv) (λ P R=>by cbv)
noncomputable def zlL:=yZ (c:=jR) (R:=KE) (B:=WH) rfl rfl (λ R B=>by cbv)
noncomputable def zav:=xb (c:=jR) (R:=KE) (B:=WH) (j:=0) rfl rfl (λ R B=>by cbv)
noncomputable def JV:=yk (P:=A) (c:=jR) (R:=KE) rfl rfl (by cbv) (λ P R=>by cbv)
noncomputable def ziT:=yZ (c:=uL) (R:=Uv) (B:=Yu) rfl rfl (λ R B=>by cbv)
noncomputable def Qi:=xb (c:=uL) (R:=Uv) (B:=Yu) (j:=0) rfl rfl (λ R B=>by cbv)
noncomputable def Vl:=yk (P:=A) (c:=uL) (R:=Uv) rfl rfl (by cbv) (λ P R=>by cbv)
noncomputable def Ze:=yZ (c:=Y4) (R:=zd3) (B:=zl5) rfl rfl (λ R B=>by cbv)
noncomputable def kb:=yk (P:=A) (c:=Y4) (R:=zd3) rfl rfl (by cbv) (λ P R=>by cbv)
noncomputable def Zf:=yZ (c:=wt) (R:=vj) (B:=yy) rfl rfl (λ R B=>by cbv)
noncomputable def zba:=xb (c:=wt) (R:=vj) (B:=yy) (j:=0) rfl rfl (λ R B=>by cbv)
noncomputable def UK:=xb (c:=wt) (R:=vj) (B:=yy) (j:=1) rfl rfl (λ R B=>by cbv)
noncomputable def UL:=xb (c:=wt) (R:=vj) (B:=yy) (j:=2) rfl rfl (λ R B=>by cbv)
noncomputable def UM:=xb (c:=wt) (R:=vj) (B:=yy) (j:=3) rfl rfl (λ R B=>by cbv)
noncomputable def UN:=xb (c:=wt) (R:=vj) (B:=yy) (j:=4) rfl rfl (λ R B=>by cbv)
noncomputable def UO:=xb (c:=wt) (R:=vj) (B:=yy) (j:=5) rfl rfl (λ R B=>by cbv)
noncomputable def YE:=xb (c:=wt) (R:=vj) (B:=yy) (j:=6) rfl rfl (λ R B=>by cbv)
noncomputable def UP:=xb (c:=wt) (R:=vj) (B:=yy) (j:=7) rfl rfl (λ R B=>by cbv)
noncomputable def yc:=yk (P:=A) (c:=wt) (R:=vj) rfl rfl (by cbv) (λ P R=>by cbv)
noncomputable def ze_:=yZ (c:=kY) (R:=QF) (B:=VG) rfl rfl (λ R B=>by cbv)
noncomputable def kD:=xb (c:=kY) (R:=QF) (B:=VG) (j:=0) rfl rfl (λ R B=>by cbv)
noncomputable def uG:=yk (P:=A) (c:=kY) (R:=QF) rfl rfl (by cbv) (λ P R=>by cbv)
noncomputable def zne:=yZ (c:=Xa) (R:=zd_) (B:=zma) rfl rfl (λ R B=>by cbv)
noncomputable def zln:=yk (P:=A) (c:=Xa) (R:=zd_) rfl rfl (by cbv) (λ P R=>by cbv)
noncomputable def ze9:=yZ (c:=jh) (R:=VH) (B:=u7) rfl rfl (λ R B=>by cbv)
noncomputable def YF:=xb (c:=jh) (R:=VH) (B:=u7) (j:=0) rfl rfl (λ R B=>by cbv)
noncomputable def zbb:=xb (c:=jh) (R:=VH) (B:=u7) (j:=1) rfl rfl (λ R B=>by cbv)
noncomputable def v_:=yk (P:=A) (c:=jh) (R:=VH) rfl rfl (by cbv) (λ P R=>by cbv)
noncomputable def zos:=yZ (c:=ZO) (R:=zaJ) (B:=U4) rfl rfl (λ R B=>by cbv)
noncomputable def J5:=xb (c:=ZO) (R:=zaJ) (B:=U4) (j:=0) rfl rfl (λ R B=>by cbv)
noncomputable def VU:=yk (P:=A) (c:=ZO) (R:=zaJ) rfl rfl (by cbv) (λ P R=>by cbv)
noncomputable def Jo:=yZ (c:=uf) (R:=ZI) (B:=xN) rfl rfl (λ R B=>by cbv)
noncomputable def xh:=xb (c:=uf) (R:=ZI) (B:=xN) (j:=0) rfl rfl (λ R B=>by cbv)
noncomputable def J8:=xb (c:=uf) (R:=ZI) (B:=xN) (j:=1) rfl rfl (λ R B=>by cbv)
noncomputable def ZA:=xb (c:=uf) (R:=ZI) (B:=xN) (j:=2) rfl rfl (λ R B=>by cbv)
noncomputable def XQ:=xb (c:=uf) (R:=ZI) (B:=xN) (j:=3) rfl rfl (λ R B=>by cbv)
noncomputable def ye:=yk (P:=A) (c:=uf) (R:=ZI) rfl rfl (by cbv) (λ P R=>by cbv)
noncomputable def yO:=yZ (c:=Z3) (R:=zcy) (B:=zkf) rfl rfl (λ R B=>by cbv)
noncomputable def yx:=yk (P:=A) (c:=Z3) (R:=zcy) rfl rfl (by cbv) (λ P R=>by cbv)
noncomputable def vp:=yZ (c:=Xd) (R:=zeb) (B:=zmd) rfl rfl (λ R B=>by cbv)
noncomputable def wZ:=yk (P:=A) (c:=Xd) (R:=zeb) rfl rfl (by cbv) (λ P R=>by cbv)
noncomputable def zgT:=yZ (c:=uV) (R:=X9) (B:=vJ) rfl rfl (λ R B=>by cbv)
noncomputable def vH:=xb (c:=uV) (R:=X9) (B:=vJ) (j:=0) rfl rfl (λ R B=>by cbv)
noncomputable def J6:=xb (c:=uV) (R:=X9) (B:=vJ) (j:=1) rfl rfl (λ R B=>by cbv)
noncomputable def J7:=xb (c:=uV) (R:=X9) (B:=vJ) (j:=2) rfl rfl (λ R B=>by cbv)
noncomputable def xL:=yk (P:=A) (c:=uV) (R:=X9) rfl rfl (by cbv) (λ P R=>by cbv)
noncomputable def vF:=yZ (c:=ur) (R:=Vb) (B:=Va) rfl rfl (λ R B=>by cbv)
noncomputable def Kk:=xb (c:=ur) (R:=Vb) (B:=Va) (j:=0) rfl rfl (λ R B=>by cbv)
noncomputable def ww:=yk (P:=A) (c:=ur) (R:=Vb) rfl rfl (by cbv) (λ P R=>by cbv)
noncomputable def zdj:=yZ (c:=uB) (R:=KP) (B:=WK) rfl rfl (λ R B=>by cbv)
noncomputable def VB:=xb (c:=uB) (R:=KP) (B:=WK) (j:=0) rfl rfl (λ R B=>by cbv)
noncomputable def Zu:=yk (P:=A) (c:=uB) (R:=KP) rfl rfl (by cbv) (λ P R=>by cbv)
noncomputable def Wl:=yZ (c:=km) (R:=U5) (B:=ki) rfl rfl (λ R B=>by cbv)
noncomputable def J9:=xb (c:=km) (R:=U5) (B:=ki) (j:=0) rfl rfl (λ R B=>by cbv)
noncomputable def J_:=xb (c:=km) (R:=U5) (B:=ki) (j:=1) rfl rfl (λ R B=>by cbv)
noncomputable def wW:=yk (P:=A) (c:=km) (R:=U5) rfl rfl (by cbv) (λ P R=>by cbv)
noncomputable def znb:=yZ (c:=Y7) (R:=zd6) (B:=zl8) rfl rfl (λ R B=>by cbv)
noncomputable def zlk:=yk (P:=A) (c:=Y7) (R:=zd6) rfl rfl (by cbv) (λ P R=>by cbv)
noncomputable def zol:=yZ (c:=Wa) (R:=zgn) (B:=znP) rfl rfl (λ R B=>by cbv)
noncomputable def zmP:=yk (P:=A) (c:=Wa) (R:=zgn) rfl rfl (by cbv) (λ P R=>by cbv)
noncomputable def vn:=yZ (c:=YW) (R:=zdW) (B:=zlW) rfl rfl (λ R B=>by cbv)
noncomputable def wX:=yk (P:=A) (c:=YW) (R:=zdW) rfl rfl (by cbv) (λ P R=>by cbv)
noncomputable def znd:=yZ (c:=Y_) (R:=zd8) (B:=zl_) rfl rfl (λ R B=>by cbv)
noncomputable def zlm:=yk (P:=A) (c:=Y_) (R:=zd8) rfl rfl (by cbv) (λ P R=>by cbv)
noncomputable def zcf:=yZ (c:=YV) (R:=zbD) (B:=Km) rfl rfl (λ R B=>by cbv)
noncomputable def Qh:=xb (c:=YV) (R:=zbD) (B:=Km) (j:=0) rfl rfl (λ R B=>by cbv)
noncomputable def ZT:=yk (P:=A) (c:=YV) (R:=zbD) rfl rfl (by cbv) (λ P R=>by cbv)
noncomputable def U1:=yZ (c:=wa) (R:=zw) (B:=z8) rfl rfl (λ R B=>by cbv)
noncomputable def zB:=xb (c:=wa) (R:=zw) (B:=z8) (j:=0) rfl rfl (λ R B=>by cbv)
noncomputable def Xp:=xb (c:=wa) (R:=zw) (B:=z8) (j:=1) rfl rfl (λ R B=>by cbv)
noncomputable def V1:=xb (c:=wa) (R:=zw) (B:=z8) (j:=2) rfl rfl (λ R B=>by cbv)
noncomputable def ze':=xb (c:=wa) (R:=zw) (B:=z8) (j:=3) rfl rfl (λ R B=>by cbv)
noncomputable def V2:=xb (c:=wa) (R:=zw) (B:=z8) (j:=4) rfl rfl (λ R B=>by cbv)
noncomputable def Xq:=xb (c:=wa) (R:=zw) (B:=z8) (j:=5) rfl rfl (λ R B=>by cbv)
noncomputable def Q0:=xb (c:=wa) (R:=zw) (B:=z8) (j:=6) rfl rfl (λ R B=>by cbv)
noncomputable def Q1:=xb (c:=wa) (R:=zw) (B:=z8) (j:=7) rfl rfl (λ R B=>by cbv)
noncomputable def zfa:=xb (c:=wa) (R:=zw) (B:=z8) (j:=8) rfl rfl (λ R B=>by cbv)
noncomputable def zh:=yk (P:=A) (c:=wa) (R:=zw) rfl rfl (by cbv) (λ P R=>by cbv)
noncomputable def zhd:=yZ (c:=uY) (R:=Qv) (B:=zhb) rfl rfl (λ R B=>by cbv)
noncomputable def zf9:=yk (P:=A) (c:=uY) (R:=Qv) rfl rfl (by cbv) (λ P R=>by cbv)
noncomputable def Zy:=yZ (c:=ui) (R:=Xw) (B:=uh) rfl rfl (λ R B=>by cbv)
noncomputable def WD:=xb (c:=ui) (R:=Xw) (B:=uh) (j:=0) rfl rfl (λ R B=>by cbv)
noncomputable def WE:=xb (c:=ui) (R:=Xw) (B:=uh) (j:=1) rfl rfl (λ R B=>by cbv)
noncomputable def wk:=yk (P:=A) (c:=ui) (R:=Xw) rfl rfl (by cbv) (λ P R=>by cbv)
noncomputable def zin:=yZ (c:=Zl) (R:=Kx) (B:=jx) rfl rfl (λ R B=>by cbv)
noncomputable def WQ:=xb (c:=Zl) (R:=Kx) (B:=jx) (j:=0) rfl rfl (λ R B=>by cbv)
noncomputable def Yf:=xb (c:=Zl) (R:=Kx) (B:=jx) (j:=1) rfl rfl (λ R B=>by cbv)
noncomputable def vh:=yk (P:=A) (c:=Zl) (R:=Kx) rfl rfl (by cbv) (λ P R=>by cbv)
noncomputable def zm6:=yZ (c:=YZ) (R:=zdZ) (B:=zlZ) rfl rfl (λ R B=>by cbv)
noncomputable def zle:=yk (P:=A) (c:=YZ) (R:=zdZ) rfl rfl (by cbv) (λ P R=>by cbv)
noncomputable def zoo:=yZ (c:=ZL) (R:=zaH) (B:=U3) rfl rfl (λ R B=>by cbv)
noncomputable def zci:=xb (c:=ZL) (R:=zaH) (B:=U3) (j:=0) rfl rfl (λ R B=>by cbv)
noncomputable def QV:=yk (P:=A) (c:=ZL) (R:=zaH) rfl rfl (by cbv) (λ P R=>by cbv)
noncomputable def zlH:=yZ (c:=jM) (R:=Kz) (B:=WG) rfl rfl (λ R B=>by cbv)
noncomputable def zar:=xb (c:=jM) (R:=Kz) (B:=WG) (j:=0) rfl rfl (λ R B=>by cbv)
noncomputable def JR:=yk (P:=A) (c:=jM) (R:=Kz) rfl rfl (by cbv) (λ P R=>by cbv)
noncomputable def zdi:=yZ (c:=jU) (R:=KI) (B:=Kq) rfl rfl (λ R B=>by cbv)
noncomputable def Vx:=xb (c:=jU) (R:=KI) (B:=Kq) (j:=0) rfl rfl (λ R B=>by cbv)
noncomputable def Zt:=yk (P:=A) (c:=jU) (R:=KI) rfl rfl (by cbv) (λ P R=>by cbv)
noncomputable def zm9:=yZ (c:=kV) (R:=QC) (B:=VD) rfl rfl (λ R B=>by cbv)
noncomputable def za':=xb (c:=kV) (R:=QC) (B:=VD) (j:=0) rfl rfl (λ R B=>by cbv)
noncomputable def K8:=yk (P:=A) (c:=kV) (R:=QC) rfl rfl (by cbv) (λ P R=>by cbv)
noncomputable def ziW:=yZ (c:=uR) (R:=UB) (B:=Yx) rfl rfl (λ R B=>by cbv)
noncomputable def Ql:=xb (c:=uR) (R:=UB) (B:=Yx) (j:=0) rfl rfl (λ R B=>by cbv)
noncomputable def Vo:=yk (P:=A) (c:=uR) (R:=UB) rfl rfl (by cbv) (λ P R=>by cbv)
noncomputable def zlN:=yZ (c:=jS) (R:=KF) (B:=WI) rfl rfl (λ R B=>by cbv)
noncomputable def zaw:=xb (c:=jS) (R:=KF) (B:=WI) (j:=0) rfl rfl (λ R B=>by cbv)
noncomputable def JW:=yk (P:=A) (c:=jS) (R:=KF) rfl rfl (by cbv) (λ P R=>by cbv)
noncomputable def ziU:=yZ (c:=uO) (R:=Uy) (B:=Yv) rfl rfl (λ R B=>by cbv)
noncomputable def Qj:=xb (c:=uO) (R:=Uy) (B:=Yv) (j:=0) rfl rfl (λ R B=>by cbv)
noncomputable def Vm:=yk (P:=A) (c:=uO) (R:=Uy) rfl rfl (by cbv) (λ P R=>by cbv)
noncomputable def zqj:=yZ (c:=Vf) (R:=zho) (B:=zoI) rfl rfl (λ R B=>by cbv)
noncomputable def zod:=yk (P:=A) (c:=Vf) (R:=zho) rfl rfl (by cbv) (λ P R=>by cbv)
noncomputable def Qf:=yZ (c:=jX) (R:=KL) (B:=ZZ) rfl rfl (λ R B=>by cbv)
noncomputable def VA:=xb (c:=jX) (R:=KL) (B:=ZZ) (j:=0) rfl rfl (λ R B=>by cbv)
noncomputable def jr:=yk (P:=A) (c:=jX) (R:=KL) rfl rfl (by cbv) (λ P R=>by cbv)
noncomputable def zop:=yZ (c:=Wd) (R:=zgq) (B:=znS) rfl rfl (λ R B=>by cbv)
noncomputable def zmR:=yk (P:=A) (c:=Wd) (R:=zgq) rfl rfl (by cbv) (λ P R=>by cbv)
noncomputable def Qd:=yZ (c:=jV) (R:=KJ) (B:=ZX) rfl rfl (λ R B=>by cbv)
noncomputable def Vy:=xb (c:=jV) (R:=KJ) (B:=ZX) (j:=0) rfl rfl (λ R B=>by cbv)
noncomputable def jp:=yk (P:=A) (c:=jV) (R:=KJ) rfl rfl (by cbv) (λ P R=>by cbv)
noncomputable def ub:=yZ (c:=Z5) (R:=zcA) (B:=zkh) rfl rfl (λ R B=>by cbv)
noncomputable def vD:=yk (P:=A) (c:=Z5) (R:=zcA) rfl rfl (by cbv) (λ P R=>by cbv)
noncomputable def um:=yZ (c:=Zn) (R:=zbH) (B:=zjE) rfl rfl (λ R B=>by cbv)
noncomputable def vZ:=yk (P:=A) (c:=Zn) (R:=zbH) rfl rfl (by cbv) (λ P R=>by cbv)
noncomputable def zka:=yZ (c:=Zo) (R:=zbI) (B:=zjF) rfl rfl (λ R B=>by cbv)
noncomputable def ziO:=yk (P:=A) (c:=Zo) (R:=zbI) rfl rfl (by cbv) (λ P R=>by cbv)
noncomputable def V0:=yZ (c:=kX) (R:=QE) (B:=VF) rfl rfl (λ R B=>by cbv)
noncomputable def UJ:=xb (c:=kX) (R:=QE) (B:=VF) (j:=0) rfl rfl (λ R B=>by cbv)
noncomputable def uF:=yk (P:=A) (c:=kX) (R:=QE) rfl rfl (by cbv) (λ P R=>by cbv)
noncomputable def zrJ:=yZ (c:=UT) (R:=zi0) (B:=zqw) rfl rfl (λ R B=>by cbv)
noncomputable def zpZ:=yk (P:=A) (c:=UT) (R:=zi0) rfl rfl (by cbv) (λ P R=>by cbv)
noncomputable def xK:=yZ (c:=uC) (R:=zcB) (B:=zki) rfl rfl (λ R B=>by cbv)
noncomputable def xu:=yk (P:=A) (c:=uC) (R:=zcB) rfl rfl (by cbv) (λ P R=>by cbv)
noncomputable def zQ:=yZ (c:=Xb) (R:=zd') (B:=zmb) rfl rfl (λ R B=>by cbv)
noncomputable def zK:=yk (P:=A) (c:=Xb) (R:=zd') rfl rfl (by cbv) (λ P R=>by cbv)
noncomputable def zlR:=yZ (c:=Z4) (R:=zcz) (B:=zkg) rfl rfl (λ R B=>by cbv)
noncomputable def zj7:=yk (P:=A) (c:=Z4) (R:=zcz) rfl rfl (by cbv) (λ P R=>by cbv)
noncomputable def vT:=yZ (c:=Xc) (R:=zea) (B:=zmc) rfl rfl (λ R B=>by cbv)
noncomputable def vw:=yk (P:=A) (c:=Xc) (R:=zea) rfl rfl (by cbv) (λ P R=>by cbv)
noncomputable def ze8:=yZ (c:=kW) (R:=QD) (B:=VE) rfl rfl (λ R B=>by cbv)
noncomputable def YD:=xb (c:=kW) (R:=QD) (B:=VE) (j:=0) rfl rfl (λ R B=>by cbv)
noncomputable def kf:=yk (P:=A) (c:=kW) (R:=QD) rfl rfl (by cbv) (λ P R=>by cbv)
noncomputable def zql:=yZ (c:=Y8) (R:=zbG) (B:=zbA) rfl rfl (λ R B=>by cbv)
noncomputable def zdl:=xb (c:=Y8) (R:=zbG) (B:=zbA) (j:=0) rfl rfl (λ R B=>by cbv)
noncomputable def zaR:=yk (P:=A) (c:=Y8) (R:=zbG) rfl rfl (by cbv) (λ P R=>by cbv)
noncomputable def zlQ:=yZ (c:=j5) (R:=KO) (B:=Ks) rfl rfl (λ R B=>by cbv)
noncomputable def zaz:=xb (c:=j5) (R:=KO) (B:=Ks) (j:=0) rfl rfl (λ R B=>by cbv)
noncomputable def JZ:=yk (P:=A) (c:=j5) (R:=KO) rfl rfl (by cbv) (λ P R=>by cbv)
noncomputable def zoq:=yZ (c:=ZN) (R:=zaI) (B:=zaE) rfl rfl (λ R B=>by cbv)
noncomputable def zcj:=xb (c:=ZN) (R:=zaI) (B:=zaE) (j:=0) rfl rfl (λ R B=>by cbv)
noncomputable def QW:=yk (P:=A) (c:=ZN) (R:=zaI) rfl rfl (by cbv) (λ P R=>by cbv)
noncomputable def zlO:=yZ (c:=jY) (R:=KM) (B:=Kr) rfl rfl (λ R B=>by cbv)
noncomputable def zax:=xb (c:=jY) (R:=KM) (B:=Kr) (j:=0) rfl rfl (λ R B=>by cbv)
noncomputable def JX:=yk (P:=A) (c:=jY) (R:=KM) rfl rfl (by cbv) (λ P R=>by cbv)
noncomputable def zrG:=yZ (c:=UQ) (R:=ziX) (B:=zqt) rfl rfl (λ R B=>by cbv)
noncomputable def zpW:=yk (P:=A) (c:=UQ) (R:=ziX) rfl rfl (by cbv) (λ P R=>by cbv)
noncomputable def ziS:=yZ (c:=kA) (R:=zaU) (B:=ziJ) rfl rfl (λ R B=>by cbv)
noncomputable def zh_:=yk (P:=A) (c:=kA) (R:=zaU) rfl rfl (by cbv) (λ P R=>by cbv)
noncomputable def yK:=yZ (c:=YU) (R:=zdV) (B:=zlV) rfl rfl (λ R B=>by cbv)
noncomputable def yv:=yk (P:=A) (c:=YU) (R:=zdV) rfl rfl (by cbv) (λ P R=>by cbv)
noncomputable def zj':=yZ (c:=Zk) (R:=zbC) (B:=zjC) rfl rfl (λ R B=>by cbv)
noncomputable def ziN:=yk (P:=A) (c:=Zk) (R:=zbC) rfl rfl (by cbv) (λ P R=>by cbv)
noncomputable def ze7:=yZ (c:=kU) (R:=QB) (B:=VC) rfl rfl (λ R B=>by cbv)
noncomputable def YC:=xb (c:=kU) (R:=QB) (B:=VC) (j:=0) rfl rfl (λ R B=>by cbv)
noncomputable def j_:=yk (P:=A) (c:=kU) (R:=QB) rfl rfl (by cbv) (λ P R=>by cbv)
noncomputable def Xn:=yZ (c:=Vd) (R:=zhm) (B:=zoG) rfl rfl (λ R B=>by cbv)
noncomputable def ZS:=yk (P:=A) (c:=Vd) (R:=zhm) rfl rfl (by cbv) (λ P R=>by cbv)
noncomputable def wj:=yZ (c:=kl) (R:=zgm) (B:=znO) rfl rfl (λ R B=>by cbv)
noncomputable def xY:=yk (P:=A) (c:=kl) (R:=zgm) rfl rfl (by cbv) (λ P R=>by cbv)
noncomputable def zqi:=yZ (c:=Y1) (R:=zbE) (B:=zbz) rfl rfl (λ R B=>by cbv)
noncomputable def zdk:=xb (c:=Y1) (R:=zbE) (B:=zbz) (j:=0) rfl rfl (λ R B=>by cbv)
noncomputable def zaQ:=yk (P:=A) (c:=Y1) (R:=zbE) rfl rfl (by cbv) (λ P R=>by cbv)
noncomputable def zlK:=yZ (c:=jQ) (R:=KD) (B:=Kp) rfl rfl (λ R B=>by cbv)
noncomputable def zau:=xb (c:=jQ) (R:=KD) (B:=Kp) (j:=0) rfl rfl (λ R B=>by cbv)
noncomputable def JU:=yk (P:=A) (c:=jQ) (R:=KD) rfl rfl (by cbv) (λ P R=>by cbv)
noncomputable def zon:=yZ (c:=ZK) (R:=zaG) (B:=zaD) rfl rfl (λ R B=>by cbv)
noncomputable def zch:=xb (c:=ZK) (R:=zaG) (B:=zaD) (j:=0) rfl rfl (λ R B=>by cbv)
noncomputable def QU:=yk (P:=A) (c:=ZK) (R:=zaG) rfl rfl (by cbv) (λ P R=>by cbv)
noncomputable def zlI:=yZ (c:=jN) (R:=KA) (B:=Kn) rfl rfl (λ R B=>by cbv)
noncomputable def zas:=xb (c:=jN) (R:=KA) (B:=Kn) (j:=0) rfl rfl (λ R B=>by cbv)
noncomputable def JS:=yk (P:=A) (c:=jN) (R:=KA) rfl rfl (by cbv) (λ P R=>by cbv)
noncomputable def zm4:=yZ (c:=YX) (R:=zdX) (B:=zlX) rfl rfl (λ R B=>by cbv)
noncomputable def zlc:=yk (P:=A) (c:=YX) (R:=zdX) rfl rfl (by cbv) (λ P R=>by cbv)
noncomputable def zm':=yZ (c:=Y5) (R:=zd4) (B:=zl6) rfl rfl (λ R B=>by cbv)
noncomputable def zli:=yk (P:=A) (c:=Y5) (R:=zd4) rfl rfl (by cbv) (λ P R=>by cbv)
noncomputable def zm_:=yZ (c:=Y3) (R:=zd2) (B:=zl4) rfl rfl (λ R B=>by cbv)
noncomputable def zlh:=yk (P:=A) (c:=Y3) (R:=zd2) rfl rfl (by cbv) (λ P R=>by cbv)
noncomputable def vo:=yZ (c:=Y') (R:=zd9) (B:=zl') rfl rfl (λ R B=>by cbv)
noncomputable def wY:=yk (P:=A) (c:=Y') (R:=zd9) rfl rfl (by cbv) (λ P R=>by cbv)
noncomputable def y_:=yZ (c:=Wg) (R:=zgu) (B:=znW) rfl rfl (λ R B=>by cbv)
noncomputable def yU:=yk (P:=A) (c:=Wg) (R:=zgu) rfl rfl (by cbv) (λ P R=>by cbv)
noncomputable def zrI:=yZ (c:=US) (R:=ziZ) (B:=zqv) rfl rfl (λ R B=>by cbv)
noncomputable def zpY:=yk (P:=A) (c:=US) (R:=ziZ) rfl rfl (by cbv) (λ P R=>by cbv)
noncomputable def znc:=yZ (c:=Y9) (R:=zd7) (B:=zl9) rfl rfl (λ R B=>by cbv)
noncomputable def zll:=yk (P:=A) (c:=Y9) (R:=zd7) rfl rfl (by cbv) (λ P R=>by cbv)
noncomputable def zqk:=yZ (c:=Vg) (R:=zhp) (B:=zoJ) rfl rfl (λ R B=>by cbv)
noncomputable def zoe:=yk (P:=A) (c:=Vg) (R:=zhp) rfl rfl (by cbv) (λ P R=>by cbv)
noncomputable def zna:=yZ (c:=Y6) (R:=zd5) (B:=zl7) rfl rfl (λ R B=>by cbv)
noncomputable def zlj:=yk (P:=A) (c:=Y6) (R:=zd5) rfl rfl (by cbv) (λ P R=>by cbv)
noncomputable def zrH:=yZ (c:=UR) (R:=ziY) (B:=zqu) rfl rfl (λ R B=>by cbv)
noncomputable def zpX:=yk (P:=A) (c:=UR) (R:=ziY) rfl rfl (by cbv) (λ P R=>by cbv)
noncomputable def zm8:=yZ (c:=Y2) (R:=zd1) (B:=zl3) rfl rfl (λ R B=>by cbv)
noncomputable def zlg:=yk (P:=A) (c:=Y2) (R:=zd1) rfl rfl (by cbv) (λ P R=>by cbv)
noncomputable def zqh:=yZ (c:=Ve) (R:=zhn) (B:=zoH) rfl rfl (λ R B=>by cbv)
noncomputable def zoc:=yk (P:=A) (c:=Ve) (R:=zhn) rfl rfl (by cbv) (λ P R=>by cbv)
noncomputable def zm5:=yZ (c:=YY) (R:=zdY) (B:=zlY) rfl rfl (λ R B=>by cbv)
noncomputable def zld:=yk (P:=A) (c:=YY) (R:=zdY) rfl rfl (by cbv) (λ P R=>by cbv)
noncomputable def zor:=yZ (c:=Wf) (R:=zgt) (B:=znV) rfl rfl (λ R B=>by cbv)
noncomputable def zmS:=yk (P:=A) (c:=Wf) (R:=zgt) rfl rfl (by cbv) (λ P R=>by cbv)
noncomputable def J3:=yZ (c:=Zm) (R:=zbF) (B:=zjD) rfl rfl (λ R B=>by cbv)
noncomputable def UH:=yk (P:=A) (c:=Zm) (R:=zbF) rfl rfl (by cbv) (λ P R=>by cbv)
theorem zDX:zoL Tryd.prog A:=by
 intro f F h
 simp only [A] at h
 split at h
 ·cases h;exact ⟨Tryd.f3,_,_,by kernel_rfl,rfl,yW hQ (Uu.2▸Ut.2),by kernel_rfl⟩
 ·cases h;exact ⟨Tryd.f4,_,_,by kernel_rfl,rfl,yW hQ (kL.2▸Qm.2),by kernel_rfl⟩
 ·cases h;exact ⟨Tryd.f5,_,_,by kernel_rfl,rfl,yW hQ (Ju.2▸zg1.2),by kernel_rfl⟩
 ·cases h;exact ⟨Tryd.f6,_,_,by kernel_rfl,rfl,yW hQ (XY.2▸zcp.2),by kernel_rfl⟩
 ·cases h;exact ⟨Tryd.f7,_,_,by kernel_rfl,rfl,yW hQ (Wp.2▸zg3.2),by kernel_rfl⟩
 ·cases h;exact ⟨Tryd.f8,_,_,by kernel_rfl,rfl,yW hQ (XT.2▸zcl.2),by kernel_rfl⟩
 ·cases h;exact ⟨Tryd.f9,_,_,by kernel_rfl,rfl,yW hQ (zaC.2▸zaA.2),by kernel_rfl⟩
 ·cases h;exact ⟨Tryd.f10,_,_,by kernel_rfl,rfl,yW hQ (Jr.2▸zgY.2),by kernel_rfl⟩
 ·cases h;exact ⟨Tryd.f11,_,_,by kernel_rfl,rfl,yW hQ (Jx.2▸zg5.2),by kernel_rfl⟩
 ·cases h;exact ⟨Tryd.f12,_,_,by kernel_rfl,rfl,yW hQ (Wm.2▸zgU.2),by kernel_rfl⟩
 ·cases h;exact ⟨Tryd.f13,_,_,by kernel_rfl,rfl,yW hQ (WV.2▸zdp.2),by kernel_rfl⟩
 ·cases h;exact ⟨Tryd.f14,_,_,by kernel_rfl,rfl,yW hQ (WY.2▸zds.2),by kernel_rfl⟩
 ·cases h;exact ⟨Tryd.f15,_,_,by kernel_rfl,rfl,yW hQ (YN.2▸zbj.2),by kernel_rfl⟩
 ·cases h;exact ⟨Tryd.f16,_,_,by kernel_rfl,rfl,yW hQ (YJ.2▸zbf.2),by kernel_rfl⟩
 ·cases h;exact ⟨Tryd.f17,_,_,by kernel_rfl,rfl,yW hQ (W3.2▸zdx.2),by kernel_rfl⟩
 ·cases h;exact ⟨Tryd.f18,_,_,by kernel_rfl,rfl,yW hQ (YP.2▸zbl.2),by kernel_rfl⟩
 ·cases h;exact ⟨Tryd.f19,_,_,by kernel_rfl,rfl,yW hQ (JE.2▸zha.2),by kernel_rfl⟩
 ·cases h;exact ⟨Tryd.f20,_,_,by kernel_rfl,rfl,yW hQ (W6.2▸zdA.2),by kernel_rfl⟩
 ·cases h;exact ⟨Tryd.f21,_,_,by kernel_rfl,rfl,yW hQ (YG.2▸zbc.2),by kernel_rfl⟩
 ·cases h;exact ⟨Tryd.f22,_,_,by kernel_rfl,rfl,yW hQ (Wo.2▸zgW.2),by kernel_rfl⟩
 ·cases h;exact ⟨Tryd.f23,_,_,by kernel_rfl,rfl,yW hQ (WU.2▸zdo.2),by kernel_rfl⟩
 ·cases h;exact ⟨Tryd.f24,_,_,by kernel_rfl,rfl,yW hQ (V9.2▸zfh.2),by kernel_rfl⟩
 ·cases h;exact ⟨Tryd.f25,_,_,by kernel_rfl,rfl,yW hQ (YM.2▸zbi.2),by kernel_rfl⟩
 ·cases h;exact ⟨Tryd.f26,_,_,by kernel_rfl,rfl,yW hQ (W0.2▸zdu.2),by kernel_rfl⟩
 ·cases h;exact ⟨Tryd.f27,_,_,by kernel_rfl,rfl,yW hQ (YK.2▸zbg.2),by kernel_rfl⟩
 ·cases h;exact ⟨Tryd.f28,_,_,by kernel_rfl,rfl,yW hQ (WX.2▸zdr.2),by kernel_rfl⟩
 ·cases h;exact ⟨Tryd.f29,_,_,by kernel_rfl,rfl,yW hQ (YI.2▸zbe.2),by kernel_rfl⟩
 ·cases h;exact ⟨Tryd.f30,_,_,by kernel_rfl,rfl,yW hQ (Ub.2▸zfl.2),by kernel_rfl⟩
 ·cases h;exact ⟨Tryd.f31,_,_,by kernel_rfl,rfl,yW hQ (Ul.2▸zfv.2),by kernel_rfl⟩
 ·cases h;exact ⟨Tryd.f32,_,_,by kernel_rfl,rfl,yW hQ (Uo.2▸zfy.2),by kernel_rfl⟩
 ·cases h;exact ⟨Tryd.f33,_,_,by kernel_rfl,rfl,yW hQ (Uj.2▸zft.2),by kernel_rfl⟩
 ·cases h;exact ⟨Tryd.f34,_,_,by kernel_rfl,rfl,yW hQ (Un.2▸zfx.2),by kernel_rfl⟩
 ·cases h;exact ⟨Tryd.f35,_,_,by kernel_rfl,rfl,yW hQ (Jz.2▸zg7.2),by kernel_rfl⟩
 ·cases h;exact ⟨Tryd.f36,_,_,by kernel_rfl,rfl,yW hQ (JC.2▸zg_.2),by kernel_rfl⟩
 ·cases h;exact ⟨Tryd.f37,_,_,by kernel_rfl,rfl,yW hQ (W8.2▸zdC.2),by kernel_rfl⟩
 ·cases h;exact ⟨Tryd.f38,_,_,by kernel_rfl,rfl,yW hQ (Ur.2▸zfA.2),by kernel_rfl⟩
 ·cases h;exact ⟨Tryd.f39,_,_,by kernel_rfl,rfl,yW hQ (JB.2▸zg9.2),by kernel_rfl⟩
 ·cases h;exact ⟨Tryd.f40,_,_,by kernel_rfl,rfl,yW hQ (Yi.2▸zaB.2),by kernel_rfl⟩
 ·cases h;exact ⟨Tryd.f41,_,_,by kernel_rfl,rfl,yW hQ (Yj.2▸zdE.2),by kernel_rfl⟩
 ·cases h;exact ⟨Tryd.f42,_,_,by kernel_rfl,rfl,yW hQ (JD.2▸zg'.2),by kernel_rfl⟩
 ·cases h;exact ⟨Tryd.f43,_,_,by kernel_rfl,rfl,yW hQ (Ue.2▸zfo.2),by kernel_rfl⟩
 ·cases h;exact ⟨Tryd.f44,_,_,by kernel_rfl,rfl,yW hQ (Jq.2▸zgX.2),by kernel_rfl⟩
 ·cases h;exact ⟨Tryd.f45,_,_,by kernel_rfl,rfl,yW hQ (V5.2▸zfd.2),by kernel_rfl⟩
 ·cases h;exact ⟨Tryd.f46,_,_,by kernel_rfl,rfl,yW hQ (Ug.2▸zfq.2),by kernel_rfl⟩
 ·cases h;exact ⟨Tryd.f47,_,_,by kernel_rfl,rfl,yW hQ (Qo.2▸ziq.2),by kernel_rfl⟩
 ·cases h;exact ⟨Tryd.f48,_,_,by kernel_rfl,rfl,yW hQ (zad.2▸zjy.2),by kernel_rfl⟩
 ·cases h;exact ⟨Tryd.f49,_,_,by kernel_rfl,rfl,yW hQ (ZE.2▸Qy.2),by kernel_rfl⟩
 ·cases h;exact ⟨Tryd.f50,_,_,by kernel_rfl,rfl,yW hQ (XW.2▸zcn.2),by kernel_rfl⟩
 ·cases h;exact ⟨Tryd.f51,_,_,by kernel_rfl,rfl,yW hQ (Qp.2▸zir.2),by kernel_rfl⟩
 ·cases h;exact ⟨Tryd.f52,_,_,by kernel_rfl,rfl,yW hQ (V8.2▸zfg.2),by kernel_rfl⟩
 ·cases h;exact ⟨Tryd.f53,_,_,by kernel_rfl,rfl,yW hQ (Jt.2▸zg0.2),by kernel_rfl⟩
 ·cases h;exact ⟨Tryd.f54,_,_,by kernel_rfl,rfl,yW hQ (WR.2▸zdm.2),by kernel_rfl⟩
 ·cases h;exact ⟨Tryd.f55,_,_,by kernel_rfl,rfl,yW hQ (W1.2▸zdv.2),by kernel_rfl⟩
 ·cases h;exact ⟨Tryd.f56,_,_,by kernel_rfl,rfl,yW hQ (V'.2▸zfj.2),by kernel_rfl⟩
 ·cases h;exact ⟨Tryd.f57,_,_,by kernel_rfl,rfl,yW hQ (YO.2▸zbk.2),by kernel_rfl⟩
 ·cases h;exact ⟨Tryd.f58,_,_,by kernel_rfl,rfl,yW hQ (WZ.2▸zdt.2),by kernel_rfl⟩
 ·cases h;exact ⟨Tryd.f59,_,_,by kernel_rfl,rfl,yW hQ (YL.2▸zbh.2),by kernel_rfl⟩
 ·cases h;exact ⟨Tryd.f60,_,_,by kernel_rfl,rfl,yW hQ (Qs.2▸ziu.2),by kernel_rfl⟩
 ·cases h;exact ⟨Tryd.f61,_,_,by kernel_rfl,rfl,yW hQ (W4.2▸zdy.2),by kernel_rfl⟩
 ·cases h;exact ⟨Tryd.f62,_,_,by kernel_rfl,rfl,yW hQ (Jv.2▸zg2.2),by kernel_rfl⟩
 ·cases h;exact ⟨Tryd.f63,_,_,by kernel_rfl,rfl,yW hQ (W2.2▸zdw.2),by kernel_rfl⟩
 ·cases h;exact ⟨Tryd.f64,_,_,by kernel_rfl,rfl,yW hQ (W_.2▸zdF.2),by kernel_rfl⟩
 ·cases h;exact ⟨Tryd.f65,_,_,by kernel_rfl,rfl,yW hQ (XZ.2▸zcq.2),by kernel_rfl⟩
 ·cases h;exact ⟨Tryd.f66,_,_,by kernel_rfl,rfl,yW hQ (X5.2▸zcr.2),by kernel_rfl⟩
 ·cases h;exact ⟨Tryd.f67,_,_,by kernel_rfl,rfl,yW hQ (Uk.2▸zfu.2),by kernel_rfl⟩
 ·cases h;exact ⟨Tryd.f68,_,_,by kernel_rfl,rfl,yW hQ (zag.2▸zjB.2),by kernel_rfl⟩
 ·cases h;exact ⟨Tryd.f69,_,_,by kernel_rfl,rfl,yW hQ (Yk.2▸zdG.2),by kernel_rfl⟩
 ·cases h;exact ⟨Tryd.f70,_,_,by kernel_rfl,rfl,yW hQ (Um.2▸zfw.2),by kernel_rfl⟩
 ·cases h;exact ⟨Tryd.f71,_,_,by kernel_rfl,rfl,yW hQ (W9.2▸zdD.2),by kernel_rfl⟩
 ·cases h;exact ⟨Tryd.f72,_,_,by kernel_rfl,rfl,yW hQ (Uq.2▸zfz.2),by kernel_rfl⟩
 ·cases h;exact ⟨Tryd.f73,_,_,by kernel_rfl,rfl,yW hQ (Ui.2▸zfs.2),by kernel_rfl⟩
 ·cases h;exact ⟨Tryd.f74,_,_,by kernel_rfl,rfl,yW hQ (Qu.2▸ziw.2),by kernel_rfl⟩
 ·cases h;exact ⟨Tryd.f75,_,_,by kernel_rfl,rfl,yW hQ (W7.2▸zdB.2),by kernel_rfl⟩
 ·cases h;exact ⟨Tryd.f76,_,_,by kernel_rfl,rfl,yW hQ (Jw.2▸zg4.2),by kernel_rfl⟩
 ·cases h;exact ⟨Tryd.f77,_,_,by kernel_rfl,rfl,yW hQ (W5.2▸zdz.2),by kernel_rfl⟩
 ·cases h;exact ⟨Tryd.f78,_,_,by kernel_rfl,rfl,yW hQ (zac.2▸zjx.2),by kernel_rfl⟩
 ·cases h;exact ⟨Tryd.f80,_,_,by kernel_rfl,rfl,yW hQ (YH.2▸zbd.2),by kernel_rfl⟩
 ·cases h;exact ⟨Tryd.f81,_,_,by kernel_rfl,rfl,yW hQ (V3.2▸zfb.2),by kernel_rfl⟩
 ·cases h;exact ⟨Tryd.f82,_,_,by kernel_rfl,rfl,yW hQ (XV.2▸zcm.2),by kernel_rfl⟩
 ·cases h;exact ⟨Tryd.f83,_,_,by kernel_rfl,rfl,yW hQ (V4.2▸zfc.2),by kernel_rfl⟩
 ·cases h;exact ⟨Tryd.f84,_,_,by kernel_rfl,rfl,yW hQ (Qn.2▸zip.2),by kernel_rfl⟩
 ·cases h;exact ⟨Tryd.f85,_,_,by kernel_rfl,rfl,yW hQ (Wn.2▸zgV.2),by kernel_rfl⟩
 ·cases h;exact ⟨Tryd.f86,_,_,by kernel_rfl,rfl,yW hQ (Qr.2▸zit.2),by kernel_rfl⟩
 ·cases h;exact ⟨Tryd.f87,_,_,by kernel_rfl,rfl,yW hQ (WW.2▸zdq.2),by kernel_rfl⟩
 ·cases h;exact ⟨Tryd.f88,_,_,by kernel_rfl,rfl,yW hQ (Js.2▸zgZ.2),by kernel_rfl⟩
 ·cases h;exact ⟨Tryd.f89,_,_,by kernel_rfl,rfl,yW hQ (WS.2▸zdn.2),by kernel_rfl⟩
 ·cases h;exact ⟨Tryd.f90,_,_,by kernel_rfl,rfl,yW hQ (V6.2▸zfe.2),by kernel_rfl⟩
 ·cases h;exact ⟨Tryd.f91,_,_,by kernel_rfl,rfl,yW hQ (Uc.2▸zfm.2),by kernel_rfl⟩
 ·cases h;exact ⟨Tryd.f92,_,_,by kernel_rfl,rfl,yW hQ (Ua.2▸zfk.2),by kernel_rfl⟩
 ·cases h;exact ⟨Tryd.f93,_,_,by kernel_rfl,rfl,yW hQ (Uh.2▸zfr.2),by kernel_rfl⟩
 ·cases h;exact ⟨Tryd.f94,_,_,by kernel_rfl,rfl,yW hQ (JA.2▸zg8.2),by kernel_rfl⟩
 ·cases h;exact ⟨Tryd.f95,_,_,by kernel_rfl,rfl,yW hQ (zaf.2▸zjA.2),by kernel_rfl⟩
 ·cases h;exact ⟨Tryd.f96,_,_,by kernel_rfl,rfl,yW hQ (Uf.2▸zfp.2),by kernel_rfl⟩
 ·cases h;exact ⟨Tryd.f97,_,_,by kernel_rfl,rfl,yW hQ (Qt.2▸ziv.2),by kernel_rfl⟩
 ·cases h;exact ⟨Tryd.f98,_,_,by kernel_rfl,rfl,yW hQ (Ud.2▸zfn.2),by kernel_rfl⟩
 ·cases h;exact ⟨Tryd.f99,_,_,by kernel_rfl,rfl,yW hQ (zae.2▸zjz.2),by kernel_rfl⟩
 ·cases h;exact ⟨Tryd.f100,_,_,by kernel_rfl,rfl,yW hQ (V_.2▸zfi.2),by kernel_rfl⟩
 ·cases h;exact ⟨Tryd.f101,_,_,by kernel_rfl,rfl,yW hQ (Qq.2▸zis.2),by kernel_rfl⟩
 ·cases h;exact ⟨Tryd.f102,_,_,by kernel_rfl,rfl,yW hQ (V7.2▸zff.2),by kernel_rfl⟩
 ·cases h;exact ⟨Tryd.f103,_,_,by kernel_rfl,rfl,yW hQ (Jy.2▸zg6.2),by kernel_rfl⟩
 ·cases h;exact ⟨Tryd.f104,_,_,by kernel_rfl,rfl,yW hQ (XX.2▸zco.2),by kernel_rfl⟩
 ·cases h
theorem zDx:Tryd.prog.follows .mixedOrders=true:=by kernel_rfl
end Go.Proofs.Tryd.Av
end
