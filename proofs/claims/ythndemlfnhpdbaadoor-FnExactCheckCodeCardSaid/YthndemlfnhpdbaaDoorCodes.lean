/- The codes -/
import Derived.KernelRfl
import Derived.Test.YthndemlfnhpdbaaDoorAv3
import Derived.Test.YthndemlfnhpdbaaDoorProg
set_option linter.all false
section
set_option maxRecDepth 100000
set_option maxHeartbeats 4000000
namespace Go.Proofs.Tryd.Av
open Go Go.Av
abbrev WX:Nat:=3
abbrev zd9:Nat:=5
abbrev QO:Nat:=6
abbrev zd':Nat:=7
abbrev QK:Nat:=8
abbrev Kd:Nat:=9
abbrev zd7:Nat:=10
abbrev zaC:Nat:=17
abbrev KN:Nat:=18
abbrev Vv:Nat:=19
abbrev zaF:Nat:=20
abbrev KL:Nat:=21
abbrev Y8:Nat:=22
abbrev zaz:Nat:=23
abbrev zcj:Nat:=30
abbrev zct:Nat:=31
abbrev zcw:Nat:=32
abbrev zcr:Nat:=33
abbrev zcv:Nat:=34
abbrev zec:Nat:=35
abbrev KC:Nat:=36
abbrev vo:Nat:=37
abbrev zcy:Nat:=38
abbrev zee:Nat:=39
abbrev Ke:Nat:=40
abbrev Xp:Nat:=41
abbrev zef:Nat:=42
abbrev zcm:Nat:=43
abbrev zd6:Nat:=44
abbrev zce:Nat:=45
abbrev zco:Nat:=46
abbrev zfq:Nat:=47
abbrev zbp:Nat:=48
abbrev kN:Nat:=49
abbrev QM:Nat:=50
abbrev zfr:Nat:=51
abbrev zcg:Nat:=52
abbrev zfu:Nat:=60
abbrev zaD:Nat:=61
abbrev zd_:Nat:=62
abbrev zaB:Nat:=63
abbrev zaI:Nat:=64
abbrev QP:Nat:=65
abbrev QQ:Nat:=66
abbrev zcs:Nat:=67
abbrev zgE:Nat:=68
abbrev Xq:Nat:=69
abbrev zcu:Nat:=70
abbrev zaH:Nat:=71
abbrev zcx:Nat:=72
abbrev zcq:Nat:=73
abbrev zfw:Nat:=74
abbrev zaG:Nat:=75
abbrev zea:Nat:=76
abbrev zaE:Nat:=77
abbrev zgB:Nat:=78
abbrev KM:Nat:=80
abbrev zcc:Nat:=81
abbrev QL:Nat:=82
abbrev zcd:Nat:=83
abbrev zfp:Nat:=84
abbrev Vu:Nat:=85
abbrev zft:Nat:=86
abbrev zaA:Nat:=87
abbrev zd8:Nat:=88
abbrev zay:Nat:=89
abbrev zck:Nat:=91
abbrev zci:Nat:=92
abbrev zcp:Nat:=93
abbrev zed:Nat:=94
abbrev zgD:Nat:=95
abbrev zcn:Nat:=96
abbrev zfv:Nat:=97
abbrev zcl:Nat:=98
abbrev zgC:Nat:=99
abbrev zch:Nat:=100
abbrev zfs:Nat:=101
abbrev zcf:Nat:=102
abbrev zeb:Nat:=103
abbrev QN:Nat:=104
noncomputable def lU:{ l // (List.range 185).map Tryd.prog.underlying=l }:=⟨_,by cbv⟩
noncomputable def lI:{ l // (List.range 185).map (Ud Tryd.prog)=l }:=⟨_,by cbv⟩
noncomputable def lB:{ l // (List.range 125).map (XX Tryd.prog)=l }:=⟨_,by cbv⟩
noncomputable def lS:{ l // (List.range 125).map (QG Tryd.prog)=l }:=⟨[false,false,false,false,false,false,false,false,false,false,false,false,false,false,false,false,false,false,false,false,false,false,false,false,false,false,false,false,false,false,false,false,false,false,false,false,false,false,false,false,false,false,false,false,false,false,false,false,false,false,false,false,false,false,false,false,false,false,false,false,false,false,false,false,false,false,false,false,false,false,false,false,false,false,false,false,false,false,false,true,false,false,false,false,false,false,false,false,false,false,false,false,false,false,false,false,false,false,false,false,false,false,false,false,false,false,false,false,false,false,false,false,false,false,false,false,false,false,false,false,false,false,false,false,false],by kernel_rfl⟩
noncomputable def Q:vR:=vR.mk' Tryd.prog 185 125 lU.1 lI.1 [(27,[0,0,0]),(116,[1,0,0])] lB.1 lS.1
theorem hQ:Q=vR.of Tryd.prog:=zyP lU.2 lI.2 (by kernel_rfl) lB.2 lS.2
noncomputable def WZ:{ F:zJ // zX Q { keep:=138414207,shared:=0,gone:=138414080,still:=0 } Tryd.f3=some F }:=⟨_,rfl⟩
noncomputable def uJ:{ F:zJ // WZ.1=F }:=⟨_,by cbv⟩
noncomputable def Ji:{ F:zJ // zX Q { keep:=10662380274594883969015,shared:=0,gone:=10662380274594883960832,still:=0 } Tryd.f4=some F }:=⟨_,rfl⟩
noncomputable def Jm:{ F:zJ // Ji.1=F }:=⟨_,by cbv⟩
noncomputable def zet:{ F:zJ // zX Q { keep:=1047,shared:=0,gone:=1024,still:=0 } Tryd.f5=some F }:=⟨_,rfl⟩
noncomputable def VK:{ F:zJ // zet.1=F }:=⟨_,by cbv⟩
noncomputable def Q9:{ F:zJ // zX Q { keep:=134449247,shared:=0,gone:=134350848,still:=0 } Tryd.f6=some F }:=⟨_,rfl⟩
noncomputable def YS:{ F:zJ // Q9.1=F }:=⟨_,by cbv⟩
noncomputable def zev:{ F:zJ // zX Q { keep:=15,shared:=0,gone:=0,still:=0 } Tryd.f7=some F }:=⟨_,rfl⟩
noncomputable def VM:{ F:zJ // zev.1=F }:=⟨_,by cbv⟩
noncomputable def Q5:{ F:zJ // zX Q { keep:=268898527,shared:=0,gone:=268701696,still:=0 } Tryd.f8=some F }:=⟨_,rfl⟩
noncomputable def YO:{ F:zJ // Q5.1=F }:=⟨_,by cbv⟩
noncomputable def Ko:{ F:zJ // zX Q { keep:=541215,shared:=0,gone:=541184,still:=0 } Tryd.f9=some F }:=⟨_,rfl⟩
noncomputable def Zx:{ F:zJ // Ko.1=F }:=⟨_,by cbv⟩
noncomputable def zeq:{ F:zJ // zX Q { keep:=1055,shared:=0,gone:=1024,still:=0 } Tryd.f10=some F }:=⟨_,rfl⟩
noncomputable def VI:{ F:zJ // zeq.1=F }:=⟨_,by cbv⟩
noncomputable def zex:{ F:zJ // zX Q { keep:=8388727,shared:=0,gone:=8388608,still:=0 } Tryd.f11=some F }:=⟨_,rfl⟩
noncomputable def zeH:{ F:zJ // zex.1=F }:=⟨_,by cbv⟩
noncomputable def zem:{ F:zJ // zX Q { keep:=4194359,shared:=0,gone:=4194304,still:=0 } Tryd.f12=some F }:=⟨_,rfl⟩
noncomputable def zeF:{ F:zJ // zem.1=F }:=⟨_,by cbv⟩
noncomputable def zaW:{ F:zJ // zX Q { keep:=67126323,shared:=0,gone:=67126272,still:=0 } Tryd.f13=some F }:=⟨_,rfl⟩
noncomputable def zbd:{ F:zJ // zaW.1=F }:=⟨_,by cbv⟩
noncomputable def zaZ:{ F:zJ // zX Q { keep:=23,shared:=0,gone:=0,still:=0 } Tryd.f14=some F }:=⟨_,rfl⟩
noncomputable def zbf:{ F:zJ // zaZ.1=F }:=⟨_,by cbv⟩
noncomputable def KX:{ F:zJ // zX Q { keep:=563,shared:=134217728,gone:=512,still:=0 } Tryd.f15=some F }:=⟨_,rfl⟩
noncomputable def K6:{ F:zJ // KX.1=F }:=⟨_,by cbv⟩
noncomputable def KT:{ F:zJ // zX Q { keep:=1101660160563,shared:=0,gone:=1101660160512,still:=0 } Tryd.f16=some F }:=⟨_,rfl⟩
noncomputable def K1:{ F:zJ // KT.1=F }:=⟨_,by cbv⟩
noncomputable def za4:{ F:zJ // zX Q { keep:=33589299,shared:=0,gone:=33589248,still:=0 } Tryd.f17=some F }:=⟨_,rfl⟩
noncomputable def Xy:{ F:zJ // za4.1=F }:=⟨_,by cbv⟩
noncomputable def KZ:{ F:zJ // zX Q { keep:=304592782260563154584575,shared:=0,gone:=304592782260559381807104,still:=0 } Tryd.f18=some F }:=⟨_,rfl⟩
noncomputable def ZS:{ F:zJ // KZ.1=F }:=⟨_,by cbv⟩
noncomputable def zeE:{ F:zJ // zX Q { keep:=25711009092670794032955247531927462086734537560765941253144567,shared:=93536105486076094988305236606143823400226296692736,gone:=25711009092016041299431003024572211281564305972371211987976192,still:=0,lend:=324518553658426726783156020576256,fresh:=49039857307708443467467104868809893875799651909875269632 } Tryd.f19=some F }:=⟨_,rfl⟩
noncomputable def VU:{ F:zJ // zeE.1=F }:=⟨_,by cbv⟩
noncomputable def za7:{ F:zJ // zX Q { keep:=2077,shared:=0,gone:=2048,still:=0 } Tryd.f20=some F }:=⟨_,rfl⟩
noncomputable def XB:{ F:zJ // za7.1=F }:=⟨_,by cbv⟩
noncomputable def KQ:{ F:zJ // zX Q { keep:=10346663924250572659825432908295153906729649862714897966950260996414461344418171230046839159274474961933087859971779985391,shared:=0,gone:=10339098739060856892571515614766848955047285513633125260070613441739836219955142152033580920561522467717066128281577717760,still:=0 } Tryd.f21=some F }:=⟨_,rfl⟩
noncomputable def ZQ:{ F:zJ // KQ.1=F }:=⟨_,by cbv⟩
noncomputable def zeo:{ F:zJ // zX Q { keep:=21820606781349784063229202518844356624375,shared:=0,gone:=21820606781345451273091703687856439427072,still:=0,fresh:=1208925819614629174706176 } Tryd.f22=some F }:=⟨_,rfl⟩
noncomputable def VG:{ F:zJ // zeo.1=F }:=⟨_,by cbv⟩
noncomputable def zaV:{ F:zJ // zX Q { keep:=67126323,shared:=0,gone:=67126272,still:=0 } Tryd.f23=some F }:=⟨_,rfl⟩
noncomputable def Xv:{ F:zJ // zaV.1=F }:=⟨_,by cbv⟩
noncomputable def zcS:{ F:zJ // zX Q { keep:=2130463,shared:=0,gone:=2130432,still:=0 } Tryd.f24=some F }:=⟨_,rfl⟩
noncomputable def zdb:{ F:zJ // zcS.1=F }:=⟨_,by cbv⟩
noncomputable def KW:{ F:zJ // zX Q { keep:=563,shared:=72057594037927936,gone:=512,still:=0 } Tryd.f25=some F }:=⟨_,rfl⟩
noncomputable def K5:{ F:zJ // KW.1=F }:=⟨_,by cbv⟩
noncomputable def za1:{ F:zJ // zX Q { keep:=563,shared:=0,gone:=512,still:=0 } Tryd.f26=some F }:=⟨_,rfl⟩
noncomputable def zbh:{ F:zJ // za1.1=F }:=⟨_,by cbv⟩
noncomputable def KU:{ F:zJ // zX Q { keep:=563,shared:=0,gone:=512,still:=0 } Tryd.f27=some F }:=⟨_,rfl⟩
noncomputable def K3:{ F:zJ // KU.1=F }:=⟨_,by cbv⟩
noncomputable def zaY:{ F:zJ // zX Q { keep:=131635,shared:=0,gone:=131584,still:=0 } Tryd.f28=some F }:=⟨_,rfl⟩
noncomputable def zbe:{ F:zJ // zaY.1=F }:=⟨_,by cbv⟩
noncomputable def KS:{ F:zJ // zX Q { keep:=275415826995,shared:=0,gone:=275415826944,still:=0 } Tryd.f29=some F }:=⟨_,rfl⟩
noncomputable def K0:{ F:zJ // KS.1=F }:=⟨_,by cbv⟩
noncomputable def zcW:{ F:zJ // zX Q { keep:=34905131031,shared:=0,gone:=34905131008,still:=0 } Tryd.f30=some F }:=⟨_,rfl⟩
noncomputable def WD:{ F:zJ // zcW.1=F }:=⟨_,by cbv⟩
noncomputable def zc6:{ F:zJ // zX Q { keep:=699258220145811295582282476831343771631,shared:=0,gone:=691282284248709916743711465807726772224,still:=0 } Tryd.f31=some F }:=⟨_,rfl⟩
noncomputable def WN:{ F:zJ // zc6.1=F }:=⟨_,by cbv⟩
noncomputable def zc9:{ F:zJ // zX Q { keep:=9007199254987087,shared:=0,gone:=9007199254872064,still:=0 } Tryd.f32=some F }:=⟨_,rfl⟩
noncomputable def WQ:{ F:zJ // zc9.1=F }:=⟨_,by cbv⟩
noncomputable def zc4:{ F:zJ // zX Q { keep:=71,shared:=0,gone:=0,still:=0 } Tryd.f33=some F }:=⟨_,rfl⟩
noncomputable def WL:{ F:zJ // zc4.1=F }:=⟨_,by cbv⟩
noncomputable def zc8:{ F:zJ // zX Q { keep:=33020784412151,shared:=0,gone:=17627621621760,still:=0,lend:=131072 } Tryd.f34=some F }:=⟨_,rfl⟩
noncomputable def WP:{ F:zJ // zc8.1=F }:=⟨_,by cbv⟩
noncomputable def zez:{ F:zJ // zX Q { keep:=1005,shared:=0,gone:=512,still:=0 } Tryd.f35=some F }:=⟨_,rfl⟩
noncomputable def VP:{ F:zJ // zez.1=F }:=⟨_,by cbv⟩
noncomputable def zeC:{ F:zJ // zX Q { keep:=713950688241731327620668993279580753197006687,shared:=0,gone:=713798241741350747189037272328242803180044288,still:=0 } Tryd.f36=some F }:=⟨_,rfl⟩
noncomputable def VS:{ F:zJ // zeC.1=F }:=⟨_,by cbv⟩
noncomputable def za9:{ F:zJ // zX Q { keep:=10152346262217450325579015414007,shared:=0,gone:=10152346262180556837431596302336,still:=0,lend:=512 } Tryd.f37=some F }:=⟨_,rfl⟩
noncomputable def XE:{ F:zJ // za9.1=F }:=⟨_,by cbv⟩
noncomputable def zc':{ F:zJ // zX Q { keep:=35738439917655,shared:=0,gone:=35738423140352,still:=0 } Tryd.f38=some F }:=⟨_,rfl⟩
noncomputable def WS:{ F:zJ // zc'.1=F }:=⟨_,by cbv⟩
noncomputable def zeB:{ F:zJ // zX Q { keep:=2307039313265679423,shared:=0,gone:=2307039312795402240,still:=0 } Tryd.f39=some F }:=⟨_,rfl⟩
noncomputable def VR:{ F:zJ // zeB.1=F }:=⟨_,by cbv⟩
noncomputable def Kp:{ F:zJ // zX Q { keep:=2537777080830249737560267029695,shared:=0,gone:=2537777080830177609597484793856,still:=0,lend:=39614083618315410231594582016 } Tryd.f40=some F }:=⟨_,rfl⟩
noncomputable def Zy:{ F:zJ // Kp.1=F }:=⟨_,by cbv⟩
noncomputable def za':{ F:zJ // zX Q { keep:=1005,shared:=0,gone:=512,still:=0 } Tryd.f41=some F }:=⟨_,rfl⟩
noncomputable def Zz:{ F:zJ // za'.1=F }:=⟨_,by cbv⟩
noncomputable def zeD:{ F:zJ // zX Q { keep:=144177310721900671,shared:=0,gone:=144150922342170624,still:=0 } Tryd.f42=some F }:=⟨_,rfl⟩
noncomputable def VT:{ F:zJ // zeD.1=F }:=⟨_,by cbv⟩
noncomputable def zcZ:{ F:zJ // zX Q { keep:=15,shared:=0,gone:=0,still:=0 } Tryd.f43=some F }:=⟨_,rfl⟩
noncomputable def WG:{ F:zJ // zcZ.1=F }:=⟨_,by cbv⟩
noncomputable def zep:{ F:zJ // zX Q { keep:=71,shared:=0,gone:=0,still:=0 } Tryd.f44=some F }:=⟨_,rfl⟩
noncomputable def VH:{ F:zJ // zep.1=F }:=⟨_,by cbv⟩
noncomputable def zcO:{ F:zJ // zX Q { keep:=4505800940716599,shared:=0,gone:=4503601917461024,still:=0 } Tryd.f45=some F }:=⟨_,rfl⟩
noncomputable def Wy:{ F:zJ // zcO.1=F }:=⟨_,by cbv⟩
noncomputable def zc1:{ F:zJ // zX Q { keep:=5,shared:=0,gone:=0,still:=0 } Tryd.f46=some F }:=⟨_,rfl⟩
noncomputable def WI:{ F:zJ // zc1.1=F }:=⟨_,by cbv⟩
noncomputable def zfX:{ F:zJ // zX Q { keep:=8605140991,shared:=0,gone:=8598847488,still:=0 } Tryd.f47=some F }:=⟨_,rfl⟩
noncomputable def Jk:{ F:zJ // zfX.1=F }:=⟨_,by cbv⟩
noncomputable def zgT:{ F:zJ // zX Q { keep:=381445689527029866219231701676784719088912532325203716852374344376861102222484794080307718534505366618385847551787882675993124116295818674111,shared:=0,gone:=381445689349405713939616999734817100275515389453878307474769075023094962445546707143107568658406597331990575684797579715475666630847097733120,still:=0,lend:=2977131414714805823690030317109266572712515013375254776855652748069627595031939800767597450365982403589022809751078674554662154213502484480 } Tryd.f48=some F }:=⟨_,rfl⟩
noncomputable def J4:{ F:zJ // zgT.1=F }:=⟨_,by cbv⟩
noncomputable def Ju:{ F:zJ // zX Q { keep:=7,shared:=0,gone:=0,still:=0 } Tryd.f49=some F }:=⟨_,rfl⟩
noncomputable def uM:{ F:zJ // Ju.1=F }:=⟨_,by cbv⟩
noncomputable def Q7:{ F:zJ // zX Q { keep:=281597391670911,shared:=0,gone:=281545852061696,still:=0 } Tryd.f50=some F }:=⟨_,rfl⟩
noncomputable def YQ:{ F:zJ // Q7.1=F }:=⟨_,by cbv⟩
noncomputable def zfY:{ F:zJ // zX Q { keep:=18295890667125239,shared:=0,gone:=18295890667118592,still:=0,lend:=2147483648 } Tryd.f51=some F }:=⟨_,rfl⟩
noncomputable def Jl:{ F:zJ // zfY.1=F }:=⟨_,by cbv⟩
noncomputable def zcR:{ F:zJ // zX Q { keep:=9150170680279583,shared:=0,gone:=9150170680279552,still:=0 } Tryd.f52=some F }:=⟨_,rfl⟩
noncomputable def WA:{ F:zJ // zcR.1=F }:=⟨_,by cbv⟩
noncomputable def zes:{ F:zJ // zX Q { keep:=33571891,shared:=0,gone:=33571840,still:=0 } Tryd.f53=some F }:=⟨_,rfl⟩
noncomputable def zeG:{ F:zJ // zes.1=F }:=⟨_,by cbv⟩
noncomputable def zaT:{ F:zJ // zX Q { keep:=67126323,shared:=0,gone:=67126272,still:=0 } Tryd.f54=some F }:=⟨_,rfl⟩
noncomputable def zbc:{ F:zJ // zaT.1=F }:=⟨_,by cbv⟩
noncomputable def za2:{ F:zJ // zX Q { keep:=173,shared:=0,gone:=160,still:=0 } Tryd.f55=some F }:=⟨_,rfl⟩
noncomputable def zbi:{ F:zJ // za2.1=F }:=⟨_,by cbv⟩
noncomputable def zcU:{ F:zJ // zX Q { keep:=563,shared:=0,gone:=512,still:=0 } Tryd.f56=some F }:=⟨_,rfl⟩
noncomputable def zdc:{ F:zJ // zcU.1=F }:=⟨_,by cbv⟩
noncomputable def KY:{ F:zJ // zX Q { keep:=563,shared:=0,gone:=512,still:=0 } Tryd.f57=some F }:=⟨_,rfl⟩
noncomputable def K7:{ F:zJ // KY.1=F }:=⟨_,by cbv⟩
noncomputable def za0:{ F:zJ // zX Q { keep:=563,shared:=0,gone:=512,still:=0 } Tryd.f58=some F }:=⟨_,rfl⟩
noncomputable def zbg:{ F:zJ // za0.1=F }:=⟨_,by cbv⟩
noncomputable def KV:{ F:zJ // zX Q { keep:=563,shared:=0,gone:=512,still:=0 } Tryd.f59=some F }:=⟨_,rfl⟩
noncomputable def K4:{ F:zJ // KV.1=F }:=⟨_,by cbv⟩
noncomputable def zf1:{ F:zJ // zX Q { keep:=1043,shared:=0,gone:=1024,still:=0 } Tryd.f60=some F }:=⟨_,rfl⟩
noncomputable def Jp:{ F:zJ // zf1.1=F }:=⟨_,by cbv⟩
noncomputable def za5:{ F:zJ // zX Q { keep:=33589299,shared:=0,gone:=33589248,still:=0 } Tryd.f61=some F }:=⟨_,rfl⟩
noncomputable def Xz:{ F:zJ // za5.1=F }:=⟨_,by cbv⟩
noncomputable def zeu:{ F:zJ // zX Q { keep:=1043,shared:=0,gone:=1024,still:=0 } Tryd.f62=some F }:=⟨_,rfl⟩
noncomputable def VL:{ F:zJ // zeu.1=F }:=⟨_,by cbv⟩
noncomputable def za3:{ F:zJ // zX Q { keep:=33589299,shared:=0,gone:=33589248,still:=0 } Tryd.f63=some F }:=⟨_,rfl⟩
noncomputable def Xx:{ F:zJ // za3.1=F }:=⟨_,by cbv⟩
noncomputable def zba:{ F:zJ // zX Q { keep:=65783,shared:=0,gone:=65536,still:=0 } Tryd.f64=some F }:=⟨_,rfl⟩
noncomputable def XG:{ F:zJ // zba.1=F }:=⟨_,by cbv⟩
noncomputable def Q_:{ F:zJ // zX Q { keep:=9437191,shared:=0,gone:=9437184,still:=0 } Tryd.f65=some F }:=⟨_,rfl⟩
noncomputable def YT:{ F:zJ // Q_.1=F }:=⟨_,by cbv⟩
noncomputable def Q':{ F:zJ // zX Q { keep:=55,shared:=0,gone:=0,still:=0 } Tryd.f66=some F }:=⟨_,rfl⟩
noncomputable def YU:{ F:zJ // Q'.1=F }:=⟨_,by cbv⟩
noncomputable def zc5:{ F:zJ // zX Q { keep:=8800186666959,shared:=0,gone:=8798307614720,still:=0 } Tryd.f67=some F }:=⟨_,rfl⟩
noncomputable def WM:{ F:zJ // zc5.1=F }:=⟨_,by cbv⟩
noncomputable def zgW:{ F:zJ // zX Q { keep:=71,shared:=0,gone:=0,still:=0 } Tryd.f68=some F }:=⟨_,rfl⟩
noncomputable def J7:{ F:zJ // zgW.1=F }:=⟨_,by cbv⟩
noncomputable def zbb:{ F:zJ // zX Q { keep:=563504055607415,shared:=0,gone:=562954299768832,still:=0 } Tryd.f69=some F }:=⟨_,rfl⟩
noncomputable def ZA:{ F:zJ // zbb.1=F }:=⟨_,by cbv⟩
noncomputable def zc7:{ F:zJ // zX Q { keep:=11856505838568583459566473112224925,shared:=0,gone:=11846354730246438729626144426983568,still:=0 } Tryd.f70=some F }:=⟨_,rfl⟩
noncomputable def WO:{ F:zJ // zc7.1=F }:=⟨_,by cbv⟩
noncomputable def za_:{ F:zJ // zX Q { keep:=7,shared:=0,gone:=0,still:=0 } Tryd.f71=some F }:=⟨_,rfl⟩
noncomputable def XF:{ F:zJ // za_.1=F }:=⟨_,by cbv⟩
noncomputable def zc_:{ F:zJ // zX Q { keep:=82621,shared:=0,gone:=82080,still:=0 } Tryd.f72=some F }:=⟨_,rfl⟩
noncomputable def WR:{ F:zJ // zc_.1=F }:=⟨_,by cbv⟩
noncomputable def zc3:{ F:zJ // zX Q { keep:=1050579,shared:=0,gone:=1049600,still:=0 } Tryd.f73=some F }:=⟨_,rfl⟩
noncomputable def WK:{ F:zJ // zc3.1=F }:=⟨_,by cbv⟩
noncomputable def zf3:{ F:zJ // zX Q { keep:=2077,shared:=0,gone:=2048,still:=0 } Tryd.f74=some F }:=⟨_,rfl⟩
noncomputable def Jr:{ F:zJ // zf3.1=F }:=⟨_,by cbv⟩
noncomputable def za8:{ F:zJ // zX Q { keep:=2077,shared:=0,gone:=2048,still:=0 } Tryd.f75=some F }:=⟨_,rfl⟩
noncomputable def XC:{ F:zJ // za8.1=F }:=⟨_,by cbv⟩
noncomputable def zew:{ F:zJ // zX Q { keep:=2077,shared:=0,gone:=2048,still:=0 } Tryd.f76=some F }:=⟨_,rfl⟩
noncomputable def VN:{ F:zJ // zew.1=F }:=⟨_,by cbv⟩
noncomputable def za6:{ F:zJ // zX Q { keep:=2077,shared:=0,gone:=2048,still:=0 } Tryd.f77=some F }:=⟨_,rfl⟩
noncomputable def XA:{ F:zJ // za6.1=F }:=⟨_,by cbv⟩
noncomputable def zgS:{ F:zJ // zX Q { keep:=1087,shared:=0,gone:=0,still:=0 } Tryd.f78=some F }:=⟨_,rfl⟩
noncomputable def J3:{ F:zJ // zgS.1=F }:=⟨_,by cbv⟩
noncomputable def KR:{ F:zJ // zX Q { keep:=7,shared:=0,gone:=0,still:=0 } Tryd.f80=some F }:=⟨_,rfl⟩
noncomputable def ZR:{ F:zJ // KR.1=F }:=⟨_,by cbv⟩
noncomputable def zcM:{ F:zJ // zX Q { keep:=20442124500757167221204445038399,shared:=0,gone:=159714897105496797257192701952,still:=0 } Tryd.f81=some F }:=⟨_,rfl⟩
noncomputable def Ww:{ F:zJ // zcM.1=F }:=⟨_,by cbv⟩
noncomputable def Q6:{ F:zJ // zX Q { keep:=5,shared:=0,gone:=0,still:=0 } Tryd.f82=some F }:=⟨_,rfl⟩
noncomputable def YP:{ F:zJ // Q6.1=F }:=⟨_,by cbv⟩
noncomputable def zcN:{ F:zJ // zX Q { keep:=1050539,shared:=0,gone:=1049600,still:=0 } Tryd.f83=some F }:=⟨_,rfl⟩
noncomputable def Wx:{ F:zJ // zcN.1=F }:=⟨_,by cbv⟩
noncomputable def zfW:{ F:zJ // zX Q { keep:=1117,shared:=0,gone:=1040,still:=0 } Tryd.f84=some F }:=⟨_,rfl⟩
noncomputable def Jj:{ F:zJ // zfW.1=F }:=⟨_,by cbv⟩
noncomputable def zen:{ F:zJ // zX Q { keep:=34636964055,shared:=0,gone:=277225472,still:=0 } Tryd.f85=some F }:=⟨_,rfl⟩
noncomputable def Xa:{ F:zJ // zen.1=F }:=⟨_,by cbv⟩
noncomputable def zf0:{ F:zJ // zX Q { keep:=67126323,shared:=0,gone:=67126272,still:=0 } Tryd.f86=some F }:=⟨_,rfl⟩
noncomputable def Jo:{ F:zJ // zf0.1=F }:=⟨_,by cbv⟩
noncomputable def zaX:{ F:zJ // zX Q { keep:=67126323,shared:=0,gone:=67126272,still:=0 } Tryd.f87=some F }:=⟨_,rfl⟩
noncomputable def Xw:{ F:zJ // zaX.1=F }:=⟨_,by cbv⟩
noncomputable def zer:{ F:zJ // zX Q { keep:=67126323,shared:=0,gone:=67126272,still:=0 } Tryd.f88=some F }:=⟨_,rfl⟩
noncomputable def VJ:{ F:zJ // zer.1=F }:=⟨_,by cbv⟩
noncomputable def zaU:{ F:zJ // zX Q { keep:=67126323,shared:=0,gone:=67126272,still:=0 } Tryd.f89=some F }:=⟨_,rfl⟩
noncomputable def Xu:{ F:zJ // zaU.1=F }:=⟨_,by cbv⟩
noncomputable def zcP:{ F:zJ // zX Q { keep:=541215,shared:=0,gone:=541184,still:=0 } Tryd.f90=some F }:=⟨_,rfl⟩
noncomputable def zda:{ F:zJ // zcP.1=F }:=⟨_,by cbv⟩
noncomputable def zcX:{ F:zJ // zX Q { keep:=2071,shared:=0,gone:=2048,still:=0 } Tryd.f91=some F }:=⟨_,rfl⟩
noncomputable def WE:{ F:zJ // zcX.1=F }:=⟨_,by cbv⟩
noncomputable def zcV:{ F:zJ // zX Q { keep:=2071,shared:=0,gone:=2048,still:=0 } Tryd.f92=some F }:=⟨_,rfl⟩
noncomputable def WC:{ F:zJ // zcV.1=F }:=⟨_,by cbv⟩
noncomputable def zc2:{ F:zJ // zX Q { keep:=4505800940716599,shared:=0,gone:=4503601917461024,still:=0 } Tryd.f93=some F }:=⟨_,rfl⟩
noncomputable def WJ:{ F:zJ // zc2.1=F }:=⟨_,by cbv⟩
noncomputable def zeA:{ F:zJ // zX Q { keep:=173074235654318542448789149549343,shared:=0,gone:=173074235654318542448787000983552,still:=0 } Tryd.f94=some F }:=⟨_,rfl⟩
noncomputable def VQ:{ F:zJ // zeA.1=F }:=⟨_,by cbv⟩
noncomputable def zgV:{ F:zJ // zX Q { keep:=15,shared:=0,gone:=0,still:=0 } Tryd.f95=some F }:=⟨_,rfl⟩
noncomputable def J6:{ F:zJ // zgV.1=F }:=⟨_,by cbv⟩
noncomputable def zc0:{ F:zJ // zX Q { keep:=15,shared:=0,gone:=0,still:=0 } Tryd.f96=some F }:=⟨_,rfl⟩
noncomputable def WH:{ F:zJ // zc0.1=F }:=⟨_,by cbv⟩
noncomputable def zf2:{ F:zJ // zX Q { keep:=15,shared:=0,gone:=0,still:=0 } Tryd.f97=some F }:=⟨_,rfl⟩
noncomputable def Jq:{ F:zJ // zf2.1=F }:=⟨_,by cbv⟩
noncomputable def zcY:{ F:zJ // zX Q { keep:=15,shared:=0,gone:=0,still:=0 } Tryd.f98=some F }:=⟨_,rfl⟩
noncomputable def WF:{ F:zJ // zcY.1=F }:=⟨_,by cbv⟩
noncomputable def zgU:{ F:zJ // zX Q { keep:=16927,shared:=0,gone:=16896,still:=0 } Tryd.f99=some F }:=⟨_,rfl⟩
noncomputable def J5:{ F:zJ // zgU.1=F }:=⟨_,by cbv⟩
noncomputable def zcT:{ F:zJ // zX Q { keep:=1108361759,shared:=0,gone:=1108361728,still:=0 } Tryd.f100=some F }:=⟨_,rfl⟩
noncomputable def WB:{ F:zJ // zcT.1=F }:=⟨_,by cbv⟩
noncomputable def zfZ:{ F:zJ // zX Q { keep:=554189343,shared:=0,gone:=554189312,still:=0 } Tryd.f101=some F }:=⟨_,rfl⟩
noncomputable def Jn:{ F:zJ // zfZ.1=F }:=⟨_,by cbv⟩
noncomputable def zcQ:{ F:zJ // zX Q { keep:=17318431,shared:=0,gone:=17318400,still:=0 } Tryd.f102=some F }:=⟨_,rfl⟩
noncomputable def Wz:{ F:zJ // zcQ.1=F }:=⟨_,by cbv⟩
noncomputable def zey:{ F:zJ // zX Q { keep:=1087,shared:=0,gone:=0,still:=0 } Tryd.f103=some F }:=⟨_,rfl⟩
noncomputable def VO:{ F:zJ // zey.1=F }:=⟨_,by cbv⟩
noncomputable def Q8:{ F:zJ // zX Q { keep:=67112979,shared:=0,gone:=67112960,still:=0 } Tryd.f104=some F }:=⟨_,rfl⟩
noncomputable def YR:{ F:zJ // Q8.1=F }:=⟨_,by cbv⟩
noncomputable def vN:AC:=uJ.1.code
noncomputable def WU:=yh vN
noncomputable def zab (j:Nat):AC:=(zU vN j).1
noncomputable def Y1:AC:=VK.1.code
noncomputable def zdX:=yh Y1
noncomputable def zkL (j:Nat):AC:=(zU Y1 j).1
noncomputable def uV:AC:=YS.1.code
noncomputable def VY:=yh uV
noncomputable def Yw (j:Nat):AC:=(zU uV j).1
noncomputable def Y3:AC:=VM.1.code
noncomputable def zdZ:=yh Y3
noncomputable def zkN (j:Nat):AC:=(zU Y3 j).1
noncomputable def uU:AC:=YO.1.code
noncomputable def VX:=yh uU
noncomputable def Yv (j:Nat):AC:=(zU uU j).1
noncomputable def jj:AC:=Zx.1.code
noncomputable def J9:=yh jj
noncomputable def zeM (j:Nat):AC:=(zU jj j).1
noncomputable def Y0:AC:=VI.1.code
noncomputable def zdW:=yh Y0
noncomputable def zkK (j:Nat):AC:=(zU Y0 j).1
noncomputable def jx:AC:=Xy.1.code
noncomputable def UQ:=yh jx
noncomputable def Ze (j:Nat):AC:=(zU jx j).1
noncomputable def vj:AC:=ZS.1.code
noncomputable def jP:=yh vj
noncomputable def xZ (j:Nat):AC:=(zU vj j).1
noncomputable def vD:AC:=VU.1.code
noncomputable def jJ:=yh vD
noncomputable def xD (j:Nat):AC:=(zU vD j).1
noncomputable def jA:AC:=XB.1.code
noncomputable def UT:=yh jA
noncomputable def UG (j:Nat):AC:=(zU jA j).1
noncomputable def yR:AC:=ZQ.1.code
noncomputable def xx:=yh yR
noncomputable def zK (j:Nat):AC:=(zU yR j).1
noncomputable def uE:AC:=VG.1.code
noncomputable def YW:=yh uE
noncomputable def vB (j:Nat):AC:=(zU uE j).1
noncomputable def ju:AC:=Xv.1.code
noncomputable def UN:=yh ju
noncomputable def UD (j:Nat):AC:=(zU ju j).1
noncomputable def Z5:AC:=WD.1.code
noncomputable def zbC:=yh Z5
noncomputable def zi_ (j:Nat):AC:=(zU Z5 j).1
noncomputable def wq:AC:=WN.1.code
noncomputable def vb:=yh wq
noncomputable def yz (j:Nat):AC:=(zU wq j).1
noncomputable def kh:AC:=WQ.1.code
noncomputable def JA:=yh kh
noncomputable def X_ (j:Nat):AC:=(zU kh j).1
noncomputable def Yb:AC:=WL.1.code
noncomputable def zbJ:=yh Yb
noncomputable def zjf (j:Nat):AC:=(zU Yb j).1
noncomputable def uW:AC:=WP.1.code
noncomputable def Wb:=yh uW
noncomputable def uN (j:Nat):AC:=(zU uW j).1
noncomputable def kX:AC:=VP.1.code
noncomputable def Kw:=yh kX
noncomputable def Vn (j:Nat):AC:=(zU kX j).1
noncomputable def v5:AC:=VS.1.code
noncomputable def kT:=yh v5
noncomputable def xP (j:Nat):AC:=(zU v5 j).1
noncomputable def Zi:AC:=XE.1.code
noncomputable def zaf:=yh Zi
noncomputable def zhw (j:Nat):AC:=(zU Zi j).1
noncomputable def Ye:AC:=WS.1.code
noncomputable def zbM:=yh Ye
noncomputable def zji (j:Nat):AC:=(zU Ye j).1
noncomputable def uF:AC:=VR.1.code
noncomputable def YX:=yh uF
noncomputable def vC (j:Nat):AC:=(zU uF j).1
noncomputable def uf:AC:=Zy.1.code
noncomputable def XI:=yh uf
noncomputable def XH (j:Nat):AC:=(zU uf j).1
noncomputable def uq:AC:=Zz.1.code
noncomputable def UV:=yh uq
noncomputable def Xm (j:Nat):AC:=(zU uq j).1
noncomputable def jL:AC:=VT.1.code
noncomputable def Vo:=yh jL
noncomputable def jI (j:Nat):AC:=(zU jL j).1
noncomputable def Z8:AC:=WG.1.code
noncomputable def zbF:=yh Z8
noncomputable def zjb (j:Nat):AC:=(zU Z8 j).1
noncomputable def YZ:AC:=VH.1.code
noncomputable def zdV:=yh YZ
noncomputable def zkJ (j:Nat):AC:=(zU YZ j).1
noncomputable def ZZ:AC:=Wy.1.code
noncomputable def zbx:=yh ZZ
noncomputable def zi5 (j:Nat):AC:=(zU ZZ j).1
noncomputable def Z':AC:=WI.1.code
noncomputable def zbH:=yh Z'
noncomputable def zjd (j:Nat):AC:=(zU Z' j).1
noncomputable def ZY:AC:=Jk.1.code
noncomputable def Qm:=yh ZY
noncomputable def UB (j:Nat):AC:=(zU ZY j).1
noncomputable def x_:AC:=J4.1.code
noncomputable def zw:=yh x_
noncomputable def z7 (j:Nat):AC:=(zU x_ j).1
noncomputable def vX:AC:=uM.1.code
noncomputable def Js:=yh vX
noncomputable def zeI (j:Nat):AC:=(zU vX j).1
noncomputable def ua:AC:=YQ.1.code
noncomputable def Yx:=yh ua
noncomputable def v_ (j:Nat):AC:=(zU ua j).1
noncomputable def kz:AC:=Jl.1.code
noncomputable def UL:=yh kz
noncomputable def je (j:Nat):AC:=(zU kz j).1
noncomputable def Z1:AC:=WA.1.code
noncomputable def zbz:=yh Z1
noncomputable def zi7 (j:Nat):AC:=(zU Z1 j).1
noncomputable def XM:AC:=Jp.1.code
noncomputable def zeV:=yh XM
noncomputable def zlt (j:Nat):AC:=(zU XM j).1
noncomputable def jy:AC:=Xz.1.code
noncomputable def UR:=yh jy
noncomputable def Zf (j:Nat):AC:=(zU jy j).1
noncomputable def Y2:AC:=VL.1.code
noncomputable def zdY:=yh Y2
noncomputable def zkM (j:Nat):AC:=(zU Y2 j).1
noncomputable def jw:AC:=Xx.1.code
noncomputable def UP:=yh jw
noncomputable def Zd (j:Nat):AC:=(zU jw j).1
noncomputable def Zk:AC:=XG.1.code
noncomputable def zah:=yh Zk
noncomputable def zhy (j:Nat):AC:=(zU Zk j).1
noncomputable def kB:AC:=YT.1.code
noncomputable def Qq:=yh kB
noncomputable def zgZ (j:Nat):AC:=(zU kB j).1
noncomputable def kC:AC:=YU.1.code
noncomputable def Qr:=yh kC
noncomputable def zg0 (j:Nat):AC:=(zU kC j).1
noncomputable def kg:AC:=WM.1.code
noncomputable def Jz:=yh kg
noncomputable def X9 (j:Nat):AC:=(zU kg j).1
noncomputable def Vf:AC:=J7.1.code
noncomputable def zgm:=yh Vf
noncomputable def znh (j:Nat):AC:=(zU Vf j).1
noncomputable def ur:AC:=ZA.1.code
noncomputable def zai:=yh ur
noncomputable def zhz (j:Nat):AC:=(zU ur j).1
noncomputable def Yc:AC:=WO.1.code
noncomputable def zbK:=yh Yc
noncomputable def zjg (j:Nat):AC:=(zU Yc j).1
noncomputable def Zj:AC:=XF.1.code
noncomputable def zag:=yh Zj
noncomputable def zhx (j:Nat):AC:=(zU Zj j).1
noncomputable def Yd:AC:=WR.1.code
noncomputable def zbL:=yh Yd
noncomputable def zjh (j:Nat):AC:=(zU Yd j).1
noncomputable def kf:AC:=WK.1.code
noncomputable def Jy:=yh kf
noncomputable def X8 (j:Nat):AC:=(zU kf j).1
noncomputable def Z9:AC:=Jr.1.code
noncomputable def Qp:=yh Z9
noncomputable def Qj (j:Nat):AC:=(zU Z9 j).1
noncomputable def jB:AC:=XC.1.code
noncomputable def UU:=yh jB
noncomputable def UH (j:Nat):AC:=(zU jB j).1
noncomputable def kW:AC:=VN.1.code
noncomputable def Kv:=yh kW
noncomputable def Kr (j:Nat):AC:=(zU kW j).1
noncomputable def jz:AC:=XA.1.code
noncomputable def US:=yh jz
noncomputable def UF (j:Nat):AC:=(zU jz j).1
noncomputable def Vc:AC:=J3.1.code
noncomputable def zgj:=yh Vc
noncomputable def zne (j:Nat):AC:=(zU Vc j).1
noncomputable def jQ:AC:=ZR.1.code
noncomputable def KI:=yh jQ
noncomputable def zgd (j:Nat):AC:=(zU jQ j).1
noncomputable def ZX:AC:=Ww.1.code
noncomputable def zbw:=yh ZX
noncomputable def zi4 (j:Nat):AC:=(zU ZX j).1
noncomputable def ky:AC:=YP.1.code
noncomputable def Ql:=yh ky
noncomputable def zgX (j:Nat):AC:=(zU ky j).1
noncomputable def kb:AC:=Wx.1.code
noncomputable def Jx:=yh kb
noncomputable def X7 (j:Nat):AC:=(zU kb j).1
noncomputable def XK:AC:=Jj.1.code
noncomputable def zeT:=yh XK
noncomputable def zlr (j:Nat):AC:=(zU XK j).1
noncomputable def jK:AC:=Xa.1.code
noncomputable def zdU:=yh jK
noncomputable def zkI (j:Nat):AC:=(zU jK j).1
noncomputable def Z2:AC:=Jo.1.code
noncomputable def Qn:=yh Z2
noncomputable def Qi (j:Nat):AC:=(zU Z2 j).1
noncomputable def jv:AC:=Xw.1.code
noncomputable def UO:=yh jv
noncomputable def UE (j:Nat):AC:=(zU jv j).1
noncomputable def kV:AC:=VJ.1.code
noncomputable def Ku:=yh kV
noncomputable def Kq (j:Nat):AC:=(zU kV j).1
noncomputable def jt:AC:=Xu.1.code
noncomputable def UM:=yh jt
noncomputable def UC (j:Nat):AC:=(zU jt j).1
noncomputable def Z6:AC:=WE.1.code
noncomputable def zbD:=yh Z6
noncomputable def zi' (j:Nat):AC:=(zU Z6 j).1
noncomputable def Z4:AC:=WC.1.code
noncomputable def zbB:=yh Z4
noncomputable def zi9 (j:Nat):AC:=(zU Z4 j).1
noncomputable def Ya:AC:=WJ.1.code
noncomputable def zbI:=yh Ya
noncomputable def zje (j:Nat):AC:=(zU Ya j).1
noncomputable def Y5:AC:=VQ.1.code
noncomputable def zd1:=yh Y5
noncomputable def zkP (j:Nat):AC:=(zU Y5 j).1
noncomputable def Ve:AC:=J6.1.code
noncomputable def zgl:=yh Ve
noncomputable def zng (j:Nat):AC:=(zU Ve j).1
noncomputable def Z_:AC:=WH.1.code
noncomputable def zbG:=yh Z_
noncomputable def zjc (j:Nat):AC:=(zU Z_ j).1
noncomputable def XN:AC:=Jq.1.code
noncomputable def zeW:=yh XN
noncomputable def zlu (j:Nat):AC:=(zU XN j).1
noncomputable def Z7:AC:=WF.1.code
noncomputable def zbE:=yh Z7
noncomputable def zja (j:Nat):AC:=(zU Z7 j).1
noncomputable def Vd:AC:=J5.1.code
noncomputable def zgk:=yh Vd
noncomputable def znf (j:Nat):AC:=(zU Vd j).1
noncomputable def Z3:AC:=WB.1.code
noncomputable def zbA:=yh Z3
noncomputable def zi8 (j:Nat):AC:=(zU Z3 j).1
noncomputable def XL:AC:=Jn.1.code
noncomputable def zeU:=yh XL
noncomputable def zls (j:Nat):AC:=(zU XL j).1
noncomputable def Z0:AC:=Wz.1.code
noncomputable def zby:=yh Z0
noncomputable def zi6 (j:Nat):AC:=(zU Z0 j).1
noncomputable def Y4:AC:=VO.1.code
noncomputable def zd0:=yh Y4
noncomputable def zkO (j:Nat):AC:=(zU Y4 j).1
noncomputable def kA:AC:=YR.1.code
noncomputable def Qo:=yh kA
noncomputable def zgY (j:Nat):AC:=(zU kA j).1
def yJ:List (Int×List Int):=[(1,[7,0,0,0]),(2,[8,0,0,0]),(3,[0,0,0,0]),(4,[1,9,0,0]),(5,[1,2,0,0]),(6,[1,2,0,0]),(7,[1,5,0,0]),(8,[5,2,0,0]),(9,[1,10,0,0]),(10,[10,2,0,0]),(11,[1,11,0,0]),(12,[1,0,0,0]),(13,[4,2,2,0]),(14,[4,2,3,0]),(15,[1,2,2,0]),(16,[2,2,2,0]),(17,[1,14,2,0]),(18,[1,13,2,2]),(19,[12,0,0,0]),(20,[2,12,0,0]),(21,[2,12,0,0]),(22,[1,0,0,0]),(23,[6,2,0,0]),(24,[6,3,0,0]),(25,[1,3,0,0]),(26,[1,6,15,0]),(27,[1,6,0,0]),(28,[1,2,3,0]),(29,[3,0,0,0]),(30,[2,0,0,0]),(31,[12,17,0,0]),(32,[0,0,0,0]),(33,[16,0,0,0]),(34,[16,0,0,0]),(35,[2,3,0,0]),(36,[0,0,0,0]),(37,[18,0,0,0]),(38,[18,12,0,0]),(39,[18,12,0,0]),(40,[19,0,0,0]),(41,[20,12,1,0]),(42,[1,0,0,0])]
def G1:List PV:=[.fm (yJ.map fun e=>(.int .i64 e.1,.agg (e.2.map fun x=>.int .i64 x)))]
noncomputable def A:xp:=⟨fun f=>match f with
 |3=>some uJ.1
 |4=>some Jm.1
 |5=>some VK.1
 |6=>some YS.1
 |7=>some VM.1
 |8=>some YO.1
 |9=>some Zx.1
 |10=>some VI.1
 |11=>some zeH.1
 |12=>some zeF.1
 |13=>some zbd.1
 |14=>some zbf.1
 |15=>some K6.1
 |16=>some K1.1
 |17=>some Xy.1
 |18=>some ZS.1
 |19=>some VU.1
 |20=>some XB.1
 |21=>some ZQ.1
 |22=>some VG.1
 |23=>some Xv.1
 |24=>some zdb.1
 |25=>some K5.1
 |26=>some zbh.1
 |27=>some K3.1
 |28=>some zbe.1
 |29=>some K0.1
 |30=>some WD.1
 |31=>some WN.1
 |32=>some WQ.1
 |33=>some WL.1
 |34=>some WP.1
 |35=>some VP.1
 |36=>some VS.1
 |37=>some XE.1
 |38=>some WS.1
 |39=>some VR.1
 |40=>some Zy.1
 |41=>some Zz.1
 |42=>some VT.1
 |43=>some WG.1
 |44=>some VH.1
 |45=>some Wy.1
 |46=>some WI.1
 |47=>some Jk.1
 |48=>some J4.1
 |49=>some uM.1
 |50=>some YQ.1
 |51=>some Jl.1
 |52=>some WA.1
 |53=>some zeG.1
 |54=>some zbc.1
 |55=>some zbi.1
 |56=>some zdc.1
 |57=>some K7.1
 |58=>some zbg.1
 |59=>some K4.1
 |60=>some Jp.1
 |61=>some Xz.1
 |62=>some VL.1
 |63=>some Xx.1
 |64=>some XG.1
 |65=>some YT.1
 |66=>some YU.1
 |67=>some WM.1
 |68=>some J7.1
 |69=>some ZA.1
 |70=>some WO.1
 |71=>some XF.1
 |72=>some WR.1
 |73=>some WK.1
 |74=>some Jr.1
 |75=>some XC.1
 |76=>some VN.1
 |77=>some XA.1
 |78=>some J3.1
 |80=>some ZR.1
 |81=>some Ww.1
 |82=>some YP.1
 |83=>some Wx.1
 |84=>some Jj.1
 |85=>some Xa.1
 |86=>some Jo.1
 |87=>some Xw.1
 |88=>some VJ.1
 |89=>some Xu.1
 |90=>some zda.1
 |91=>some WE.1
 |92=>some WC.1
 |93=>some WJ.1
 |94=>some VQ.1
 |95=>some J6.1
 |96=>some WH.1
 |97=>some Jq.1
 |98=>some WF.1
 |99=>some J5.1
 |100=>some WB.1
 |101=>some Jn.1
 |102=>some Wz.1
 |103=>some VO.1
 |104=>some YR.1
 |_=>none,fun g=>match g with|1=>some G1|_=>none⟩
theorem WV (x0:PV):EP A WX [x0]=yI [.tmp 2] (EV A vN ⟨[(0,x0)],[],[],[]⟩):=yp (F:=uJ.1) rfl rfl
theorem zd3 (x0 x1:PV):EP A zd9 [x0,x1]=yI [.tmp 4] (EV A Y1 ⟨[(0,x0),(1,x1)],[],[],[]⟩):=yp (F:=VK.1) rfl rfl
theorem V1 (x0:PV):EP A QO [x0]=yI [.cell 2 true 3] (EV A uV ⟨[(0,x0)],[],[],[]⟩):=yp (F:=YS.1) rfl rfl
theorem zkV (x0:PV):EP A zd' [x0]=yI [.cell 2 true 1] (EV A Y3 ⟨[(0,x0)],[],[],[]⟩):=yp (F:=VM.1) rfl rfl
theorem VZ (x0:PV):EP A QK [x0]=yI [.cell 2 true 3] (EV A uU ⟨[(0,x0)],[],[],[]⟩):=yp (F:=YO.1) rfl rfl
theorem ze6 (x0 x1:PV):EP A Kd [x0,x1]=yI [.tmp 4] (EV A jj ⟨[(0,x0),(1,x1)],[],[],[]⟩):=yp (F:=Zx.1) rfl rfl
theorem zkS (x0 x1:PV):EP A zd7 [x0,x1]=yI [.tmp 4] (EV A Y0 ⟨[(0,x0),(1,x1)],[],[],[]⟩):=yp (F:=VI.1) rfl rfl
theorem UZ (x0 x1:PV):EP A zaC [x0,x1]=yI [.tmp 4] (EV A jx ⟨[(0,x0),(1,x1)],[],[],[]⟩):=yp (F:=Xy.1) rfl rfl
theorem ZJ (x0:PV):EP A KN [x0]=yI [.cell 2 true 3] (EV A vj ⟨[(0,x0)],[],[],[]⟩):=yp (F:=ZS.1) rfl rfl
theorem Vq (x0 x1:PV):EP A Vv [x0,x1]=yI [.tmp 4,.cell 5 true 3] (EV A vD ⟨[(0,x0),(1,x1)],[],[],[]⟩):=yp (F:=VU.1) rfl rfl
theorem zhP (x0:PV):EP A zaF [x0]=yI [.tmp 2] (EV A jA ⟨[(0,x0)],[],[],[]⟩):=yp (F:=XB.1) rfl rfl
theorem wz (x0:PV):EP A KL [x0]=yI [.cell 2 true 3] (EV A yR ⟨[(0,x0)],[],[],[]⟩):=yp (F:=ZQ.1) rfl rfl
theorem kY (x0 x1:PV):EP A Y8 [x0,x1]=yI [.tmp 4,.tmp 5,.tmp 6] (EV A uE ⟨[(0,x0),(1,x1)],[],[],[]⟩):=yp (F:=VG.1) rfl rfl
theorem zhM (x0 x1:PV):EP A zaz [x0,x1]=yI [.tmp 4] (EV A ju ⟨[(0,x0),(1,x1)],[],[],[]⟩):=yp (F:=Xv.1) rfl rfl
theorem ki (x0 x1:PV):EP A zcj [x0,x1]=yI [.tmp 4] (EV A Z5 ⟨[(0,x0),(1,x1)],[],[],[]⟩):=yp (F:=WD.1) rfl rfl
theorem kj (x0:PV):EP A zct [x0]=yI [.cell 2 true 3] (EV A wq ⟨[(0,x0)],[],[],[]⟩):=yp (F:=WN.1) rfl rfl
theorem zb0 (x0 x1 x2:PV):EP A zcw [x0,x1,x2]=yI [.tmp 6] (EV A kh ⟨[(0,x0),(1,x1),(2,x2)],[],[],[]⟩):=yp (F:=WQ.1) rfl rfl
theorem zjy (x0 x1 x2:PV):EP A zcr [x0,x1,x2]=yI [.cell 6 true 3] (EV A Yb ⟨[(0,x0),(1,x1),(2,x2)],[],[],[]⟩):=yp (F:=WL.1) rfl rfl
theorem zbZ (x0 x1:PV):EP A zcv [x0,x1]=yI [.tmp 4] (EV A uW ⟨[(0,x0),(1,x1)],[],[],[]⟩):=yp (F:=WP.1) rfl rfl
theorem zk8 (x0:PV) (H:zd):ES A zec [x0] H=V2 H.length [.tmp 2] (EV A kX ⟨[(0,x0)],[],H,[]⟩):=K_ (F:=VP.1) rfl rfl
theorem VA (x0 x1 x2 x3:PV) (H:zd):ES A KC [x0,x1,x2,x3] H=V2 H.length [.tmp 8,.tmp 9] (EV A v5 ⟨[(0,x0),(1,x1),(2,x2),(3,x3)],[],H,[]⟩):=K_ (F:=VS.1) rfl rfl
theorem yG (x0 x1:PV):EP A vo [x0,x1]=yI [.tmp 4,.tmp 5] (EV A Zi ⟨[(0,x0),(1,x1)],[],[],[]⟩):=yp (F:=XE.1) rfl rfl
theorem vf (x0 x1:PV) (H:zd):ES A zcy [x0,x1] H=V2 H.length [] (EV A Ye ⟨[(0,x0),(1,x1)],[],H,[]⟩):=K_ (F:=WS.1) rfl rfl
theorem zd4 (x0 x1 x2 x3 x4:PV):EP A zee [x0,x1,x2,x3,x4]=yI [.tmp 10] (EV A uF ⟨[(0,x0),(1,x1),(2,x2),(3,x3),(4,x4)],[],[],[]⟩):=yp (F:=VR.1) rfl rfl
theorem vy (x0 x1 x2 x3 x4:PV) (H:zd):ES A Ke [x0,x1,x2,x3,x4] H=V2 H.length [.tmp 10] (EV A uf ⟨[(0,x0),(1,x1),(2,x2),(3,x3),(4,x4)],[],H,[]⟩):=K_ (F:=Zy.1) rfl rfl
theorem zhS (x0:PV):EP A Xp [x0]=yI [.tmp 2] (EV A uq ⟨[(0,x0)],[],[],[]⟩):=yp (F:=Zz.1) rfl rfl
theorem ziH (x0:PV) (H:zd):ES A Xp [x0] H=V2 H.length [.tmp 2] (EV A uq ⟨[(0,x0)],[],H,[]⟩):=K_ (F:=Zz.1) rfl rfl
theorem Y6 (x0 x1:PV):EP A zef [x0,x1]=yI [.tmp 4] (EV A jL ⟨[(0,x0),(1,x1)],[],[],[]⟩):=yp (F:=VT.1) rfl rfl
theorem zjv (x0:PV):EP A zcm [x0]=yI [.cell 2 true 9] (EV A Z8 ⟨[(0,x0)],[],[],[]⟩):=yp (F:=WG.1) rfl rfl
theorem zkR (x0 x1 x2:PV):EP A zd6 [x0,x1,x2]=yI [.tmp 6] (EV A YZ ⟨[(0,x0),(1,x1),(2,x2)],[],[],[]⟩):=yp (F:=VH.1) rfl rfl
theorem vc (x0:PV):EP A zce [x0]=yI [.tmp 2] (EV A ZZ ⟨[(0,x0)],[],[],[]⟩):=yp (F:=Wy.1) rfl rfl
theorem zjx (x0:PV):EP A zco [x0]=yI [.tmp 2] (EV A Z' ⟨[(0,x0)],[],[],[]⟩):=yp (F:=WI.1) rfl rfl
theorem Qu (x0 x1 x2:PV):EP A zfq [x0,x1,x2]=yI [.tmp 6] (EV A ZY ⟨[(0,x0),(1,x1),(2,x2)],[],[],[]⟩):=yp (F:=Jk.1) rfl rfl
theorem zoc (x0 x1 x2 x3:PV) (H:zd):ES A zbp [x0,x1,x2,x3] H=V2 H.length [.tmp 8,.tmp 9] (EV A x_ ⟨[(0,x0),(1,x1),(2,x2),(3,x3)],[],H,[]⟩):=K_ (F:=J4.1) rfl rfl
theorem zeJ (x0:PV):EP A kN [x0]=yI [.cell 2 true 3] (EV A vX ⟨[(0,x0)],[],[],[]⟩):=yp (F:=uM.1) rfl rfl
theorem zeL (x0:PV) (H:zd):ES A kN [x0] H=V2 H.length [.cell 2 true 3] (EV A vX ⟨[(0,x0)],[],H,[]⟩):=K_ (F:=uM.1) rfl rfl
theorem kD (x0 x1:PV):EP A QM [x0,x1]=yI [.tmp 4] (EV A ua ⟨[(0,x0),(1,x1)],[],[],[]⟩):=yp (F:=YQ.1) rfl rfl
theorem ze5 (x0 x1:PV):EP A zfr [x0,x1]=yI [.tmp 4] (EV A kz ⟨[(0,x0),(1,x1)],[],[],[]⟩):=yp (F:=Jl.1) rfl rfl
theorem zjq (x0 x1:PV):EP A zcg [x0,x1]=yI [.tmp 4] (EV A Z1 ⟨[(0,x0),(1,x1)],[],[],[]⟩):=yp (F:=WA.1) rfl rfl
theorem zlU (x0 x1:PV):EP A zfu [x0,x1]=yI [.tmp 4] (EV A XM ⟨[(0,x0),(1,x1)],[],[],[]⟩):=yp (F:=Jp.1) rfl rfl
theorem U0 (x0 x1:PV):EP A zaD [x0,x1]=yI [.tmp 4] (EV A jy ⟨[(0,x0),(1,x1)],[],[],[]⟩):=yp (F:=Xz.1) rfl rfl
theorem zkU (x0 x1:PV):EP A zd_ [x0,x1]=yI [.tmp 4] (EV A Y2 ⟨[(0,x0),(1,x1)],[],[],[]⟩):=yp (F:=VL.1) rfl rfl
theorem UY (x0 x1:PV):EP A zaB [x0,x1]=yI [.tmp 4] (EV A jw ⟨[(0,x0),(1,x1)],[],[],[]⟩):=yp (F:=Xx.1) rfl rfl
theorem vS (x0 x1:PV):EP A zaI [x0,x1]=yI [.tmp 4] (EV A Zk ⟨[(0,x0),(1,x1)],[],[],[]⟩):=yp (F:=XG.1) rfl rfl
theorem ub (x0:PV):EP A QP [x0]=yI [.tmp 2] (EV A kB ⟨[(0,x0)],[],[],[]⟩):=yp (F:=YT.1) rfl rfl
theorem zg7 (x0 x1:PV):EP A QQ [x0,x1]=yI [.tmp 4] (EV A kC ⟨[(0,x0),(1,x1)],[],[],[]⟩):=yp (F:=YU.1) rfl rfl
theorem Wg (x0 x1 x2:PV):EP A zcs [x0,x1,x2]=yI [.tmp 6] (EV A kg ⟨[(0,x0),(1,x1),(2,x2)],[],[],[]⟩):=yp (F:=WM.1) rfl rfl
theorem znx (x0 x1 x2:PV):EP A zgE [x0,x1,x2]=yI [.tmp 6] (EV A Vf ⟨[(0,x0),(1,x1),(2,x2)],[],[],[]⟩):=yp (F:=J7.1) rfl rfl
theorem zhT (x0 x1:PV):EP A Xq [x0,x1]=yI [.tmp 4] (EV A ur ⟨[(0,x0),(1,x1)],[],[],[]⟩):=yp (F:=ZA.1) rfl rfl
theorem zaM (x0 x1:PV) (H:zd):ES A Xq [x0,x1] H=V2 H.length [.tmp 4] (EV A ur ⟨[(0,x0),(1,x1)],[],H,[]⟩):=K_ (F:=ZA.1) rfl rfl
theorem zO (x0:PV):EP A zcu [x0]=yI [.tmp 2] (EV A Yc ⟨[(0,x0)],[],[],[]⟩):=yp (F:=WO.1) rfl rfl
theorem zhR (x0:PV):EP A zaH [x0]=yI [.tmp 2] (EV A Zj ⟨[(0,x0)],[],[],[]⟩):=yp (F:=XF.1) rfl rfl
theorem vG (x0:PV):EP A zcx [x0]=yI [.tmp 2,.tmp 3] (EV A Yd ⟨[(0,x0)],[],[],[]⟩):=yp (F:=WR.1) rfl rfl
theorem zbY (x0 x1:PV):EP A zcq [x0,x1]=yI [.tmp 4] (EV A kf ⟨[(0,x0),(1,x1)],[],[],[]⟩):=yp (F:=WK.1) rfl rfl
theorem zlW (x0:PV):EP A zfw [x0]=yI [.tmp 2] (EV A Z9 ⟨[(0,x0)],[],[],[]⟩):=yp (F:=Jr.1) rfl rfl
theorem zhQ (x0:PV):EP A zaG [x0]=yI [.tmp 2] (EV A jB ⟨[(0,x0)],[],[],[]⟩):=yp (F:=XC.1) rfl rfl
theorem zkW (x0:PV):EP A zea [x0]=yI [.tmp 2] (EV A kW ⟨[(0,x0)],[],[],[]⟩):=yp (F:=VN.1) rfl rfl
theorem zhO (x0:PV):EP A zaE [x0]=yI [.tmp 2] (EV A jz ⟨[(0,x0)],[],[],[]⟩):=yp (F:=XA.1) rfl rfl
theorem znu (x0 x1 x2 x3 x4:PV):EP A zgB [x0,x1,x2,x3,x4]=yI [.tmp 10] (EV A Vc ⟨[(0,x0),(1,x1),(2,x2),(3,x3),(4,x4)],[],[],[]⟩):=yp (F:=J3.1) rfl rfl
theorem zge (x0:PV):EP A KM [x0]=yI [.cell 2 true 4] (EV A jQ ⟨[(0,x0)],[],[],[]⟩):=yp (F:=ZR.1) rfl rfl
theorem yC (x0 x1 x2 x3:PV):EP A zcc [x0,x1,x2,x3]=yI [.tmp 8] (EV A ZX ⟨[(0,x0),(1,x1),(2,x2),(3,x3)],[],[],[]⟩):=yp (F:=Ww.1) rfl rfl
theorem zg5 (x0:PV):EP A QL [x0]=yI [.tmp 2] (EV A ky ⟨[(0,x0)],[],[],[]⟩):=yp (F:=YP.1) rfl rfl
theorem zbW (x0 x1:PV):EP A zcd [x0,x1]=yI [.tmp 3] (EV A kb ⟨[(0,x0),(1,x1)],[],[],[]⟩):=yp (F:=Wx.1) rfl rfl
theorem Yf (x0:PV):EP A zfp [x0]=yI [.tmp 2] (EV A XK ⟨[(0,x0)],[],[],[]⟩):=yp (F:=Jj.1) rfl rfl
theorem zkQ (x0 x1:PV):EP A Vu [x0,x1]=yI [.tmp 4] (EV A jK ⟨[(0,x0),(1,x1)],[],[],[]⟩):=yp (F:=Xa.1) rfl rfl
theorem zeh (x0 x1:PV) (H:zd):ES A Vu [x0,x1] H=V2 H.length [.tmp 4] (EV A jK ⟨[(0,x0),(1,x1)],[],H,[]⟩):=K_ (F:=Xa.1) rfl rfl
theorem zlT (x0 x1:PV):EP A zft [x0,x1]=yI [.tmp 4] (EV A Z2 ⟨[(0,x0),(1,x1)],[],[],[]⟩):=yp (F:=Jo.1) rfl rfl
theorem zhN (x0 x1:PV):EP A zaA [x0,x1]=yI [.tmp 4] (EV A jv ⟨[(0,x0),(1,x1)],[],[],[]⟩):=yp (F:=Xw.1) rfl rfl
theorem zkT (x0 x1:PV):EP A zd8 [x0,x1]=yI [.tmp 4] (EV A kV ⟨[(0,x0),(1,x1)],[],[],[]⟩):=yp (F:=VJ.1) rfl rfl
theorem zhL (x0 x1:PV):EP A zay [x0,x1]=yI [.tmp 4] (EV A jt ⟨[(0,x0),(1,x1)],[],[],[]⟩):=yp (F:=Xu.1) rfl rfl
theorem zjt (x0 x1:PV):EP A zck [x0,x1]=yI [.tmp 4] (EV A Z6 ⟨[(0,x0),(1,x1)],[],[],[]⟩):=yp (F:=WE.1) rfl rfl
theorem zjs (x0 x1:PV):EP A zci [x0,x1]=yI [.tmp 4] (EV A Z4 ⟨[(0,x0),(1,x1)],[],[],[]⟩):=yp (F:=WC.1) rfl rfl
theorem vd (x0:PV):EP A zcp [x0]=yI [.tmp 2] (EV A Ya ⟨[(0,x0)],[],[],[]⟩):=yp (F:=WJ.1) rfl rfl
theorem y8 (x0 x1 x2 x3:PV):EP A zed [x0,x1,x2,x3]=yI [.tmp 8] (EV A Y5 ⟨[(0,x0),(1,x1),(2,x2),(3,x3)],[],[],[]⟩):=yp (F:=VQ.1) rfl rfl
theorem znw (x0:PV):EP A zgD [x0]=yI [.cell 2 true 2] (EV A Ve ⟨[(0,x0)],[],[],[]⟩):=yp (F:=J6.1) rfl rfl
theorem zjw (x0:PV):EP A zcn [x0]=yI [.cell 2 true 5] (EV A Z_ ⟨[(0,x0)],[],[],[]⟩):=yp (F:=WH.1) rfl rfl
theorem zlV (x0:PV):EP A zfv [x0]=yI [.cell 2 true 5] (EV A XN ⟨[(0,x0)],[],[],[]⟩):=yp (F:=Jq.1) rfl rfl
theorem zju (x0:PV):EP A zcl [x0]=yI [.cell 2 true 4] (EV A Z7 ⟨[(0,x0)],[],[],[]⟩):=yp (F:=WF.1) rfl rfl
theorem znv (x0 x1:PV):EP A zgC [x0,x1]=yI [.tmp 4] (EV A Vd ⟨[(0,x0),(1,x1)],[],[],[]⟩):=yp (F:=J5.1) rfl rfl
theorem zjr (x0 x1:PV):EP A zch [x0,x1]=yI [.tmp 4] (EV A Z3 ⟨[(0,x0),(1,x1)],[],[],[]⟩):=yp (F:=WB.1) rfl rfl
theorem zlS (x0 x1:PV):EP A zfs [x0,x1]=yI [.tmp 4] (EV A XL ⟨[(0,x0),(1,x1)],[],[],[]⟩):=yp (F:=Jn.1) rfl rfl
theorem zjp (x0 x1:PV):EP A zcf [x0,x1]=yI [.tmp 4] (EV A Z0 ⟨[(0,x0),(1,x1)],[],[],[]⟩):=yp (F:=Wz.1) rfl rfl
theorem zkX (x0 x1 x2 x3 x4:PV):EP A zeb [x0,x1,x2,x3,x4]=yI [.tmp 10] (EV A Y4 ⟨[(0,x0),(1,x1),(2,x2),(3,x3),(4,x4)],[],[],[]⟩):=yp (F:=VO.1) rfl rfl
theorem V0 (x0 x1:PV):EP A QN [x0,x1]=yI [.tmp 4] (EV A kA ⟨[(0,x0),(1,x1)],[],[],[]⟩):=yp (F:=YR.1) rfl rfl
noncomputable def WY:=xI (c:=vN) (R:=WU) (B:=zab) rfl rfl (fun R B=>by cbv)
noncomputable def XT:=yK (P:=A) (c:=vN) (R:=WU) rfl rfl (by cbv) (fun P R=>by cbv)
noncomputable def zek:=xI (c:=Y1) (R:=zdX) (B:=zkL) rfl rfl (fun R B=>by cbv)
noncomputable def zcD:=yK (P:=A) (c:=Y1) (R:=zdX) rfl rfl (by cbv) (fun P R=>by cbv)
noncomputable def Ug:=xI (c:=uV) (R:=VY) (B:=Yw) rfl rfl (fun R B=>by cbv)
noncomputable def Xl:=xN (c:=uV) (R:=VY) (B:=Yw) (j:=0) rfl rfl (fun R B=>by cbv)
noncomputable def uB:=yK (P:=A) (c:=uV) (R:=VY) rfl rfl (by cbv) (fun P R=>by cbv)
noncomputable def zld:=xI (c:=Y3) (R:=zdZ) (B:=zkN) rfl rfl (fun R B=>by cbv)
noncomputable def zjU:=yK (P:=A) (c:=Y3) (R:=zdZ) rfl rfl (by cbv) (fun P R=>by cbv)
noncomputable def Ue:=xI (c:=uU) (R:=VX) (B:=Yv) rfl rfl (fun R B=>by cbv)
noncomputable def Xi:=xN (c:=uU) (R:=VX) (B:=Yv) (j:=0) rfl rfl (fun R B=>by cbv)
noncomputable def uA:=yK (P:=A) (c:=uU) (R:=VX) rfl rfl (by cbv) (fun P R=>by cbv)
noncomputable def zfU:=xI (c:=jj) (R:=J9) (B:=zeM) rfl rfl (fun R B=>by cbv)
noncomputable def zeK:=yK (P:=A) (c:=jj) (R:=J9) rfl rfl (by cbv) (fun P R=>by cbv)
noncomputable def zla:=xI (c:=Y0) (R:=zdW) (B:=zkK) rfl rfl (fun R B=>by cbv)
noncomputable def zjS:=yK (P:=A) (c:=Y0) (R:=zdW) rfl rfl (by cbv) (fun P R=>by cbv)
noncomputable def Je:=xI (c:=jx) (R:=UQ) (B:=Ze) rfl rfl (fun R B=>by cbv)
noncomputable def X3:=xN (c:=jx) (R:=UQ) (B:=Ze) (j:=0) rfl rfl (fun R B=>by cbv)
noncomputable def u9:=yK (P:=A) (c:=jx) (R:=UQ) rfl rfl (by cbv) (fun P R=>by cbv)
noncomputable def ZL:=xI (c:=vj) (R:=jP) (B:=xZ) rfl rfl (fun R B=>by cbv)
noncomputable def YJ:=xN (c:=vj) (R:=jP) (B:=xZ) (j:=0) rfl rfl (fun R B=>by cbv)
noncomputable def jZ:=xN (c:=vj) (R:=jP) (B:=xZ) (j:=1) rfl rfl (fun R B=>by cbv)
noncomputable def YK:=xN (c:=vj) (R:=jP) (B:=xZ) (j:=2) rfl rfl (fun R B=>by cbv)
noncomputable def xj:=yK (P:=A) (c:=vj) (R:=jP) rfl rfl (by cbv) (fun P R=>by cbv)
noncomputable def VF:=xI (c:=vD) (R:=jJ) (B:=xD) rfl rfl (fun R B=>by cbv)
noncomputable def Q3:=xN (c:=vD) (R:=jJ) (B:=xD) (j:=0) rfl rfl (fun R B=>by cbv)
noncomputable def ud:=xN (c:=vD) (R:=jJ) (B:=xD) (j:=1) rfl rfl (fun R B=>by cbv)
noncomputable def Un:=xN (c:=vD) (R:=jJ) (B:=xD) (j:=2) rfl rfl (fun R B=>by cbv)
noncomputable def YM:=xN (c:=vD) (R:=jJ) (B:=xD) (j:=3) rfl rfl (fun R B=>by cbv)
noncomputable def YN:=xN (c:=vD) (R:=jJ) (B:=xD) (j:=4) rfl rfl (fun R B=>by cbv)
noncomputable def yA:=yK (P:=A) (c:=vD) (R:=jJ) rfl rfl (by cbv) (fun P R=>by cbv)
noncomputable def ziY:=xI (c:=jA) (R:=UT) (B:=UG) rfl rfl (fun R B=>by cbv)
noncomputable def Km:=xN (c:=jA) (R:=UT) (B:=UG) (j:=0) rfl rfl (fun R B=>by cbv)
noncomputable def Ua:=yK (P:=A) (c:=jA) (R:=UT) rfl rfl (by cbv) (fun P R=>by cbv)
noncomputable def wA:=xI (c:=yR) (R:=xx) (B:=zK) rfl rfl (fun R B=>by cbv)
noncomputable def Jg:=xN (c:=yR) (R:=xx) (B:=zK) (j:=0) rfl rfl (fun R B=>by cbv)
noncomputable def yi:=xN (c:=yR) (R:=xx) (B:=zK) (j:=1) rfl rfl (fun R B=>by cbv)
noncomputable def YF:=xN (c:=yR) (R:=xx) (B:=zK) (j:=2) rfl rfl (fun R B=>by cbv)
noncomputable def wm:=xN (c:=yR) (R:=xx) (B:=zK) (j:=3) rfl rfl (fun R B=>by cbv)
noncomputable def YG:=xN (c:=yR) (R:=xx) (B:=zK) (j:=4) rfl rfl (fun R B=>by cbv)
noncomputable def wn:=xN (c:=yR) (R:=xx) (B:=zK) (j:=5) rfl rfl (fun R B=>by cbv)
noncomputable def jY:=xN (c:=yR) (R:=xx) (B:=zK) (j:=6) rfl rfl (fun R B=>by cbv)
noncomputable def wZ:=xN (c:=yR) (R:=xx) (B:=zK) (j:=7) rfl rfl (fun R B=>by cbv)
noncomputable def YH:=xN (c:=yR) (R:=xx) (B:=zK) (j:=8) rfl rfl (fun R B=>by cbv)
noncomputable def vL:=xN (c:=yR) (R:=xx) (B:=zK) (j:=9) rfl rfl (fun R B=>by cbv)
noncomputable def Yq:=xN (c:=yR) (R:=xx) (B:=zK) (j:=10) rfl rfl (fun R B=>by cbv)
noncomputable def jH:=xN (c:=yR) (R:=xx) (B:=zK) (j:=11) rfl rfl (fun R B=>by cbv)
noncomputable def zg:=yK (P:=A) (c:=yR) (R:=xx) rfl rfl (by cbv) (fun P R=>by cbv)
noncomputable def Zc:=xI (c:=uE) (R:=YW) (B:=vB) rfl rfl (fun R B=>by cbv)
noncomputable def Q0:=xN (c:=uE) (R:=YW) (B:=vB) (j:=0) rfl rfl (fun R B=>by cbv)
noncomputable def kJ:=xN (c:=uE) (R:=YW) (B:=vB) (j:=1) rfl rfl (fun R B=>by cbv)
noncomputable def YI:=xN (c:=uE) (R:=YW) (B:=vB) (j:=2) rfl rfl (fun R B=>by cbv)
noncomputable def xC:=yK (P:=A) (c:=uE) (R:=YW) rfl rfl (by cbv) (fun P R=>by cbv)
noncomputable def ziV:=xI (c:=ju) (R:=UN) (B:=UD) rfl rfl (fun R B=>by cbv)
noncomputable def Kj:=xN (c:=ju) (R:=UN) (B:=UD) (j:=0) rfl rfl (fun R B=>by cbv)
noncomputable def V9:=yK (P:=A) (c:=ju) (R:=UN) rfl rfl (by cbv) (fun P R=>by cbv)
noncomputable def kn:=xI (c:=Z5) (R:=zbC) (B:=zi_) rfl rfl (fun R B=>by cbv)
noncomputable def jF:=yK (P:=A) (c:=Z5) (R:=zbC) rfl rfl (by cbv) (fun P R=>by cbv)
noncomputable def ko:=xI (c:=wq) (R:=vb) (B:=yz) rfl rfl (fun R B=>by cbv)
noncomputable def KO:=xN (c:=wq) (R:=vb) (B:=yz) (j:=0) rfl rfl (fun R B=>by cbv)
noncomputable def W7:=xN (c:=wq) (R:=vb) (B:=yz) (j:=1) rfl rfl (fun R B=>by cbv)
noncomputable def W8:=xN (c:=wq) (R:=vb) (B:=yz) (j:=2) rfl rfl (fun R B=>by cbv)
noncomputable def W9:=xN (c:=wq) (R:=vb) (B:=yz) (j:=3) rfl rfl (fun R B=>by cbv)
noncomputable def W_:=xN (c:=wq) (R:=vb) (B:=yz) (j:=4) rfl rfl (fun R B=>by cbv)
noncomputable def Va:=xN (c:=wq) (R:=vb) (B:=yz) (j:=5) rfl rfl (fun R B=>by cbv)
noncomputable def ZO:=xN (c:=wq) (R:=vb) (B:=yz) (j:=6) rfl rfl (fun R B=>by cbv)
noncomputable def Vb:=xN (c:=wq) (R:=vb) (B:=yz) (j:=7) rfl rfl (fun R B=>by cbv)
noncomputable def z_:=yK (P:=A) (c:=wq) (R:=vb) rfl rfl (by cbv) (fun P R=>by cbv)
noncomputable def zcJ:=xI (c:=kh) (R:=JA) (B:=X_) rfl rfl (fun R B=>by cbv)
noncomputable def jT:=xN (c:=kh) (R:=JA) (B:=X_) (j:=0) rfl rfl (fun R B=>by cbv)
noncomputable def uv:=yK (P:=A) (c:=kh) (R:=JA) rfl rfl (by cbv) (fun P R=>by cbv)
noncomputable def zkb:=xI (c:=Yb) (R:=zbJ) (B:=zjf) rfl rfl (fun R B=>by cbv)
noncomputable def ziD:=yK (P:=A) (c:=Yb) (R:=zbJ) rfl rfl (by cbv) (fun P R=>by cbv)
noncomputable def zcI:=xI (c:=uW) (R:=Wb) (B:=uN) rfl rfl (fun R B=>by cbv)
noncomputable def ZP:=xN (c:=uW) (R:=Wb) (B:=uN) (j:=0) rfl rfl (fun R B=>by cbv)
noncomputable def KP:=xN (c:=uW) (R:=Wb) (B:=uN) (j:=1) rfl rfl (fun R B=>by cbv)
noncomputable def vU:=yK (P:=A) (c:=uW) (R:=Wb) rfl rfl (by cbv) (fun P R=>by cbv)
noncomputable def zlg:=xI (c:=kX) (R:=Kw) (B:=Vn) rfl rfl (fun R B=>by cbv)
noncomputable def Uh:=xN (c:=kX) (R:=Kw) (B:=Vn) (j:=0) rfl rfl (fun R B=>by cbv)
noncomputable def Wo:=yK (P:=A) (c:=kX) (R:=Kw) rfl rfl (by cbv) (fun P R=>by cbv)
noncomputable def VE:=xI (c:=v5) (R:=kT) (B:=xP) rfl rfl (fun R B=>by cbv)
noncomputable def xh:=xN (c:=v5) (R:=kT) (B:=xP) (j:=0) rfl rfl (fun R B=>by cbv)
noncomputable def Uk:=xN (c:=v5) (R:=kT) (B:=xP) (j:=1) rfl rfl (fun R B=>by cbv)
noncomputable def kK:=xN (c:=v5) (R:=kT) (B:=xP) (j:=2) rfl rfl (fun R B=>by cbv)
noncomputable def YL:=xN (c:=v5) (R:=kT) (B:=xP) (j:=3) rfl rfl (fun R B=>by cbv)
noncomputable def yb:=yK (P:=A) (c:=v5) (R:=kT) rfl rfl (by cbv) (fun P R=>by cbv)
noncomputable def yH:=xI (c:=Zi) (R:=zaf) (B:=zhw) rfl rfl (fun R B=>by cbv)
noncomputable def yy:=yK (P:=A) (c:=Zi) (R:=zaf) rfl rfl (by cbv) (fun P R=>by cbv)
noncomputable def vi:=xI (c:=Ye) (R:=zbM) (B:=zji) rfl rfl (fun R B=>by cbv)
noncomputable def wT:=yK (P:=A) (c:=Ye) (R:=zbM) rfl rfl (by cbv) (fun P R=>by cbv)
noncomputable def zel:=xI (c:=uF) (R:=YX) (B:=vC) rfl rfl (fun R B=>by cbv)
noncomputable def vA:=xN (c:=uF) (R:=YX) (B:=vC) (j:=0) rfl rfl (fun R B=>by cbv)
noncomputable def Ui:=xN (c:=uF) (R:=YX) (B:=vC) (j:=1) rfl rfl (fun R B=>by cbv)
noncomputable def Uj:=xN (c:=uF) (R:=YX) (B:=vC) (j:=2) rfl rfl (fun R B=>by cbv)
noncomputable def xM:=yK (P:=A) (c:=uF) (R:=YX) rfl rfl (by cbv) (fun P R=>by cbv)
noncomputable def vz:=xI (c:=uf) (R:=XI) (B:=XH) rfl rfl (fun R B=>by cbv)
noncomputable def Uz:=xN (c:=uf) (R:=XI) (B:=XH) (j:=0) rfl rfl (fun R B=>by cbv)
noncomputable def wv:=yK (P:=A) (c:=uf) (R:=XI) rfl rfl (by cbv) (fun P R=>by cbv)
noncomputable def zaQ:=xI (c:=uq) (R:=UV) (B:=Xm) rfl rfl (fun R B=>by cbv)
noncomputable def X5:=xN (c:=uq) (R:=UV) (B:=Xm) (j:=0) rfl rfl (fun R B=>by cbv)
noncomputable def kE:=yK (P:=A) (c:=uq) (R:=UV) rfl rfl (by cbv) (fun P R=>by cbv)
noncomputable def Y_:=xI (c:=jL) (R:=Vo) (B:=jI) rfl rfl (fun R B=>by cbv)
noncomputable def Ul:=xN (c:=jL) (R:=Vo) (B:=jI) (j:=0) rfl rfl (fun R B=>by cbv)
noncomputable def Um:=xN (c:=jL) (R:=Vo) (B:=jI) (j:=1) rfl rfl (fun R B=>by cbv)
noncomputable def wQ:=yK (P:=A) (c:=jL) (R:=Vo) rfl rfl (by cbv) (fun P R=>by cbv)
noncomputable def zj_:=xI (c:=Z8) (R:=zbF) (B:=zjb) rfl rfl (fun R B=>by cbv)
noncomputable def ziA:=yK (P:=A) (c:=Z8) (R:=zbF) rfl rfl (by cbv) (fun P R=>by cbv)
noncomputable def zk':=xI (c:=YZ) (R:=zdV) (B:=zkJ) rfl rfl (fun R B=>by cbv)
noncomputable def zjR:=yK (P:=A) (c:=YZ) (R:=zdV) rfl rfl (by cbv) (fun P R=>by cbv)
noncomputable def vg:=xI (c:=ZZ) (R:=zbx) (B:=zi5) rfl rfl (fun R B=>by cbv)
noncomputable def wR:=yK (P:=A) (c:=ZZ) (R:=zbx) rfl rfl (by cbv) (fun P R=>by cbv)
noncomputable def zka:=xI (c:=Z') (R:=zbH) (B:=zjd) rfl rfl (fun R B=>by cbv)
noncomputable def ziC:=yK (P:=A) (c:=Z') (R:=zbH) rfl rfl (by cbv) (fun P R=>by cbv)
noncomputable def QZ:=xI (c:=ZY) (R:=Qm) (B:=UB) rfl rfl (fun R B=>by cbv)
noncomputable def Jh:=xN (c:=ZY) (R:=Qm) (B:=UB) (j:=0) rfl rfl (fun R B=>by cbv)
noncomputable def Za:=yK (P:=A) (c:=ZY) (R:=Qm) rfl rfl (by cbv) (fun P R=>by cbv)
noncomputable def Vm:=xI (c:=x_) (R:=zw) (B:=z7) rfl rfl (fun R B=>by cbv)
noncomputable def zB:=xN (c:=x_) (R:=zw) (B:=z7) (j:=0) rfl rfl (fun R B=>by cbv)
noncomputable def Yr:=xN (c:=x_) (R:=zw) (B:=z7) (j:=1) rfl rfl (fun R B=>by cbv)
noncomputable def Wu:=xN (c:=x_) (R:=zw) (B:=z7) (j:=2) rfl rfl (fun R B=>by cbv)
noncomputable def zcK:=xN (c:=x_) (R:=zw) (B:=z7) (j:=3) rfl rfl (fun R B=>by cbv)
noncomputable def Wv:=xN (c:=x_) (R:=zw) (B:=z7) (j:=4) rfl rfl (fun R B=>by cbv)
noncomputable def Ys:=xN (c:=x_) (R:=zw) (B:=z7) (j:=5) rfl rfl (fun R B=>by cbv)
noncomputable def JQ:=xN (c:=x_) (R:=zw) (B:=z7) (j:=6) rfl rfl (fun R B=>by cbv)
noncomputable def JR:=xN (c:=x_) (R:=zw) (B:=z7) (j:=7) rfl rfl (fun R B=>by cbv)
noncomputable def zcL:=xN (c:=x_) (R:=zw) (B:=z7) (j:=8) rfl rfl (fun R B=>by cbv)
noncomputable def zi:=yK (P:=A) (c:=x_) (R:=zw) rfl rfl (by cbv) (fun P R=>by cbv)
noncomputable def Jt:=xI (c:=vX) (R:=Js) (B:=zeI) rfl rfl (fun R B=>by cbv)
noncomputable def U9:=yK (P:=A) (c:=vX) (R:=Js) rfl rfl (by cbv) (fun P R=>by cbv)
noncomputable def kI:=xI (c:=ua) (R:=Yx) (B:=v_) rfl rfl (fun R B=>by cbv)
noncomputable def Xj:=xN (c:=ua) (R:=Yx) (B:=v_) (j:=0) rfl rfl (fun R B=>by cbv)
noncomputable def Xk:=xN (c:=ua) (R:=Yx) (B:=v_) (j:=1) rfl rfl (fun R B=>by cbv)
noncomputable def wk:=yK (P:=A) (c:=ua) (R:=Yx) rfl rfl (by cbv) (fun P R=>by cbv)
noncomputable def zfT:=xI (c:=kz) (R:=UL) (B:=je) rfl rfl (fun R B=>by cbv)
noncomputable def Xt:=xN (c:=kz) (R:=UL) (B:=je) (j:=0) rfl rfl (fun R B=>by cbv)
noncomputable def Zu:=xN (c:=kz) (R:=UL) (B:=je) (j:=1) rfl rfl (fun R B=>by cbv)
noncomputable def w_:=yK (P:=A) (c:=kz) (R:=UL) rfl rfl (by cbv) (fun P R=>by cbv)
noncomputable def zj5:=xI (c:=Z1) (R:=zbz) (B:=zi7) rfl rfl (fun R B=>by cbv)
noncomputable def ziv:=yK (P:=A) (c:=Z1) (R:=zbz) rfl rfl (by cbv) (fun P R=>by cbv)
noncomputable def zm6:=xI (c:=XM) (R:=zeV) (B:=zlt) rfl rfl (fun R B=>by cbv)
noncomputable def zk6:=yK (P:=A) (c:=XM) (R:=zeV) rfl rfl (by cbv) (fun P R=>by cbv)
noncomputable def Jf:=xI (c:=jy) (R:=UR) (B:=Zf) rfl rfl (fun R B=>by cbv)
noncomputable def X4:=xN (c:=jy) (R:=UR) (B:=Zf) (j:=0) rfl rfl (fun R B=>by cbv)
noncomputable def u_:=yK (P:=A) (c:=jy) (R:=UR) rfl rfl (by cbv) (fun P R=>by cbv)
noncomputable def zlc:=xI (c:=Y2) (R:=zdY) (B:=zkM) rfl rfl (fun R B=>by cbv)
noncomputable def zjT:=yK (P:=A) (c:=Y2) (R:=zdY) rfl rfl (by cbv) (fun P R=>by cbv)
noncomputable def Jd:=xI (c:=jw) (R:=UP) (B:=Zd) rfl rfl (fun R B=>by cbv)
noncomputable def XZ:=xN (c:=jw) (R:=UP) (B:=Zd) (j:=0) rfl rfl (fun R B=>by cbv)
noncomputable def u7:=yK (P:=A) (c:=jw) (R:=UP) rfl rfl (by cbv) (fun P R=>by cbv)
noncomputable def vW:=xI (c:=Zk) (R:=zah) (B:=zhy) rfl rfl (fun R B=>by cbv)
noncomputable def vx:=yK (P:=A) (c:=Zk) (R:=zah) rfl rfl (by cbv) (fun P R=>by cbv)
noncomputable def uc:=xI (c:=kB) (R:=Qq) (B:=zgZ) rfl rfl (fun R B=>by cbv)
noncomputable def vQ:=yK (P:=A) (c:=kB) (R:=Qq) rfl rfl (by cbv) (fun P R=>by cbv)
noncomputable def zhr:=xI (c:=kC) (R:=Qr) (B:=zg0) rfl rfl (fun R B=>by cbv)
noncomputable def zgh:=yK (P:=A) (c:=kC) (R:=Qr) rfl rfl (by cbv) (fun P R=>by cbv)
noncomputable def Wt:=xI (c:=kg) (R:=Jz) (B:=X9) rfl rfl (fun R B=>by cbv)
noncomputable def W6:=xN (c:=kg) (R:=Jz) (B:=X9) (j:=0) rfl rfl (fun R B=>by cbv)
noncomputable def uu:=yK (P:=A) (c:=kg) (R:=Jz) rfl rfl (by cbv) (fun P R=>by cbv)
noncomputable def zot:=xI (c:=Vf) (R:=zgm) (B:=znh) rfl rfl (fun R B=>by cbv)
noncomputable def zmM:=yK (P:=A) (c:=Vf) (R:=zgm) rfl rfl (by cbv) (fun P R=>by cbv)
noncomputable def xL:=xI (c:=ur) (R:=zai) (B:=zhz) rfl rfl (fun R B=>by cbv)
noncomputable def xu:=yK (P:=A) (c:=ur) (R:=zai) rfl rfl (by cbv) (fun P R=>by cbv)
noncomputable def zP:=xI (c:=Yc) (R:=zbK) (B:=zjg) rfl rfl (fun R B=>by cbv)
noncomputable def zI:=yK (P:=A) (c:=Yc) (R:=zbK) rfl rfl (by cbv) (fun P R=>by cbv)
noncomputable def zi0:=xI (c:=Zj) (R:=zag) (B:=zhx) rfl rfl (fun R B=>by cbv)
noncomputable def zhm:=yK (P:=A) (c:=Zj) (R:=zag) rfl rfl (by cbv) (fun P R=>by cbv)
noncomputable def vJ:=xI (c:=Yd) (R:=zbL) (B:=zjh) rfl rfl (fun R B=>by cbv)
noncomputable def vp:=yK (P:=A) (c:=Yd) (R:=zbL) rfl rfl (by cbv) (fun P R=>by cbv)
noncomputable def zcH:=xI (c:=kf) (R:=Jy) (B:=X8) rfl rfl (fun R B=>by cbv)
noncomputable def ZN:=xN (c:=kf) (R:=Jy) (B:=X8) (j:=0) rfl rfl (fun R B=>by cbv)
noncomputable def jG:=yK (P:=A) (c:=kf) (R:=Jy) rfl rfl (by cbv) (fun P R=>by cbv)
noncomputable def zm8:=xI (c:=Z9) (R:=Qp) (B:=Qj) rfl rfl (fun R B=>by cbv)
noncomputable def zaS:=xN (c:=Z9) (R:=Qp) (B:=Qj) (j:=0) rfl rfl (fun R B=>by cbv)
noncomputable def KE:=yK (P:=A) (c:=Z9) (R:=Qp) rfl rfl (by cbv) (fun P R=>by cbv)
noncomputable def ziZ:=xI (c:=jB) (R:=UU) (B:=UH) rfl rfl (fun R B=>by cbv)
noncomputable def Kn:=xN (c:=jB) (R:=UU) (B:=UH) (j:=0) rfl rfl (fun R B=>by cbv)
noncomputable def Ub:=yK (P:=A) (c:=jB) (R:=UU) rfl rfl (by cbv) (fun P R=>by cbv)
noncomputable def zle:=xI (c:=kW) (R:=Kv) (B:=Kr) rfl rfl (fun R B=>by cbv)
noncomputable def Q2:=xN (c:=kW) (R:=Kv) (B:=Kr) (j:=0) rfl rfl (fun R B=>by cbv)
noncomputable def JM:=yK (P:=A) (c:=kW) (R:=Kv) rfl rfl (by cbv) (fun P R=>by cbv)
noncomputable def ziX:=xI (c:=jz) (R:=US) (B:=UF) rfl rfl (fun R B=>by cbv)
noncomputable def Kl:=xN (c:=jz) (R:=US) (B:=UF) (j:=0) rfl rfl (fun R B=>by cbv)
noncomputable def V':=yK (P:=A) (c:=jz) (R:=US) rfl rfl (by cbv) (fun P R=>by cbv)
noncomputable def zoq:=xI (c:=Vc) (R:=zgj) (B:=zne) rfl rfl (fun R B=>by cbv)
noncomputable def zmJ:=yK (P:=A) (c:=Vc) (R:=zgj) rfl rfl (by cbv) (fun P R=>by cbv)
noncomputable def zgi:=xI (c:=jQ) (R:=KI) (B:=zgd) rfl rfl (fun R B=>by cbv)
noncomputable def zfG:=yK (P:=A) (c:=jQ) (R:=KI) rfl rfl (by cbv) (fun P R=>by cbv)
noncomputable def yE:=xI (c:=ZX) (R:=zbw) (B:=zi4) rfl rfl (fun R B=>by cbv)
noncomputable def yw:=yK (P:=A) (c:=ZX) (R:=zbw) rfl rfl (by cbv) (fun P R=>by cbv)
noncomputable def zhq:=xI (c:=ky) (R:=Ql) (B:=zgX) rfl rfl (fun R B=>by cbv)
noncomputable def zgg:=yK (P:=A) (c:=ky) (R:=Ql) rfl rfl (by cbv) (fun P R=>by cbv)
noncomputable def zcG:=xI (c:=kb) (R:=Jx) (B:=X7) rfl rfl (fun R B=>by cbv)
noncomputable def ZM:=xN (c:=kb) (R:=Jx) (B:=X7) (j:=0) rfl rfl (fun R B=>by cbv)
noncomputable def jE:=yK (P:=A) (c:=kb) (R:=Jx) rfl rfl (by cbv) (fun P R=>by cbv)
noncomputable def Yp:=xI (c:=XK) (R:=zeT) (B:=zlr) rfl rfl (fun R B=>by cbv)
noncomputable def k_:=yK (P:=A) (c:=XK) (R:=zeT) rfl rfl (by cbv) (fun P R=>by cbv)
noncomputable def wj:=xI (c:=jK) (R:=zdU) (B:=zkI) rfl rfl (fun R B=>by cbv)
noncomputable def xY:=yK (P:=A) (c:=jK) (R:=zdU) rfl rfl (by cbv) (fun P R=>by cbv)
noncomputable def zm5:=xI (c:=Z2) (R:=Qn) (B:=Qi) rfl rfl (fun R B=>by cbv)
noncomputable def zaR:=xN (c:=Z2) (R:=Qn) (B:=Qi) (j:=0) rfl rfl (fun R B=>by cbv)
noncomputable def KD:=yK (P:=A) (c:=Z2) (R:=Qn) rfl rfl (by cbv) (fun P R=>by cbv)
noncomputable def ziW:=xI (c:=jv) (R:=UO) (B:=UE) rfl rfl (fun R B=>by cbv)
noncomputable def Kk:=xN (c:=jv) (R:=UO) (B:=UE) (j:=0) rfl rfl (fun R B=>by cbv)
noncomputable def V_:=yK (P:=A) (c:=jv) (R:=UO) rfl rfl (by cbv) (fun P R=>by cbv)
noncomputable def zlb:=xI (c:=kV) (R:=Ku) (B:=Kq) rfl rfl (fun R B=>by cbv)
noncomputable def Q1:=xN (c:=kV) (R:=Ku) (B:=Kq) (j:=0) rfl rfl (fun R B=>by cbv)
noncomputable def JL:=yK (P:=A) (c:=kV) (R:=Ku) rfl rfl (by cbv) (fun P R=>by cbv)
noncomputable def ziU:=xI (c:=jt) (R:=UM) (B:=UC) rfl rfl (fun R B=>by cbv)
noncomputable def Ki:=xN (c:=jt) (R:=UM) (B:=UC) (j:=0) rfl rfl (fun R B=>by cbv)
noncomputable def V8:=yK (P:=A) (c:=jt) (R:=UM) rfl rfl (by cbv) (fun P R=>by cbv)
noncomputable def zj8:=xI (c:=Z6) (R:=zbD) (B:=zi') rfl rfl (fun R B=>by cbv)
noncomputable def ziy:=yK (P:=A) (c:=Z6) (R:=zbD) rfl rfl (by cbv) (fun P R=>by cbv)
noncomputable def zj7:=xI (c:=Z4) (R:=zbB) (B:=zi9) rfl rfl (fun R B=>by cbv)
noncomputable def zix:=yK (P:=A) (c:=Z4) (R:=zbB) rfl rfl (by cbv) (fun P R=>by cbv)
noncomputable def vh:=xI (c:=Ya) (R:=zbI) (B:=zje) rfl rfl (fun R B=>by cbv)
noncomputable def wS:=yK (P:=A) (c:=Ya) (R:=zbI) rfl rfl (by cbv) (fun P R=>by cbv)
noncomputable def y9:=xI (c:=Y5) (R:=zd1) (B:=zkP) rfl rfl (fun R B=>by cbv)
noncomputable def yQ:=yK (P:=A) (c:=Y5) (R:=zd1) rfl rfl (by cbv) (fun P R=>by cbv)
noncomputable def zos:=xI (c:=Ve) (R:=zgl) (B:=zng) rfl rfl (fun R B=>by cbv)
noncomputable def zmL:=yK (P:=A) (c:=Ve) (R:=zgl) rfl rfl (by cbv) (fun P R=>by cbv)
noncomputable def zj':=xI (c:=Z_) (R:=zbG) (B:=zjc) rfl rfl (fun R B=>by cbv)
noncomputable def ziB:=yK (P:=A) (c:=Z_) (R:=zbG) rfl rfl (by cbv) (fun P R=>by cbv)
noncomputable def zm7:=xI (c:=XN) (R:=zeW) (B:=zlu) rfl rfl (fun R B=>by cbv)
noncomputable def zk7:=yK (P:=A) (c:=XN) (R:=zeW) rfl rfl (by cbv) (fun P R=>by cbv)
noncomputable def zj9:=xI (c:=Z7) (R:=zbE) (B:=zja) rfl rfl (fun R B=>by cbv)
noncomputable def ziz:=yK (P:=A) (c:=Z7) (R:=zbE) rfl rfl (by cbv) (fun P R=>by cbv)
noncomputable def zor:=xI (c:=Vd) (R:=zgk) (B:=znf) rfl rfl (fun R B=>by cbv)
noncomputable def zmK:=yK (P:=A) (c:=Vd) (R:=zgk) rfl rfl (by cbv) (fun P R=>by cbv)
noncomputable def zj6:=xI (c:=Z3) (R:=zbA) (B:=zi8) rfl rfl (fun R B=>by cbv)
noncomputable def ziw:=yK (P:=A) (c:=Z3) (R:=zbA) rfl rfl (by cbv) (fun P R=>by cbv)
noncomputable def zm4:=xI (c:=XL) (R:=zeU) (B:=zls) rfl rfl (fun R B=>by cbv)
noncomputable def zk5:=yK (P:=A) (c:=XL) (R:=zeU) rfl rfl (by cbv) (fun P R=>by cbv)
noncomputable def zj4:=xI (c:=Z0) (R:=zby) (B:=zi6) rfl rfl (fun R B=>by cbv)
noncomputable def ziu:=yK (P:=A) (c:=Z0) (R:=zby) rfl rfl (by cbv) (fun P R=>by cbv)
noncomputable def zlf:=xI (c:=Y4) (R:=zd0) (B:=zkO) rfl rfl (fun R B=>by cbv)
noncomputable def zjV:=yK (P:=A) (c:=Y4) (R:=zd0) rfl rfl (by cbv) (fun P R=>by cbv)
noncomputable def Uf:=xI (c:=kA) (R:=Qo) (B:=zgY) rfl rfl (fun R B=>by cbv)
noncomputable def W4:=yK (P:=A) (c:=kA) (R:=Qo) rfl rfl (by cbv) (fun P R=>by cbv)
theorem zAX:zlx Tryd.prog A:=by
 intro f F h
 simp only [A] at h
 split at h
 ·cases h;exact ⟨Tryd.f3,_,_,by kernel_rfl,rfl,yS hQ (uJ.2▸WZ.2),by kernel_rfl⟩
 ·cases h;exact ⟨Tryd.f4,_,_,by kernel_rfl,rfl,yS hQ (Jm.2▸Ji.2),by kernel_rfl⟩
 ·cases h;exact ⟨Tryd.f5,_,_,by kernel_rfl,rfl,yS hQ (VK.2▸zet.2),by kernel_rfl⟩
 ·cases h;exact ⟨Tryd.f6,_,_,by kernel_rfl,rfl,yS hQ (YS.2▸Q9.2),by kernel_rfl⟩
 ·cases h;exact ⟨Tryd.f7,_,_,by kernel_rfl,rfl,yS hQ (VM.2▸zev.2),by kernel_rfl⟩
 ·cases h;exact ⟨Tryd.f8,_,_,by kernel_rfl,rfl,yS hQ (YO.2▸Q5.2),by kernel_rfl⟩
 ·cases h;exact ⟨Tryd.f9,_,_,by kernel_rfl,rfl,yS hQ (Zx.2▸Ko.2),by kernel_rfl⟩
 ·cases h;exact ⟨Tryd.f10,_,_,by kernel_rfl,rfl,yS hQ (VI.2▸zeq.2),by kernel_rfl⟩
 ·cases h;exact ⟨Tryd.f11,_,_,by kernel_rfl,rfl,yS hQ (zeH.2▸zex.2),by kernel_rfl⟩
 ·cases h;exact ⟨Tryd.f12,_,_,by kernel_rfl,rfl,yS hQ (zeF.2▸zem.2),by kernel_rfl⟩
 ·cases h;exact ⟨Tryd.f13,_,_,by kernel_rfl,rfl,yS hQ (zbd.2▸zaW.2),by kernel_rfl⟩
 ·cases h;exact ⟨Tryd.f14,_,_,by kernel_rfl,rfl,yS hQ (zbf.2▸zaZ.2),by kernel_rfl⟩
 ·cases h;exact ⟨Tryd.f15,_,_,by kernel_rfl,rfl,yS hQ (K6.2▸KX.2),by kernel_rfl⟩
 ·cases h;exact ⟨Tryd.f16,_,_,by kernel_rfl,rfl,yS hQ (K1.2▸KT.2),by kernel_rfl⟩
 ·cases h;exact ⟨Tryd.f17,_,_,by kernel_rfl,rfl,yS hQ (Xy.2▸za4.2),by kernel_rfl⟩
 ·cases h;exact ⟨Tryd.f18,_,_,by kernel_rfl,rfl,yS hQ (ZS.2▸KZ.2),by kernel_rfl⟩
 ·cases h;exact ⟨Tryd.f19,_,_,by kernel_rfl,rfl,yS hQ (VU.2▸zeE.2),by kernel_rfl⟩
 ·cases h;exact ⟨Tryd.f20,_,_,by kernel_rfl,rfl,yS hQ (XB.2▸za7.2),by kernel_rfl⟩
 ·cases h;exact ⟨Tryd.f21,_,_,by kernel_rfl,rfl,yS hQ (ZQ.2▸KQ.2),by kernel_rfl⟩
 ·cases h;exact ⟨Tryd.f22,_,_,by kernel_rfl,rfl,yS hQ (VG.2▸zeo.2),by kernel_rfl⟩
 ·cases h;exact ⟨Tryd.f23,_,_,by kernel_rfl,rfl,yS hQ (Xv.2▸zaV.2),by kernel_rfl⟩
 ·cases h;exact ⟨Tryd.f24,_,_,by kernel_rfl,rfl,yS hQ (zdb.2▸zcS.2),by kernel_rfl⟩
 ·cases h;exact ⟨Tryd.f25,_,_,by kernel_rfl,rfl,yS hQ (K5.2▸KW.2),by kernel_rfl⟩
 ·cases h;exact ⟨Tryd.f26,_,_,by kernel_rfl,rfl,yS hQ (zbh.2▸za1.2),by kernel_rfl⟩
 ·cases h;exact ⟨Tryd.f27,_,_,by kernel_rfl,rfl,yS hQ (K3.2▸KU.2),by kernel_rfl⟩
 ·cases h;exact ⟨Tryd.f28,_,_,by kernel_rfl,rfl,yS hQ (zbe.2▸zaY.2),by kernel_rfl⟩
 ·cases h;exact ⟨Tryd.f29,_,_,by kernel_rfl,rfl,yS hQ (K0.2▸KS.2),by kernel_rfl⟩
 ·cases h;exact ⟨Tryd.f30,_,_,by kernel_rfl,rfl,yS hQ (WD.2▸zcW.2),by kernel_rfl⟩
 ·cases h;exact ⟨Tryd.f31,_,_,by kernel_rfl,rfl,yS hQ (WN.2▸zc6.2),by kernel_rfl⟩
 ·cases h;exact ⟨Tryd.f32,_,_,by kernel_rfl,rfl,yS hQ (WQ.2▸zc9.2),by kernel_rfl⟩
 ·cases h;exact ⟨Tryd.f33,_,_,by kernel_rfl,rfl,yS hQ (WL.2▸zc4.2),by kernel_rfl⟩
 ·cases h;exact ⟨Tryd.f34,_,_,by kernel_rfl,rfl,yS hQ (WP.2▸zc8.2),by kernel_rfl⟩
 ·cases h;exact ⟨Tryd.f35,_,_,by kernel_rfl,rfl,yS hQ (VP.2▸zez.2),by kernel_rfl⟩
 ·cases h;exact ⟨Tryd.f36,_,_,by kernel_rfl,rfl,yS hQ (VS.2▸zeC.2),by kernel_rfl⟩
 ·cases h;exact ⟨Tryd.f37,_,_,by kernel_rfl,rfl,yS hQ (XE.2▸za9.2),by kernel_rfl⟩
 ·cases h;exact ⟨Tryd.f38,_,_,by kernel_rfl,rfl,yS hQ (WS.2▸zc'.2),by kernel_rfl⟩
 ·cases h;exact ⟨Tryd.f39,_,_,by kernel_rfl,rfl,yS hQ (VR.2▸zeB.2),by kernel_rfl⟩
 ·cases h;exact ⟨Tryd.f40,_,_,by kernel_rfl,rfl,yS hQ (Zy.2▸Kp.2),by kernel_rfl⟩
 ·cases h;exact ⟨Tryd.f41,_,_,by kernel_rfl,rfl,yS hQ (Zz.2▸za'.2),by kernel_rfl⟩
 ·cases h;exact ⟨Tryd.f42,_,_,by kernel_rfl,rfl,yS hQ (VT.2▸zeD.2),by kernel_rfl⟩
 ·cases h;exact ⟨Tryd.f43,_,_,by kernel_rfl,rfl,yS hQ (WG.2▸zcZ.2),by kernel_rfl⟩
 ·cases h;exact ⟨Tryd.f44,_,_,by kernel_rfl,rfl,yS hQ (VH.2▸zep.2),by kernel_rfl⟩
 ·cases h;exact ⟨Tryd.f45,_,_,by kernel_rfl,rfl,yS hQ (Wy.2▸zcO.2),by kernel_rfl⟩
 ·cases h;exact ⟨Tryd.f46,_,_,by kernel_rfl,rfl,yS hQ (WI.2▸zc1.2),by kernel_rfl⟩
 ·cases h;exact ⟨Tryd.f47,_,_,by kernel_rfl,rfl,yS hQ (Jk.2▸zfX.2),by kernel_rfl⟩
 ·cases h;exact ⟨Tryd.f48,_,_,by kernel_rfl,rfl,yS hQ (J4.2▸zgT.2),by kernel_rfl⟩
 ·cases h;exact ⟨Tryd.f49,_,_,by kernel_rfl,rfl,yS hQ (uM.2▸Ju.2),by kernel_rfl⟩
 ·cases h;exact ⟨Tryd.f50,_,_,by kernel_rfl,rfl,yS hQ (YQ.2▸Q7.2),by kernel_rfl⟩
 ·cases h;exact ⟨Tryd.f51,_,_,by kernel_rfl,rfl,yS hQ (Jl.2▸zfY.2),by kernel_rfl⟩
 ·cases h;exact ⟨Tryd.f52,_,_,by kernel_rfl,rfl,yS hQ (WA.2▸zcR.2),by kernel_rfl⟩
 ·cases h;exact ⟨Tryd.f53,_,_,by kernel_rfl,rfl,yS hQ (zeG.2▸zes.2),by kernel_rfl⟩
 ·cases h;exact ⟨Tryd.f54,_,_,by kernel_rfl,rfl,yS hQ (zbc.2▸zaT.2),by kernel_rfl⟩
 ·cases h;exact ⟨Tryd.f55,_,_,by kernel_rfl,rfl,yS hQ (zbi.2▸za2.2),by kernel_rfl⟩
 ·cases h;exact ⟨Tryd.f56,_,_,by kernel_rfl,rfl,yS hQ (zdc.2▸zcU.2),by kernel_rfl⟩
 ·cases h;exact ⟨Tryd.f57,_,_,by kernel_rfl,rfl,yS hQ (K7.2▸KY.2),by kernel_rfl⟩
 ·cases h;exact ⟨Tryd.f58,_,_,by kernel_rfl,rfl,yS hQ (zbg.2▸za0.2),by kernel_rfl⟩
 ·cases h;exact ⟨Tryd.f59,_,_,by kernel_rfl,rfl,yS hQ (K4.2▸KV.2),by kernel_rfl⟩
 ·cases h;exact ⟨Tryd.f60,_,_,by kernel_rfl,rfl,yS hQ (Jp.2▸zf1.2),by kernel_rfl⟩
 ·cases h;exact ⟨Tryd.f61,_,_,by kernel_rfl,rfl,yS hQ (Xz.2▸za5.2),by kernel_rfl⟩
 ·cases h;exact ⟨Tryd.f62,_,_,by kernel_rfl,rfl,yS hQ (VL.2▸zeu.2),by kernel_rfl⟩
 ·cases h;exact ⟨Tryd.f63,_,_,by kernel_rfl,rfl,yS hQ (Xx.2▸za3.2),by kernel_rfl⟩
 ·cases h;exact ⟨Tryd.f64,_,_,by kernel_rfl,rfl,yS hQ (XG.2▸zba.2),by kernel_rfl⟩
 ·cases h;exact ⟨Tryd.f65,_,_,by kernel_rfl,rfl,yS hQ (YT.2▸Q_.2),by kernel_rfl⟩
 ·cases h;exact ⟨Tryd.f66,_,_,by kernel_rfl,rfl,yS hQ (YU.2▸Q'.2),by kernel_rfl⟩
 ·cases h;exact ⟨Tryd.f67,_,_,by kernel_rfl,rfl,yS hQ (WM.2▸zc5.2),by kernel_rfl⟩
 ·cases h;exact ⟨Tryd.f68,_,_,by kernel_rfl,rfl,yS hQ (J7.2▸zgW.2),by kernel_rfl⟩
 ·cases h;exact ⟨Tryd.f69,_,_,by kernel_rfl,rfl,yS hQ (ZA.2▸zbb.2),by kernel_rfl⟩
 ·cases h;exact ⟨Tryd.f70,_,_,by kernel_rfl,rfl,yS hQ (WO.2▸zc7.2),by kernel_rfl⟩
 ·cases h;exact ⟨Tryd.f71,_,_,by kernel_rfl,rfl,yS hQ (XF.2▸za_.2),by kernel_rfl⟩
 ·cases h;exact ⟨Tryd.f72,_,_,by kernel_rfl,rfl,yS hQ (WR.2▸zc_.2),by kernel_rfl⟩
 ·cases h;exact ⟨Tryd.f73,_,_,by kernel_rfl,rfl,yS hQ (WK.2▸zc3.2),by kernel_rfl⟩
 ·cases h;exact ⟨Tryd.f74,_,_,by kernel_rfl,rfl,yS hQ (Jr.2▸zf3.2),by kernel_rfl⟩
 ·cases h;exact ⟨Tryd.f75,_,_,by kernel_rfl,rfl,yS hQ (XC.2▸za8.2),by kernel_rfl⟩
 ·cases h;exact ⟨Tryd.f76,_,_,by kernel_rfl,rfl,yS hQ (VN.2▸zew.2),by kernel_rfl⟩
 ·cases h;exact ⟨Tryd.f77,_,_,by kernel_rfl,rfl,yS hQ (XA.2▸za6.2),by kernel_rfl⟩
 ·cases h;exact ⟨Tryd.f78,_,_,by kernel_rfl,rfl,yS hQ (J3.2▸zgS.2),by kernel_rfl⟩
 ·cases h;exact ⟨Tryd.f80,_,_,by kernel_rfl,rfl,yS hQ (ZR.2▸KR.2),by kernel_rfl⟩
 ·cases h;exact ⟨Tryd.f81,_,_,by kernel_rfl,rfl,yS hQ (Ww.2▸zcM.2),by kernel_rfl⟩
 ·cases h;exact ⟨Tryd.f82,_,_,by kernel_rfl,rfl,yS hQ (YP.2▸Q6.2),by kernel_rfl⟩
 ·cases h;exact ⟨Tryd.f83,_,_,by kernel_rfl,rfl,yS hQ (Wx.2▸zcN.2),by kernel_rfl⟩
 ·cases h;exact ⟨Tryd.f84,_,_,by kernel_rfl,rfl,yS hQ (Jj.2▸zfW.2),by kernel_rfl⟩
 ·cases h;exact ⟨Tryd.f85,_,_,by kernel_rfl,rfl,yS hQ (Xa.2▸zen.2),by kernel_rfl⟩
 ·cases h;exact ⟨Tryd.f86,_,_,by kernel_rfl,rfl,yS hQ (Jo.2▸zf0.2),by kernel_rfl⟩
 ·cases h;exact ⟨Tryd.f87,_,_,by kernel_rfl,rfl,yS hQ (Xw.2▸zaX.2),by kernel_rfl⟩
 ·cases h;exact ⟨Tryd.f88,_,_,by kernel_rfl,rfl,yS hQ (VJ.2▸zer.2),by kernel_rfl⟩
 ·cases h;exact ⟨Tryd.f89,_,_,by kernel_rfl,rfl,yS hQ (Xu.2▸zaU.2),by kernel_rfl⟩
 ·cases h;exact ⟨Tryd.f90,_,_,by kernel_rfl,rfl,yS hQ (zda.2▸zcP.2),by kernel_rfl⟩
 ·cases h;exact ⟨Tryd.f91,_,_,by kernel_rfl,rfl,yS hQ (WE.2▸zcX.2),by kernel_rfl⟩
 ·cases h;exact ⟨Tryd.f92,_,_,by kernel_rfl,rfl,yS hQ (WC.2▸zcV.2),by kernel_rfl⟩
 ·cases h;exact ⟨Tryd.f93,_,_,by kernel_rfl,rfl,yS hQ (WJ.2▸zc2.2),by kernel_rfl⟩
 ·cases h;exact ⟨Tryd.f94,_,_,by kernel_rfl,rfl,yS hQ (VQ.2▸zeA.2),by kernel_rfl⟩
 ·cases h;exact ⟨Tryd.f95,_,_,by kernel_rfl,rfl,yS hQ (J6.2▸zgV.2),by kernel_rfl⟩
 ·cases h;exact ⟨Tryd.f96,_,_,by kernel_rfl,rfl,yS hQ (WH.2▸zc0.2),by kernel_rfl⟩
 ·cases h;exact ⟨Tryd.f97,_,_,by kernel_rfl,rfl,yS hQ (Jq.2▸zf2.2),by kernel_rfl⟩
 ·cases h;exact ⟨Tryd.f98,_,_,by kernel_rfl,rfl,yS hQ (WF.2▸zcY.2),by kernel_rfl⟩
 ·cases h;exact ⟨Tryd.f99,_,_,by kernel_rfl,rfl,yS hQ (J5.2▸zgU.2),by kernel_rfl⟩
 ·cases h;exact ⟨Tryd.f100,_,_,by kernel_rfl,rfl,yS hQ (WB.2▸zcT.2),by kernel_rfl⟩
 ·cases h;exact ⟨Tryd.f101,_,_,by kernel_rfl,rfl,yS hQ (Jn.2▸zfZ.2),by kernel_rfl⟩
 ·cases h;exact ⟨Tryd.f102,_,_,by kernel_rfl,rfl,yS hQ (Wz.2▸zcQ.2),by kernel_rfl⟩
 ·cases h;exact ⟨Tryd.f103,_,_,by kernel_rfl,rfl,yS hQ (VO.2▸zey.2),by kernel_rfl⟩
 ·cases h;exact ⟨Tryd.f104,_,_,by kernel_rfl,rfl,yS hQ (YR.2▸Q8.2),by kernel_rfl⟩
 ·cases h
theorem zzv:Tryd.prog.follows .mixedOrders=true:=by kernel_rfl
end Go.Proofs.Tryd.Av
end
