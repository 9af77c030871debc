/-
  Maps with keys that differ; the unique tables; the levels. (Merged by program out of 8 texts.)
-/
import Derived.Test.YtcbkbpjlbmalmaaGreatDoorpag
import Derived.Deep.Slices
import Derived.Below
import Derived.ChangeOld
import Derived.ProofKit
import Derived.OpenShut
import Derived.ShutString
import Derived.FnData
import Derived.Shelf.SlSortCmp.WholeK
namespace Go.Proofs.YtcbkbpjlbmalmaaGreatDoor
open Go Go.X Go.Y
abbrev Bg:AK:=.dat I6
abbrev B5:AK:=.dat .ptr
abbrev Rj:AK:=.dat .bool
abbrev AZ:RK:=.dat I6
abbrev Ajx:RK:=.dat .ptr
abbrev FC:RK:=.dat .bool
abbrev Gk:=5
abbrev DR:Bs:=⟨[.dat (.u 2),.dat (.sl I6),Rj],[FC]⟩
abbrev FZ:=8
abbrev En:Bs:=⟨[.dat (.u 2)],[FC]⟩
abbrev Br:=10
abbrev Bk:Bs:=⟨[],[FC]⟩
abbrev Er:=11
abbrev Dq:Bs:=⟨[.dat (.u 2)],[Ajx,.dat (.u 4),FC]⟩
abbrev Cu:=15
abbrev BN:Bs:=⟨[.dat (.u 2)],[AZ]⟩
abbrev AY:=17
abbrev AP:Bs:=⟨[B5,Bg,Bg],[FC]⟩
abbrev EA:=19
abbrev D9:Bs:=⟨[.dat (.sl (.u 0)),Bg,Rj],[.own I6,.own .bool]⟩
abbrev J9:=20
abbrev Ho:Bs:=⟨[B5,.dat (.u 4),Rj],[AZ,AZ]⟩
abbrev Mh:=21
abbrev Jz:Bs:=⟨[B5,.dat (.u 4),.dat (.sl I6),Rj],[AZ,AZ]⟩
abbrev HM:=22
abbrev Fy:Bs:=⟨[.dat (.u 9),.dat (.sl I6)],[FC]⟩
abbrev Cc:=23
abbrev BD:Bs:=⟨[.dat (.sl (.u 0)),Bg,Rj],[FC]⟩
abbrev CJ:=24
abbrev Cq:Bs:=⟨[.dat (.sl (.u 0)),.dat (.sl I6),Bg,Rj],[FC]⟩
abbrev De:=25
abbrev CN:Bs:=⟨[B5,.dat (.sl I6)],[AZ,AZ]⟩
abbrev L7:=27
abbrev JM:Bs:=⟨[B5,Bg,Bg],[FC,AZ]⟩
abbrev OI:=28
abbrev Mt:Bs:=⟨[B5,.dat (.sl I6)],[AZ,AZ]⟩
abbrev CW:=29
abbrev CC:Bs:=⟨[B5,Bg,Bg],[FC,AZ]⟩
abbrev Mi:=30
abbrev J0:Bs:=⟨[B5,.dat (.u 4),.dat (.u 3)],[.own (.u 10),AZ]⟩
abbrev Ds:=32
abbrev C8:Bs:=⟨[.dat (.sl (.u 0))],[AZ]⟩
abbrev Sq:=33
abbrev Ov:Bs:=⟨[Bg,Bg],[Ajx,AZ]⟩
abbrev G1:=34
abbrev E5:Bs:=⟨[.dat (.sl (.u 0))],[AZ,AZ]⟩
abbrev Eo:=35
abbrev Dn:Bs:=⟨[.dat (.sl I6),Bg],[FC]⟩
abbrev EB:=36
abbrev DA:Bs:=⟨[Bg,Bg,.dat (.sl (.u 1))],[AZ]⟩
abbrev Wb:=37
abbrev R6:Bs:=⟨[.dat (.sl (.u 0))],[.dat (.u 4),AZ]⟩
abbrev Fo:=38
abbrev DE:Bs:=⟨[B5,.dat (.sl I6)],[FC]⟩
abbrev Me:=39
abbrev Jw:Bs:=⟨[B5,.dat (.sl (.u 1))],[AZ]⟩
abbrev Hy:=40
abbrev FP:Bs:=⟨[B5,.dat (.u 4)],[Ajx,AZ]⟩
abbrev K0:=41
abbrev Ix:Bs:=⟨[.dat (.sl (.u 0)),.dat (.u 3),Rj],[.dat (.u 5),AZ]⟩
abbrev QZ:=42
abbrev KL:Bs:=⟨[B5,.dat (.u 3)],[AZ]⟩
abbrev GS:=43
abbrev Fj:Bs:=⟨[B5,.dat (.sl I6)],[AZ]⟩
abbrev Ep:=46
abbrev Dp:Bs:=⟨[Rj,Bg],[.own .bool]⟩
abbrev DZ:=50
abbrev D7:Bs:=⟨[B5],[AZ]⟩
abbrev Cd:=51
abbrev BE:Bs:=⟨[Bg,Bg],[FC]⟩
abbrev Mf:=52
abbrev Jx:Bs:=⟨[B5,Bg,.dat (.sl .bool)],[FC,AZ]⟩
abbrev Gm:=53
abbrev E8:Bs:=⟨[.dat (.u 4),Bg],[.dat (.sl I6)]⟩
abbrev AN:=54
abbrev AJ:Bs:=⟨[B5,Bg,Bg],[AZ]⟩
abbrev Dz:=56
abbrev CQ:Bs:=⟨[B5,.fn [.ptr,(.sl I6)] [I6,I6],.dat (.sl I6)],[AZ]⟩
abbrev Ce:=59
abbrev BF:Bs:=⟨[B5,Rj],[AZ]⟩
abbrev CS:=60
abbrev Cr:Bs:=⟨[B5,.dat (.u 3)],[.dat .mref]⟩
abbrev Cl:=63
abbrev BJ:Bs:=⟨[B5,Bg,Bg,Rj],[AZ]⟩
abbrev EC:=64
abbrev DB:Bs:=⟨[Bg],[AZ]⟩
abbrev Ct:=65
abbrev BM:Bs:=⟨[.dat (.u 0)],[AZ]⟩
abbrev HL:=66
abbrev Fx:Bs:=⟨[.dat (.u 0)],[AZ]⟩
abbrev Ej:=67
abbrev Du:Bs:=⟨[B5,Rj],[AZ]⟩
abbrev IH:=68
abbrev Gh:Bs:=⟨[.dat (.u 4),.dat (.sl I6)],[.own .bool,AZ]⟩
abbrev Hj:=69
abbrev EW:Bs:=⟨[.dat (.u 4)],[.own I6]⟩
abbrev G5:=70
abbrev E9:Bs:=⟨[.dat (.u 4)],[.own I6]⟩
abbrev HW:=71
abbrev Gv:Bs:=⟨[B5,.dat (.sl (.u 11))],[AZ,AZ]⟩
abbrev Hc:=72
abbrev EP:Bs:=⟨[.dat (.sl .bool)],[FC]⟩
abbrev Nt:=73
abbrev KK:Bs:=⟨[B5,Bg,.fn [.ptr,I6,I6] [I6],.dat (.sl I6)],[AZ,AZ]⟩
abbrev Pw:=74
abbrev Ms:Bs:=⟨[B5,Bg,Bg],[AZ]⟩
abbrev VY:=76
abbrev R3:Bs:=⟨[B5,.fn [.ptr,I6,I6] [I6],Bg,Bg,Bg],[FC,AZ]⟩
abbrev VW:=77
abbrev R2:Bs:=⟨[B5,Bg,Bg],[AZ]⟩
abbrev JR:=79
abbrev Gt:Bs:=⟨[.dat (.u 9)],[AZ]⟩
abbrev OJ:=80
abbrev L2:Bs:=⟨[Bg,Bg],[Ajx,AZ]⟩
abbrev VZ:=81
abbrev Q8:Bs:=⟨[Bg],[Ajx]⟩
abbrev HN:=82
abbrev Fz:Bs:=⟨[.dat .str],[FC]⟩
abbrev Cz:=83
abbrev BQ:Bs:=⟨[Bg],[FC]⟩
abbrev LX:=84
abbrev Jr:Bs:=⟨[.dat (.sl (.u 0))],[AZ,AZ]⟩
abbrev QW:=85
abbrev Ni:Bs:=⟨[Bg],[AZ]⟩
abbrev LY:=86
abbrev Js:Bs:=⟨[.dat (.u 0)],[AZ]⟩
abbrev Ld:=87
abbrev I8:Bs:=⟨[B5],[.own I6]⟩
abbrev Hx:=88
abbrev FO:Bs:=⟨[B5,Bg],[AZ]⟩
abbrev FA:=89
abbrev Ee:Bs:=⟨[.dat (.u 4)],[AZ]⟩
abbrev Md:=90
abbrev Jv:Bs:=⟨[.dat (.u 3)],[AZ]⟩
abbrev FQ:=91
abbrev EG:Bs:=⟨[.dat (.sl (.u 0)),.map .str I6,.dat (.u 3),Rj],[.dat (.u 5),AZ]⟩
abbrev Mc:=92
abbrev Ju:Bs:=⟨[.dat (.sl (.u 0))],[.map .str I6]⟩
abbrev FB:=96
abbrev Ef:Bs:=⟨[.dat (.u 4),.dat .str],[AZ]⟩
abbrev ZA:=98
abbrev R7:Bs:=⟨[B5,Bg],[AZ,AZ]⟩
abbrev Ex:=109
abbrev Dm:Bs:=⟨[.dat (.sl I6),Bg],[FC]⟩
abbrev EK:=110
abbrev DW:Bs:=⟨[B5,.dat (.sl I6)],[AZ]⟩
abbrev HS:=119
abbrev F5:Bs:=⟨[B5],[AZ]⟩
abbrev He:=120
abbrev ES:Bs:=⟨[Bg],[AZ]⟩
abbrev Dy:=122
abbrev CP:Bs:=⟨[B5,Bg],[AZ,AZ,AZ,FC]⟩
abbrev Ft:=123
abbrev Ec:Bs:=⟨[.dat (.u 4),Bg],[.dat (.sl I6)]⟩
abbrev B6:=124
abbrev Bv:Bs:=⟨[B5,Bg],[AZ]⟩
abbrev L8:=125
abbrev JN:Bs:=⟨[B5,.fn [.ptr] [I6]],[AZ,AZ]⟩
abbrev EE:=127
abbrev DX:Bs:=⟨[B5,Bg,Bg,Bg],[AZ]⟩
abbrev Ao:=128
abbrev Am:Bs:=⟨[B5,.dat (.sl I6)],[]⟩
abbrev FR:=131
abbrev EH:Bs:=⟨[B5,Bg],[AZ,AZ]⟩
abbrev II:=132
abbrev Gu:Bs:=⟨[B5,Rj],[AZ]⟩
abbrev G6:=133
abbrev Fk:Bs:=⟨[.dat (.u 0)],[AZ,AZ]⟩
abbrev BI:=134
abbrev B9:Bs:=⟨[B5,.dat .mref,Bg,Bg],[]⟩
abbrev HX:=135
abbrev F9:Bs:=⟨[B5,.dat (.u 3),.dat (.u 3),.fn [I6,I6,I6] []],[]⟩
abbrev DV:=136
abbrev CZ:Bs:=⟨[Bg,Bg,Bg,.del (.u 3),.del .ptr,B5],[]⟩
abbrev CA:=138
abbrev Ca:Bs:=⟨[.own I6],[]⟩
abbrev Bb:=139
abbrev AO:Bs:=⟨[.fn [I6] [.bool],.del .mref],[]⟩
abbrev OG:=140
abbrev L0:Bs:=⟨[.dat (.u 9),.dat (.sl I6)],[FC]⟩
abbrev Wa:=141
abbrev R5:Bs:=⟨[.dat (.u 0)],[AZ]⟩
abbrev GR:=142
abbrev Fi:Bs:=⟨[.dat (.u 4),.fn [(.u 4),I6] [(.sl I6)]],[.own I6]⟩
abbrev Mg:=143
abbrev Jy:Bs:=⟨[B5,.dat (.sl (.u 11))],[AZ]⟩
abbrev Ss:=144
abbrev Nl:Bs:=⟨[B5,.del (.sl (.u 11))],[AZ]⟩
abbrev Db:=145
abbrev CD:Bs:=⟨[B5,Bg],[AZ]⟩
abbrev Sp:=146
abbrev Nh:Bs:=⟨[B5,.del I6,.del (.sl I6),.fbx [.ptr,I6,I6] [I6]],[AZ]⟩
abbrev FU:=147
abbrev EI:Bs:=⟨[B5,Bg],[AZ]⟩
abbrev CG:=148
abbrev Cy:Bs:=⟨[B5,Bg,Bg,Bg],[AZ]⟩
abbrev Qg:=149
abbrev LQ:Bs:=⟨[B5,.fn [.ptr] []],[AZ]⟩
abbrev VX:=150
abbrev Q7:Bs:=⟨[B5,.del I6,.fbx [.ptr,I6,I6] [I6],.del I6,.del I6,B5],[]⟩
abbrev QV:=151
abbrev Ng:Bs:=⟨[Bg],[Ajx,AZ]⟩
abbrev K6:=152
abbrev I4:Bs:=⟨[Bg],[.own I6]⟩
abbrev Hd:=155
abbrev ER:Bs:=⟨[.dat .str,Bg,Rj],[AZ]⟩
abbrev FY:=156
abbrev Em:Bs:=⟨[.dat (.sl .str),.dat .str],[FC]⟩
abbrev Jg:=157
abbrev FW:Bs:=⟨[],[.own .str]⟩
abbrev Ka:=158
abbrev Hz:Bs:=⟨[.dat (.u 0),B5],[FC]⟩
abbrev Px:=159
abbrev Mu:Bs:=⟨[.dat .str],[FC]⟩
abbrev Bq:=160
abbrev AU:Bs:=⟨[.dat (.sl (.u 0)),.fn [(.u 0)] [.bool]],[FC]⟩
abbrev DL:=161
abbrev Dd:Bs:=⟨[B5],[.own I6]⟩
abbrev ED:=162
abbrev DF:Bs:=⟨[B5],[]⟩
abbrev Dw:=163
abbrev CH:Bs:=⟨[B5,Bg],[AZ]⟩
abbrev IE:=164
abbrev GJ:Bs:=⟨[.dat (.u 3),Bg,.fn [(.u 3),I6] [.bool]],[FC]⟩
abbrev HB:=165
abbrev FG:Bs:=⟨[.dat (.u 3),Bg,B5,B5],[FC]⟩
abbrev LZ:=166
abbrev Jt:Bs:=⟨[.dat (.u 3)],[AZ]⟩
abbrev GQ:=167
abbrev F1:Bs:=⟨[.dat (.sl (.u 0)),.map .str I6,.dat (.u 3),Rj,.dat (.sl (.u 5))],[.dat (.u 5),AZ]⟩
abbrev J8:=168
abbrev Hn:Bs:=⟨[B5,Bg],[AZ]⟩
abbrev E2:=169
abbrev DI:Bs:=⟨[Bg],[AZ]⟩
abbrev C0:=173
abbrev DS:Bs:=⟨[.dat (.sl I6),Bg],[AZ]⟩
abbrev HV:=174
abbrev F8:Bs:=⟨[B5,Bg],[AZ]⟩
abbrev AI:=183
abbrev AE:Bs:=⟨[B5,Bg],[.dat (.u 13),FC]⟩
abbrev G4:=186
abbrev E6:Bs:=⟨[B5,Bg],[AZ]⟩
abbrev K7:=187
abbrev I7:Bs:=⟨[B5,.fn [.ptr] []],[AZ]⟩
abbrev Qh:=188
abbrev LR:Bs:=⟨[B5,.fbx [.ptr] [I6],B5],[]⟩
abbrev Dx:=189
abbrev CO:Bs:=⟨[B5,Bg],[FC]⟩
abbrev Fq:=190
abbrev Eb:Bs:=⟨[B5,Bg,Bg,Bg],[AZ,AZ]⟩
abbrev QY:=196
abbrev Nk:Bs:=⟨[Bg,Bg,Bg],[AZ,AZ,AZ,FC,AZ,FC]⟩
abbrev FL:=197
abbrev E1:Bs:=⟨[B5,Bg,Bg,Bg,Bg],[AZ,FC]⟩
abbrev IJ:=198
abbrev GN:Bs:=⟨[B5,.dat (.sl I6)],[AZ]⟩
abbrev Cv:=199
abbrev BW:Bs:=⟨[B5,Bg,Bg],[AZ,AZ]⟩
abbrev FJ:=200
abbrev E0:Bs:=⟨[B5,Bg,Bg,Bg,Bg,Bg],[]⟩
abbrev QX:=203
abbrev Nj:Bs:=⟨[.dat .str,.fn [(.int .u8)] [.bool]],[AZ]⟩
abbrev J7:=204
abbrev Hm:Bs:=⟨[.dat (.int .u8)],[FC]⟩
abbrev Dj:=205
abbrev Cp:Bs:=⟨[.dat (.sl .str),.dat .str],[FC]⟩
abbrev Ck:=206
abbrev Bx:Bs:=⟨[.dat (.sl (.u 0)),.fn [(.u 0)] [.bool]],[AZ]⟩
abbrev CB:=207
abbrev Cb:Bs:=⟨[B5],[AZ]⟩
abbrev HQ:=208
abbrev F4:Bs:=⟨[B5,Bg,Bg],[.dat (.sl (.u 16))]⟩
abbrev Hh:=209
abbrev EV:Bs:=⟨[B5,Bg,.dat (.sl (.u 16))],[AZ]⟩
abbrev HT:=210
abbrev F6:Bs:=⟨[B5],[AZ]⟩
abbrev IG:=211
abbrev Gg:Bs:=⟨[B5],[AZ]⟩
abbrev Hg:=212
abbrev EU:Bs:=⟨[B5,Bg],[]⟩
abbrev Ed:=213
abbrev Dt:Bs:=⟨[B5,Bg,Bg],[AZ]⟩
abbrev C7:=214
abbrev BZ:Bs:=⟨[B5,Bg,Bg,Bg],[AZ]⟩
abbrev Bt:=215
abbrev Bm:Bs:=⟨[B5,Bg],[]⟩
abbrev BH:=216
abbrev B8:Bs:=⟨[B5,.dat (.u 13)],[AZ]⟩
abbrev Dv:=217
abbrev CM:Bs:=⟨[B5,Bg,Bg,Bg],[AZ]⟩
abbrev Bu:=218
abbrev Bn:Bs:=⟨[B5,Bg],[]⟩
abbrev Kz:=219
abbrev Iw:Bs:=⟨[Bg],[AZ,AZ]⟩
abbrev Cj:=220
abbrev BR:Bs:=⟨[Bg,Bg],[.dat (.u 5),AZ]⟩
abbrev G2:=221
abbrev Fg:Bs:=⟨[.dat (.sl (.u 5))],[.dat (.u 5),AZ]⟩
abbrev Jm:=222
abbrev GK:Bs:=⟨[Bg,.dat (.u 5),.dat (.u 5)],[.dat (.u 5),AZ]⟩
abbrev HU:=223
abbrev F7:Bs:=⟨[B5,Bg],[AZ]⟩
abbrev G3:=226
abbrev Fh:Bs:=⟨[B5,Bg],[FC]⟩
abbrev Sr:=227
abbrev I5:Bs:=⟨[B5,.fn [.ptr] []],[.dat (.u 15),FC]⟩
abbrev Kb:=228
abbrev HA:Bs:=⟨[B5,.dat (.u 1)],[]⟩
abbrev Jo:=229
abbrev GM:Bs:=⟨[B5],[AZ]⟩
abbrev EY:=230
abbrev DJ:Bs:=⟨[B5,Bg,Bg],[FC]⟩
abbrev DG:=232
abbrev CY:Bs:=⟨[B5,Bg,Bg],[AZ,FC]⟩
abbrev Gl:=233
abbrev E7:Bs:=⟨[B5,Bg,Bg,Bg],[AZ,AZ]⟩
abbrev Bi:=235
abbrev AW:Bs:=⟨[.fn [I6] [.bool],.del .mref],[]⟩
abbrev FI:=249
abbrev DH:Bs:=⟨[.dat (.sl .str),.dat .str],[AZ]⟩
abbrev Fp:=251
abbrev Ea:Bs:=⟨[B5,Bg],[AZ]⟩
abbrev EZ:=253
abbrev DK:Bs:=⟨[B5,Bg,Bg],[AZ,AZ]⟩
abbrev MF:=254
abbrev Jj:Bs:=⟨[B5],[AZ]⟩
abbrev NA:=255
abbrev JW:Bs:=⟨[B5],[AZ]⟩
abbrev OK:=256
abbrev K4:=257
abbrev Iz:Bs:=⟨[.dat (.sl I6),.dat (.sl I6)],[.own I6,AZ]⟩
abbrev OH:=258
abbrev L1:Bs:=⟨[.dat (.sl I6)],[.own I6]⟩
abbrev Jn:=259
abbrev GL:Bs:=⟨[B5,.dat (.u 13)],[AZ,AZ]⟩
abbrev HO:=266
abbrev F3:Bs:=⟨[.fn [(.u 13)] [.bool],.del .ptr],[]⟩
abbrev Hf:=268
abbrev ET:Bs:=⟨[.fn [(.u 17),I6] [.bool],.del .ptr],[]⟩
abbrev K5:=274
abbrev I1:Bs:=⟨[.dat (.sl I6)],[FC]⟩
abbrev K3:=275
abbrev Iy:Bs:=⟨[.dat (.sl I6)],[.own I6]⟩
abbrev EJ:=276
abbrev D6:Bs:=⟨[.own I6],[]⟩
abbrev IF:=278
abbrev Gf:Bs:=⟨[.fn [I6] [.bool],.del .ptr],[]⟩
abbrev CV:Nat:=0
abbrev BO:Nat:=1
abbrev CF:Nat:=2
abbrev AA:Nat:=3
abbrev BU:Nat:=4
abbrev CR:Nat:=6
abbrev BC:Nat:=7
abbrev Ch:Nat:=8
abbrev O9:Nat:=9
abbrev Al:Nat:=15
abbrev GP:Nat:=23
abbrev Aq:Nat:=35
abbrev Ei:Nat:=44
abbrev Di:Nat:=46
abbrev AQ:Nat:=48
def sgL:List (FuncId×Bs):=[(5,DR),(8,En),(10,Bk),(11,Dq),(15,BN),(17,AP),(19,D9),(20,Ho),(21,Jz),(22,Fy),(23,BD),(24,Cq),(25,CN),(27,JM),(28,Mt),(29,CC),(30,J0),(32,C8),(33,Ov),(34,E5),(35,Dn),(36,DA),(37,R6),(38,DE),(39,Jw),(40,FP),(41,Ix),(42,KL),(43,Fj),(46,Dp),(50,D7),(51,BE),(52,Jx),(53,E8),(54,AJ),(56,CQ),(59,BF),(60,Cr),(63,BJ),(64,DB),(65,BM),(66,Fx),(67,Du),(68,Gh),(69,EW),(70,E9),(71,Gv),(72,EP),(73,KK),(74,Ms),(76,R3),(77,R2),(79,Gt),(80,L2),(81,Q8),(82,Fz),(83,BQ),(84,Jr),(85,Ni),(86,Js),(87,I8),(88,FO),(89,Ee),(90,Jv),(91,EG),(92,Ju),(96,Ef),(98,R7),(109,Dm),(110,DW),(119,F5),(120,ES),(122,CP),(123,Ec),(124,Bv),(125,JN),(127,DX),(128,Am),(131,EH),(132,Gu),(133,Fk),(134,B9),(135,F9),(136,CZ),(138,Ca),(139,AO),(140,L0),(141,R5),(142,Fi),(143,Jy),(144,Nl),(145,CD),(146,Nh),(147,EI),(148,Cy),(149,LQ),(150,Q7),(151,Ng),(152,I4),(155,ER),(156,Em),(157,FW),(158,Hz),(159,Mu),(160,AU),(161,Dd),(162,DF),(163,CH),(164,GJ),(165,FG),(166,Jt),(167,F1),(168,Hn),(169,DI),(173,DS),(174,F8),(183,AE),(186,E6),(187,I7),(188,LR),(189,CO),(190,Eb),(196,Nk),(197,E1),(198,GN),(199,BW),(200,E0),(203,Nj),(204,Hm),(205,Cp),(206,Bx),(207,Cb),(208,F4),(209,EV),(210,F6),(211,Gg),(212,EU),(213,Dt),(214,BZ),(215,Bm),(216,B8),(217,CM),(218,Bn),(219,Iw),(220,BR),(221,Fg),(222,GK),(223,F7),(226,Fh),(227,I5),(228,HA),(229,GM),(230,DJ),(232,CY),(233,E7),(235,AW),(249,DH),(251,Ea),(253,DK),(254,Jj),(255,JW),(257,Iz),(258,L1),(259,GL),(266,F3),(268,ET),(274,I1),(275,Iy),(276,D6),(278,Gf)]
def lkG:List (FuncId×Bs)->FuncId->Option Bs
 | [],_=>none
 |p::l,i=>if p.1=i then some p.2 else lkG l i
def sg:FuncId->Option Bs:=lkG sgL
def A3j:List (TypeId×(List Ty×List Ty)):=[(1,[],[]),(68,[.ptr,(.sl I6)],[I6,I6]),(111,[I6,I6],[.bool]),(120,[.ptr,I6,I6],[I6,I6]),(133,[],[(.sl I6)]),(150,[I6],[.bool]),(174,[.ptr],[I6]),(181,[I6,I6,I6],[]),(185,[(.u 4),I6],[(.sl I6)]),(187,[.ptr,I6,I6],[I6]),(191,[.ptr],[]),(206,[(.int .u8)],[.bool]),(210,[(.u 0)],[.bool]),(213,[(.u 3),I6],[.bool]),(287,[I6],[I6]),(316,[(.u 13)],[.bool]),(318,[(.u 17),I6],[.bool]),(323,[(.u 17),(.u 17)],[I6])]
def lkT:List (TypeId×(List Ty×List Ty))->TypeId->Option (List Ty×List Ty)
 | [],_=>none
 |p::l,i=>if p.1=i then some p.2 else lkT l i
def QT:TypeId->Option (List Ty×List Ty):=lkT A3j
end Go.Proofs.YtcbkbpjlbmalmaaGreatDoor
namespace Go.Proofs.YtcbkbpjlbmalmaaGreatDoor
open Go Go.X Go.Y Go.RowKit Go.ChangeShapes Go.WideShapes Go.ChangeAt Go.Deep
section
def WD(w:World):BY:=λb=>b<w.heap.size
theorem WD.st(w:World):St (WD w) w []:=⟨λ_ h=>h,λ_ h=>by simp at h,List.nodup_nil⟩
theorem Axo{I':BY}{w w':World}(h:Ext (WD w) w I' w'):Below w.heap.size w w':=⟨h.os,h.tape,h.output,h.size,λk hk=>h.BA k hk⟩
theorem Aim{w:World}{base:Nat}{a:Addr}{n:Nat}{v:Value}(ha:a.spot=none)(h:w.cells? base a n=some v.cells.toList):Dl w a v:=by
 obtain⟨_,hn,h1⟩:=World.cells?_some h;refine⟨ha,λj hj=>?_⟩;have h2:=h1 j (by rw[<-hn];simpa using hj);rw[Array.getElem?_toList]at h2;rw[<-h2];obtain⟨b,o,s⟩:=a;obtain rfl:s=none:=ha;by_cases hj0:j=0
 .subst hj0;rfl
 .simp [Addr.add,hj0]
theorem Aoc{α:Type}{n:Nat}{p:Nat->α->Prop}(h:∀i,i<n->∃x,p i x):∃xs:List α,xs.length=n/\∀i(hi:i<xs.length),p i xs[i]:=by
 induction n with
 |zero=>exact⟨[],rfl,λi hi=>by simp at hi⟩
 |succ n ih=>
  obtain⟨xs,hl,hp⟩:=ih (λi hi=>h i (by omega));obtain⟨x,hx⟩:=h n (by omega);refine⟨xs++[x],by simp [hl],λi hi=>?_⟩;by_cases hk:i<xs.length
  .rw[List.getElem_append_left hk];exact hp i hk
  .have:i=n:=by simp at hi;omega
   subst this;rw[List.getElem_append_right (by omega)];simpa [hl] using hx
set_option maxRecDepth 100000
noncomputable abbrev WJ:US:=Y0.toUS
def RdF(n:Nat)(t:TypeId)(T:Ty):Prop:=∀{H:Type}{enc:TypeId×Value->H}{w:World}{base:Nat}{sp:Nat->Bool}{held:Bool}{cs:List Value}{x:DataW H×List MemPlace},DataW.trod enc Tryz.prog w base sp held n t cs=some x->∃v,∃y:den WJ.D T,cs=v.cells.toList/\rp WJ T (WD w) w v y
theorem QB{n:Nat}{t:TypeId}(ht:Tryz.prog.underlying t=some (.int .i64)):RdF n t I6:=λh=>by obtain⟨m,rfl,_,hw⟩:=DataW.trod_int ht h;refine⟨_,m,rfl,AX.2 ⟨rfl,?_⟩⟩;simp [Lit.wf,IntKind.min,IntKind.max,IntKind.signed,IntKind.bits]at hw;exact AG.2 (by omega)
theorem Ap9{n:Nat}{t:TypeId}(ht:Tryz.prog.underlying t=some .bool):RdF n t .bool:=λh=>by obtain⟨m,rfl,_⟩:=DataW.trod_bool ht h;exact⟨_,m,rfl,GO.2 rfl⟩
theorem Auo{n:Nat}{t:TypeId}(ht:Tryz.prog.underlying t=some .string):RdF n t .str:=λh=>by obtain⟨m,rfl,_,hw⟩:=DataW.trod_string ht h;exact⟨_,m,rfl,LU.2 ⟨rfl,by simp only[maxLen]at hw;unfold NS;omega⟩⟩
theorem Aa7{n:Nat}{t e:TypeId}{T:Ty}(ht:Tryz.prog.underlying t=some (.slice e))(hc:Tryz.prog.cellsOf e=sz WJ T)(he:∀m,m<n->RdF m e T){H:Type}{enc:TypeId×Value->H}{w:World}{base:Nat}{sp:Nat->Bool}{held:Bool}{cs:List Value}{x:DataW H×List MemPlace}(h:DataW.trod enc Tryz.prog w base sp held n t cs=some x):∃v,∃y:List (den WJ.D T),cs=v.cells.toList/\rp WJ (.sl T) (WD w) w v y/\(y=[]∨∃es rs,x.1=.slice es rs/\es.length=y.length):=by
 rcases DataW.trod_slice ht h with ⟨rfl,_⟩|⟨a,len,cap,elems,rest,m,rfl,rfl,rfl,hb,hl,hm,hlen,hel,_,_⟩
 .exact⟨.slice none 0 0,[],rfl,R8.2 ⟨none,0,rfl,Nat.le_refl _,by decide,.inl rfl⟩,.inl rfl⟩
 .have key:∀i,i<len->∃y:den WJ.D T,(a.add (i*sz WJ T)).spot=none/\a.block<w.heap.size/\∃v,rp WJ T (WD w) w v y/\Dl w ⟨a.block,a.off+i*sz WJ T,none⟩ v:=by
   intro i hi;have hh:=hel i hi;rw[List.getElem?_eq_getElem (by omega)]at hh;obtain⟨cs',h1,h2⟩:=Option.bind_eq_some_iff.1 hh;obtain⟨v,y,rfl,r⟩:=he m (Nat.lt_succ_self _) h2;rw[hc]at h1;obtain⟨hbb,hn,h3⟩:=World.cells?_some h1;have hp:=Ak2 (S:=WJ) T;obtain⟨c0,h4⟩:∃c0,v.cells.toList[0]?=some c0:=⟨_,List.getElem?_eq_getElem (by omega)⟩
   have h5:=(h3 0 hp).trans h4;have h6:(a.add (i*sz WJ T)).spot=none:=by have:=World.cell?_spot h5;simpa [Addr.add] using this
   have hblk:a.block<w.heap.size:=by have:=World.cells?_block h1 hp;unfold Addr.add at this;split at this<;>exact this
   have h7:(⟨a.block,a.off+i*sz WJ T,none⟩:Addr)=a.add (i*sz WJ T):=by
    obtain⟨b,o,s⟩:=a;by_cases hz:i*sz WJ T=0
    .rw[hz]at h6 ⊢;simp [Addr.add]at h6 ⊢;exact h6.symm
    .simp [Addr.add,hz]
   exact⟨y,h6,hblk,v,r,h7▸Aim h6 h1⟩
  obtain⟨xs,hn,hp⟩:=Aoc key;refine⟨.slice (some a) len cap,xs,rfl,R8.2 ⟨some a,cap,by rw[hn],by omega,by simp only[maxLen]at hm;unfold NS;omega,?_⟩,.inr ⟨_,_,rfl,by rw[List.length_map,hlen,hn]⟩⟩;by_cases h0:xs=[]
  .exact .inl h0
  .have hl0:0<xs.length:=List.length_pos_iff.2 h0;obtain⟨hs,hk,_⟩:=hp 0 hl0;refine .inr ⟨a.block,a.off,?_,hk,λj hj=>(hp j hj).2.2⟩;rw[Nat.zero_mul]at hs;obtain⟨b,o,s⟩:=a;exact congrArg some (by rw[show s=none from hs])
theorem YW{n:Nat}{t e:TypeId}{T:Ty}(ht:Tryz.prog.underlying t=some (.slice e))(hc:Tryz.prog.cellsOf e=sz WJ T)(he:∀m,m<n->RdF m e T):RdF n t (.sl T):=λh=>by obtain⟨v,y,h1,h2,_⟩:=Aa7 ht hc he h;exact⟨v,y,h1,h2⟩
theorem Ai8{α:Type}{l:List α}(h:l.length=4):∃a b c d,l=[a,b,c,d]:=by
 match l,h with
 | [a,b,c,d],_=>exact⟨a,b,c,d,rfl⟩
theorem Av4{α:Type}{l:List α}(h:l.length=3):∃a b c,l=[a,b,c]:=by
 match l,h with
 | [a,b,c],_=>exact⟨a,b,c,rfl⟩
section
variable {H:Type} {enc:TypeId×Value->H} {w:World} {base:Nat} {sp:Nat->Bool} {held:Bool} {n:Nat} {t:TypeId} {fs:Array Field} {cs:List Value} {x:DataW H×List MemPlace} {t0 t1 t2 t3:TypeId}
theorem Aiw(ht:Tryz.prog.underlying t=some (.struct fs))(hc:Tryz.prog.cellsOf t=4)(hs:fs.toList.map (λf=>(f.offset,f.type))=[(0,t0),(1,t1),(2,t2),(3,t3)])(c0:Tryz.prog.cellsOf t0=1)(c1:Tryz.prog.cellsOf t1=1)(c2:Tryz.prog.cellsOf t2=1)(c3:Tryz.prog.cellsOf t3=1)(h:DataW.trod enc Tryz.prog w base sp held n t cs=some x):∃m a b c d x0 x1 x2 x3,n=m+1/\cs=[a,b,c,d]/\x.1=.agg [x0.1,x1.1,x2.1,x3.1]/\DataW.trod enc Tryz.prog w base sp held m t0 [a]=some x0/\DataW.trod enc Tryz.prog w base sp held m t1 [b]=some x1/\DataW.trod enc Tryz.prog w base sp held m t2 [c]=some x2/\DataW.trod enc Tryz.prog w base sp held m t3 [d]=some x3:=by obtain⟨xs,m,rfl,rfl,hl,hx,key⟩:=DataW.trod_struct ht h;obtain⟨l⟩:=fs;obtain⟨f0,f1,f2,f3,rfl⟩:=Ai8 (show l.length=4 by simpa using congrArg List.length hs);simp only[List.map_cons,List.map_nil,List.cons.injEq,Prod.mk.injEq,and_true]at hs;obtain⟨⟨o0,rfl⟩,⟨o1,rfl⟩,⟨o2,rfl⟩,⟨o3,rfl⟩⟩:=hs;rw[hc]at hl;obtain⟨x0,x1,x2,x3,rfl⟩:=Ai8 (show xs.length=4 from hx);obtain⟨a,b,c,d,rfl⟩:=Ai8 hl;have k0:=key 0 f0 rfl;have k1:=key 1 f1 rfl;have k2:=key 2 f2 rfl;have k3:=key 3 f3 rfl;rw[o0,c0]at k0;rw[o1,c1]at k1;rw[o2,c2]at k2;rw[o3,c3]at k3;exact⟨m,a,b,c,d,x0,x1,x2,x3,rfl,rfl,rfl,k0,k1,k2,k3⟩
theorem XS(ht:Tryz.prog.underlying t=some (.struct fs))(hc:Tryz.prog.cellsOf t=3)(hs:fs.toList.map (λf=>(f.offset,f.type))=[(0,t0),(1,t1),(2,t2)])(c0:Tryz.prog.cellsOf t0=1)(c1:Tryz.prog.cellsOf t1=1)(c2:Tryz.prog.cellsOf t2=1)(h:DataW.trod enc Tryz.prog w base sp held n t cs=some x):∃m a b c x0 x1 x2,n=m+1/\cs=[a,b,c]/\x.1=.agg [x0.1,x1.1,x2.1]/\DataW.trod enc Tryz.prog w base sp held m t0 [a]=some x0/\DataW.trod enc Tryz.prog w base sp held m t1 [b]=some x1/\DataW.trod enc Tryz.prog w base sp held m t2 [c]=some x2:=by obtain⟨xs,m,rfl,rfl,hl,hx,key⟩:=DataW.trod_struct ht h;obtain⟨l⟩:=fs;obtain⟨f0,f1,f2,rfl⟩:=Av4 (show l.length=3 by simpa using congrArg List.length hs);simp only[List.map_cons,List.map_nil,List.cons.injEq,Prod.mk.injEq,and_true]at hs;obtain⟨⟨o0,rfl⟩,⟨o1,rfl⟩,⟨o2,rfl⟩⟩:=hs;rw[hc]at hl;obtain⟨x0,x1,x2,rfl⟩:=Av4 (show xs.length=3 from hx);obtain⟨a,b,c,rfl⟩:=Av4 hl;have k0:=key 0 f0 rfl;have k1:=key 1 f1 rfl;have k2:=key 2 f2 rfl;rw[o0,c0]at k0;rw[o1,c1]at k1;rw[o2,c2]at k2;exact⟨m,a,b,c,x0,x1,x2,rfl,rfl,rfl,k0,k1,k2⟩
end
theorem one_cell{T:Ty}(hT:T.leaf=true){I:BY}{w:World}{a v:Value}{y:den WJ.D T}(h:[a]=v.cells.toList)(r:rp WJ T I w v y):rp WJ T I w a y:=by have:=(J1 hT r).1;rw[this]at h;have h:[a]=[v]:=h;cases h;exact r
theorem Aup{n:Nat}:RdF n 53 (.u 0):=λh=>by obtain⟨m,a,b,c,d,x0,x1,x2,x3,rfl,rfl,_,h0,h1,h2,h3⟩:=Aiw Tryz.underlying53 (by kernel_rfl) rfl (by kernel_rfl) (by kernel_rfl) (by kernel_rfl) (by kernel_rfl) h;obtain⟨v0,y0,e0,r0⟩:=Auo Tryz.underlying9 h0;obtain⟨v1,y1,e1,r1⟩:=Ap9 Tryz.underlying4 h1;obtain⟨v2,y2,e2,r2⟩:=QB Tryz.underlying3 h2;obtain⟨v3,y3,e3,r3⟩:=QB Tryz.underlying3 h3;exact⟨.agg ⟨[a,b,c,d]⟩,(⟨y0,y1,y2,y3⟩:A7),rfl,Hq.2 ⟨[a,b,c,d],rfl,F2.cons (one_cell rfl e0 r0) (F2.cons (one_cell rfl e1 r1) (F2.cons (one_cell rfl e2 r2) (F2.cons (one_cell rfl e3 r3) F2.nil)))⟩⟩
theorem Alj{n:Nat}:RdF n 87 (.u 1):=λh=>by obtain⟨m,a,b,c,x0,x1,x2,rfl,rfl,_,h0,h1,h2⟩:=XS Tryz.underlying87 (by kernel_rfl) rfl (by kernel_rfl) (by kernel_rfl) (by kernel_rfl) h;obtain⟨v0,y0,e0,r0⟩:=QB Tryz.underlying3 h0;obtain⟨v1,y1,e1,r1⟩:=QB Tryz.underlying3 h1;obtain⟨v2,y2,e2,r2⟩:=QB Tryz.underlying3 h2;exact⟨.agg ⟨[a,b,c]⟩,(⟨y0,y1,y2⟩:Bz),rfl,Hq.2 ⟨[a,b,c],rfl,F2.cons (one_cell rfl e0 r0) (F2.cons (one_cell rfl e1 r1) (F2.cons (one_cell rfl e2 r2) F2.nil))⟩⟩
theorem Auq{n:Nat}{H:Type}{enc:TypeId×Value->H}{w:World}{base:Nat}{sp:Nat->Bool}{held:Bool}{v:Value}{x:DataW H×List MemPlace}(hv:∃cs,v=.agg cs)(h:DataW.trod enc Tryz.prog w base sp held n 26 v.cells.toList=some x):∃y:AS,rp WJ (.u 2) (WD w) w v y/\(y.Ab=[]∨∃es rs ds,x.1=.agg (.slice es rs::ds)/\es.length=y.Ab.length):=by
 obtain⟨⟨l⟩,rfl⟩:=hv;obtain⟨m,a,b,c,x0,x1,x2,rfl,e,hx,h0,h1,h2⟩:=XS Tryz.underlying26 (by kernel_rfl) rfl (by kernel_rfl) (by kernel_rfl) (by kernel_rfl) h;have e:l=[a,b,c]:=e;subst e;obtain⟨v0,y0,e0,r0,hl⟩:=Aa7 Tryz.underlying22 (by kernel_rfl) (λk _=>Aup) h0;obtain⟨v1,y1,e1,r1⟩:=YW Tryz.underlying23 (by kernel_rfl) (λk _=>QB Tryz.underlying3) h1;obtain⟨v2,y2,e2,r2⟩:=YW Tryz.underlying24 (by kernel_rfl) (λk _=>Alj) h2;refine⟨(⟨y0,y1,y2⟩:AS),Hq.2 ⟨[a,b,c],rfl,F2.cons (one_cell rfl e0 r0) (F2.cons (one_cell rfl e1 r1) (F2.cons (one_cell rfl e2 r2) F2.nil))⟩,?_⟩;rcases hl with hl|⟨es,rs,hs,hn⟩
 .exact .inl hl
 .exact .inr ⟨es,rs,[x1.1,x2.1],by rw[hx,hs],hn⟩
theorem b53:Tryz.prog.bytesOf 53=40:=by kernel_rfl
theorem Asb{H:Type}{ds:List (DataW H)}{es rs dr:List (DataW H)}{ts:List TypeId}(h:(DataW.weightsEach Tryz.prog (26::ts) (.agg (.slice es rs::dr)::ds)).all (·<=reachBytes)=true):es.length<=1000000000000000:=by
 have h1:=List.all_eq_true.1 h ((es.length+rs.length)*40) (by unfold DataW.weightsEach;refine List.mem_append_left _ ?_;unfold DataW.weights;rw[Tryz.underlying26];simp only[List.map_cons,List.map_nil];unfold DataW.weightsEach;refine List.mem_append_left _ ?_;unfold DataW.weights;rw[Tryz.underlying22];simp only[b53];exact List.mem_cons_self)
 have h2:(es.length+rs.length)*40<=reachBytes:=by simpa using h1
 unfold reachBytes at h2;omega
end
end Go.Proofs.YtcbkbpjlbmalmaaGreatDoor
namespace Go.Proofs.YtcbkbpjlbmalmaaGreatDoor
open Go Go.X Go.Y
theorem mpP{p q:Prop}(e:p=q)(h:p):q:=Eq.mp e h
theorem wF(F:Func)(n:An Y0){q:FuncId}{σ:Bs}{a:IS Y0 σ.args}{H:HY}{Q:Lq Y0 σ.res->Nz Y0 σ.args->HP}{X:PX}{p:Prop}(h:p)(hf:Y0.P.funcs[q]?=some F:=by kernel_rfl)(e:p=fnX sg QT pfT F σ n a H Q X:=by kernel_rfl):Wp Y0 q σ a H Q X:=UK hf (mpP e h)
theorem wFS(F:Func)(n:An Y0){q:FuncId}{σ:Bs}{a:IS Y0 σ.args}{H:HY}{Q:Lq Y0 σ.res->Nz Y0 σ.args->HP}{X:PX}{p:Prop}(h:p)(hf:Y0.P.funcs[q]?=some F:=by kernel_rfl)(e:p=fnS sg QT pfT F σ n a H Q X:=by kernel_rfl):Wp Y0 q σ a H Q X:=Ah3 hf (mpP e h)
noncomputable def Da:TG Y0 62:=Sd {N:=0,NY:=QT,sigs:=sg,pf:=pfT,X:=λ_ _ _=>False,lp:=[],jn:=[],pr:=[],im:=[1]} 62 Tryz.f62 (by kernel_rfl) (by kernel_rfl)
noncomputable def OC:TG Y0 153:=Sd {N:=0,NY:=QT,sigs:=sg,pf:=pfT,X:=λ_ _ _=>False,lp:=[],jn:=[],pr:=[(3,7)],im:=[]} 153 Tryz.f153 (by kernel_rfl) (by kernel_rfl)
noncomputable def CI:TG Y0 192:=Sd {N:=0,NY:=QT,sigs:=sg,pf:=pfT,X:=λ_ _ _=>False,lp:=[],jn:=[],pr:=[],im:=[1]} 192 Tryz.f192 (by kernel_rfl) (by kernel_rfl)
noncomputable def DU:TG Y0 193:=Awh {N:=0,NY:=QT,sigs:=sg,pf:=pfT,X:=λ_ _ _=>False,lp:=[],jn:=[],pr:=[(2,15)],im:=[],tk:=[12],tw:=[12]} 193 Tryz.f193 (by kernel_rfl) (by kernel_rfl)
noncomputable def HJ:TG Y0 247:=Sd {N:=0,NY:=QT,sigs:=sg,pf:=pfT,X:=λ_ _ _=>False,lp:=[(3,⟨[(5,.one (.dat (.int .u64))),(13,.nat)],[0,12],true⟩)],jn:=[],pr:=[],im:=[3]} 247 Tryz.f247 (by kernel_rfl) (by kernel_rfl)
noncomputable def IB:TG Y0 250:=Sd {N:=0,NY:=QT,sigs:=sg,pf:=pfT,X:=λ_ _ _=>False,lp:=[],jn:=[],pr:=[],im:=[1]} 250 Tryz.f250 (by kernel_rfl) (by kernel_rfl)
noncomputable def HI:TG Y0 252:=Sd {N:=0,NY:=QT,sigs:=sg,pf:=pfT,X:=λ_ _ _=>False,lp:=[],jn:=[],pr:=[],im:=[1]} 252 Tryz.f252 (by kernel_rfl) (by kernel_rfl)
noncomputable def Jl:TG Y0 267:=Sd {N:=0,NY:=QT,sigs:=sg,pf:=pfT,X:=λ_ _ _=>False,lp:=[],jn:=[],pr:=[],im:=[1]} 267 Tryz.f267 (by kernel_rfl) (by kernel_rfl)
noncomputable def A3b:(q:FuncId)->Option (TG Y0 q)
 |62=>some Da
 |153=>some OC
 |192=>some CI
 |193=>some DU
 |247=>some HJ
 |250=>some IB
 |252=>some HI
 |267=>some Jl
 |_=>none
noncomputable def Jf:TG Y0 137:=Sd {N:=0,NY:=QT,sigs:=sg,pf:=pfT,X:=λ_ _ _=>False,lp:=[],jn:=[],pr:=[],im:=[],il:=A3b} 137 Tryz.f137 (by kernel_rfl) (by kernel_rfl)
noncomputable def A3a:(q:FuncId)->Option (TG Y0 q)
 |62=>some Da
 |137=>some Jf
 |153=>some OC
 |192=>some CI
 |193=>some DU
 |247=>some HJ
 |250=>some IB
 |252=>some HI
 |267=>some Jl
 |_=>none
noncomputable def OD:TG Y0 61:=Sd {N:=0,NY:=QT,sigs:=sg,pf:=pfT,X:=λ_ _ _=>False,lp:=[],jn:=[],pr:=[],im:=[],il:=A3a} 61 Tryz.f61 (by kernel_rfl) (by kernel_rfl)
noncomputable def ilT:(q:FuncId)->Option (TG Y0 q)
 |61=>some OD
 |62=>some Da
 |137=>some Jf
 |153=>some OC
 |192=>some CI
 |193=>some DU
 |247=>some HJ
 |250=>some IB
 |252=>some HI
 |267=>some Jl
 |_=>none
end Go.Proofs.YtcbkbpjlbmalmaaGreatDoor
namespace Go.Proofs.YtcbkbpjlbmalmaaGreatDoor
open Go Go.Shelf
def YN:Go.Shelf.Ren:=⟨fun|6=>269|15=>195|14=>279|28=>245|29=>246|20=>281|21=>282|22=>283|23=>284|24=>285|25=>286|26=>287|27=>288|46=>289|47=>261|48=>262|49=>290|50=>291|57=>292|n=>n,fun|22=>305|24=>288|25=>323|3=>3|39=>237|0=>0|53=>285|55=>183|4=>4|46=>279|45=>278|50=>47|5=>5|9=>9|66=>310|70=>314|76=>325|77=>82|n=>n,fun|n=>n⟩
theorem Aao:Go.Proofs.SlLaysF0.n6 Tryz.prog YN:={
 mixed:=by kernel_rfl,
 f6:=⟨Tryz.f269.name,by decide,Tryz.func269.trans (congrArg some (by kernel_rfl))⟩,
 f14:=⟨Tryz.f279.name,by decide,Tryz.func279.trans (congrArg some (by kernel_rfl))⟩,
 f15:=Tryz.func195.trans (congrArg some (by kernel_rfl)),
 f20:=⟨Tryz.f281.name,by decide,Tryz.func281.trans (congrArg some (by kernel_rfl))⟩,
 f21:=⟨Tryz.f282.name,by decide,Tryz.func282.trans (congrArg some (by kernel_rfl))⟩,
 f22:=⟨Tryz.f283.name,by decide,Tryz.func283.trans (congrArg some (by kernel_rfl))⟩,
 f23:=⟨Tryz.f284.name,by decide,Tryz.func284.trans (congrArg some (by kernel_rfl))⟩,
 f24:=⟨Tryz.f285.name,by decide,Tryz.func285.trans (congrArg some (by kernel_rfl))⟩,
 f25:=⟨Tryz.f286.name,by decide,Tryz.func286.trans (congrArg some (by kernel_rfl))⟩,
 f26:=⟨Tryz.f287.name,by decide,Tryz.func287.trans (congrArg some (by kernel_rfl))⟩,
 f27:=⟨Tryz.f288.name,by decide,Tryz.func288.trans (congrArg some (by kernel_rfl))⟩,
 f28:=Tryz.func245.trans (congrArg some (by kernel_rfl)),
 f29:=Tryz.func246.trans (congrArg some (by kernel_rfl)),
 f46:=⟨Tryz.f289.name,by decide,Tryz.func289.trans (congrArg some (by kernel_rfl))⟩,
 f47:=Tryz.func261.trans (congrArg some (by kernel_rfl)),
 f48:=Tryz.func262.trans (congrArg some (by kernel_rfl)),
 f49:=⟨Tryz.f290.name,by decide,Tryz.func290.trans (congrArg some (by kernel_rfl))⟩,
 f50:=⟨Tryz.f291.name,by decide,Tryz.func291.trans (congrArg some (by kernel_rfl))⟩,
 f57:=⟨Tryz.f292.name,by decide,Tryz.func292.trans (congrArg some (by kernel_rfl))⟩,
 t0:=Tryz.underlying0,
 a0:=Tryz.isAgg0,
 z0:=Tryz.sizeOf0,
 v0:=Tryz.zeroValue0,
 t3:=Tryz.underlying3,
 a3:=Tryz.isAgg3,
 z3:=Tryz.sizeOf3,
 v3:=Tryz.zeroValue3,
 t4:=Tryz.underlying4,
 a4:=Tryz.isAgg4,
 z4:=Tryz.sizeOf4,
 v4:=Tryz.zeroValue4,
 t5:=Tryz.underlying5,
 a5:=Tryz.isAgg5,
 z5:=Tryz.sizeOf5,
 v5:=Tryz.zeroValue5,
 t9:=Tryz.underlying9,
 a9:=Tryz.isAgg9,
 z9:=Tryz.sizeOf9,
 v9:=Tryz.zeroValue9,
 t22:=Tryz.underlying305,
 a22:=Tryz.isAgg305,
 z22:=Tryz.sizeOf305,
 v22:=Tryz.zeroValue305,
 t25:=Tryz.underlying323,
 a25:=Tryz.isAgg323,
 z25:=Tryz.sizeOf323,
 v25:=Tryz.zeroValue323,
 t39:=Tryz.underlying237,
 a39:=Tryz.isAgg237,
 z39:=Tryz.sizeOf237,
 v39:=Tryz.zeroValue237,
 t45:=Tryz.underlying278,
 a45:=Tryz.isAgg278,
 z45:=Tryz.sizeOf278,
 v45:=Tryz.zeroValue278,
 t46:=Tryz.underlying279,
 a46:=Tryz.isAgg279,
 z46:=Tryz.sizeOf279,
 v46:=Tryz.zeroValue279,
 t50:=Tryz.underlying47,
 a50:=Tryz.isAgg47,
 z50:=Tryz.sizeOf47,
 v50:=Tryz.zeroValue47,
 t53:=Tryz.underlying285,
 a53:=Tryz.isAgg285,
 z53:=Tryz.sizeOf285,
 v53:=Tryz.zeroValue285,
 t55:=Tryz.underlying183,
 a55:=Tryz.isAgg183,
 z55:=Tryz.sizeOf183,
 v55:=Tryz.zeroValue183,
 t66:=Tryz.underlying310,
 a66:=Tryz.isAgg310,
 z66:=Tryz.sizeOf310,
 v66:=Tryz.zeroValue310,
 t70:=Tryz.underlying314,
 a70:=Tryz.isAgg314,
 z70:=Tryz.sizeOf314,
 v70:=Tryz.zeroValue314,
 t76:=Tryz.underlying325,
 a76:=Tryz.isAgg325,
 z76:=Tryz.sizeOf325,
 v76:=Tryz.zeroValue325,
 t77:=Tryz.underlying82,
 a77:=Tryz.isAgg82,
 z77:=Tryz.sizeOf82,
 v77:=Tryz.zeroValue82}
end Go.Proofs.YtcbkbpjlbmalmaaGreatDoor
namespace Go.Proofs.YtcbkbpjlbmalmaaGreatDoor
open Go Go.X Go.Y
section
set_option maxRecDepth 100000
set_option maxHeartbeats 2000000
def MA(s:Option Nat)(f:Int)(H:HY)(Q:Bool×Unit->UU)(X:PX):=(s=none->Q (false,()) () H)/\(¬s=none->(f<0->Q (false,()) () H)/\(¬f<0->∃(b:Nat),s=some b/\(∃(x:Aa),H b=some (Ob.st AA x)/\({levels:=x.levels,Ba:=x.Ba,tables:=x.tables,counts:=x.counts,dead:=x.dead:Aa}=x/\Wp Y0 AI AE (x.Ba,Ax f,()) H (λ(b:Ap×Bool×Unit)_ G=>(Ax f=0->Q (true,()) () G)/\(¬Ax f=0->Q (b.2.1,()) () G)) X)/\{levels:=x.levels,Ba:=x.Ba,tables:=x.tables,counts:=x.counts,dead:=x.dead:Aa}=x/\Wp Y0 AI AE (x.Ba,Ax f,()) H (λ(b:Ap×Bool×Unit)_ G=>(Ax f=0->Q (true,()) () G)/\(¬Ax f=0->Q (b.2.1,()) () G)) X)/\∃(x:Aa),H b=some (Ob.st AA x)/\{levels:=x.levels,Ba:=x.Ba,tables:=x.tables,counts:=x.counts,dead:=x.dead:Aa}=x/\Wp Y0 AI AE (x.Ba,Ax f,()) H (λ(b:Ap×Bool×Unit)_ G=>(Ax f=0->Q (true,()) () G)/\(¬Ax f=0->Q (b.2.1,()) () G)) X))
theorem Ts s f H Q X(h_:MA s f H Q X):Wp Y0 Dx CO (s,f,()) H Q X:=wF Tryz.f189 {} h_
def MB(s:Option Nat)(f:Int)(H:HY)(Q:Int×Int×Int×Bool×Unit->UU)(X:PX):=(s=none->Q (-1,0,0,false,()) () H)/\(¬s=none->(f<0->Q (-1,0,0,false,()) () H)/\(¬f<0->∃(b:Nat),s=some b/\(∃(x:Aa),H b=some (Ob.st AA x)/\({levels:=x.levels,Ba:=x.Ba,tables:=x.tables,counts:=x.counts,dead:=x.dead:Aa}=x/\Wp Y0 AI AE (x.Ba,Ax f,()) H (λ(b:Ap×Bool×Unit)_ G=>(¬b.2.1=true->Q (-1,0,0,false,()) () G)/\(¬¬b.2.1=true->Q (b.1.Var,A8 b.1.Lo (Bc f),A8 b.1.Hi (Bc f),true,()) () G)) X)/\{levels:=x.levels,Ba:=x.Ba,tables:=x.tables,counts:=x.counts,dead:=x.dead:Aa}=x/\Wp Y0 AI AE (x.Ba,Ax f,()) H (λ(b:Ap×Bool×Unit)_ G=>(¬b.2.1=true->Q (-1,0,0,false,()) () G)/\(¬¬b.2.1=true->Q (b.1.Var,A8 b.1.Lo (Bc f),A8 b.1.Hi (Bc f),true,()) () G)) X)/\∃(x:Aa),H b=some (Ob.st AA x)/\{levels:=x.levels,Ba:=x.Ba,tables:=x.tables,counts:=x.counts,dead:=x.dead:Aa}=x/\Wp Y0 AI AE (x.Ba,Ax f,()) H (λ(b:Ap×Bool×Unit)_ G=>(¬b.2.1=true->Q (-1,0,0,false,()) () G)/\(¬¬b.2.1=true->Q (b.1.Var,A8 b.1.Lo (Bc f),A8 b.1.Hi (Bc f),true,()) () G)) X))
theorem Tt s f H Q X(h_:MB s f H Q X):Wp Y0 Dy CP (s,f,()) H Q X:=wF Tryz.f122 {} h_
def Kl(s:Option Nat)(f level:Int)(H:HY)(Q:Bool×Unit->UU)(X:PX):=∃(b:Nat),s=some b/\(∃(x:Aa),H b=some (Ob.st AA x)/\({levels:=x.levels,Ba:=x.Ba,tables:=x.tables,counts:=x.counts,dead:=x.dead:Aa}=x/\Wp Y0 AI AE (x.Ba,Ax f,()) H (λ(b:Ap×Bool×Unit)_ G=>(Ax f=0->Q (true,()) () G)/\(¬Ax f=0->(b.2.1=true->Wp Y0 B6 Bv (s,b.1.Var,()) G (λ(b:Int×Unit)_ G=>Q (decide (level<b.1),()) () G) X)/\(¬b.2.1=true->Q (false,()) () G))) X)/\{levels:=x.levels,Ba:=x.Ba,tables:=x.tables,counts:=x.counts,dead:=x.dead:Aa}=x/\Wp Y0 AI AE (x.Ba,Ax f,()) H (λ(b:Ap×Bool×Unit)_ G=>(Ax f=0->Q (true,()) () G)/\(¬Ax f=0->(b.2.1=true->Wp Y0 B6 Bv (s,b.1.Var,()) G (λ(b:Int×Unit)_ G=>Q (decide (level<b.1),()) () G) X)/\(¬b.2.1=true->Q (false,()) () G))) X)/\∃(x:Aa),H b=some (Ob.st AA x)/\{levels:=x.levels,Ba:=x.Ba,tables:=x.tables,counts:=x.counts,dead:=x.dead:Aa}=x/\Wp Y0 AI AE (x.Ba,Ax f,()) H (λ(b:Ap×Bool×Unit)_ G=>(Ax f=0->Q (true,()) () G)/\(¬Ax f=0->(b.2.1=true->Wp Y0 B6 Bv (s,b.1.Var,()) G (λ(b:Int×Unit)_ G=>Q (decide (level<b.1),()) () G) X)/\(¬b.2.1=true->Q (false,()) () G))) X
theorem PA s f level H Q X(h_:Kl s f level H Q X):Wp Y0 EY DJ (s,f,level,()) H Q X:=wF Tryz.f230 {} h_
def PG(s:Option Nat)(v:Int)(H:HY)(Q:Int×Unit->UU)(X:PX):=(s=none->Q (-1,()) () H)/\(¬s=none->∃(b:Nat),s=some b/\∃(x:Aa),H b=some (Ob.st AA x)/\{levels:=x.levels,Ba:=x.Ba,tables:=x.tables,counts:=x.counts,dead:=x.dead:Aa}=x/\Wp Y0 G4 E6 (x.levels,v,()) H (λ(b:Int×Unit)_ G=>Q (b.1,()) () G) X)
theorem PE s v H Q X(h_:PG s v H Q X):Wp Y0 B6 Bv (s,v,()) H Q X:=wF Tryz.f124 {} h_
def QJ(s:Option Nat)(H:HY)(Q:Int×Unit->UU)(X:PX):=(s=none->Q (0,()) () H)/\(¬s=none->∃(b:Nat),s=some b/\∃(x:Aa),H b=some (Ob.st AA x)/\∃(b:Nat),x.levels=some b/\{levels:=x.levels,Ba:=x.Ba,tables:=x.tables,counts:=x.counts,dead:=x.dead:Aa}=x/\∃(x:AF),H b=some (Ob.st CF x)/\(x.vars.length<=9223372036854775807->{vars:=x.vars,level:=x.level:AF}=x/\Q ((↑x.vars.length:Int),()) () H))
theorem QI s H Q X(h_:QJ s H Q X):Wp Y0 HS F5 (s,()) H Q X:=wF Tryz.f119 {} h_
def QM(s:Option Nat)(H:HY)(Q:Int×Unit->UU)(X:PX):=(s=none->Q (0,()) () H)/\(¬s=none->∃(b:Nat),s=some b/\∃(x:Aa),H b=some (Ob.st AA x)/\{levels:=x.levels,Ba:=x.Ba,tables:=x.tables,counts:=x.counts,dead:=x.dead:Aa}=x/\Wp Y0 MF Jj (x.Ba,()) H (λ(b:Int×Unit)_ G=>Q (b.1,()) () G) X)
theorem QL s H Q X(h_:QM s H Q X):Wp Y0 HT F6 (s,()) H Q X:=wF Tryz.f210 {} h_
def RP(s:Option Nat)(H:HY)(Q:Int×Unit->UU)(X:PX):=(s=none->Q (0,()) () H)/\(¬s=none->∃(b:Nat),s=some b/\∃(x:Aa),H b=some (Ob.st AA x)/\{levels:=x.levels,Ba:=x.Ba,tables:=x.tables,counts:=x.counts,dead:=x.dead:Aa}=x/\Wp Y0 NA JW (x.Ba,()) H (λ(b:Int×Unit)_ G=>Q (b.1,()) () G) X)
theorem RO s H Q X(h_:RP s H Q X):Wp Y0 IG Gg (s,()) H Q X:=wF Tryz.f211 {} h_
def Ko(s:Option Nat)(H:HY)(Q:List Int×Unit->UU)(X:PX):=(s=none->Q ([],()) () H)/\(¬s=none->∃(b:Nat),s=some b/\∃(x:Aa),H b=some (Ob.st AA x)/\∃(b:Nat),x.levels=some b/\{levels:=x.levels,Ba:=x.Ba,tables:=x.tables,counts:=x.counts,dead:=x.dead:Aa}=x/\∃(x:AF),H b=some (Ob.st CF x)/\(0+x.vars.length)*8<=140737488355328/\Q ([]++x.vars,()) () (Ac H b (Ob.st CF {vars:=x.vars,level:=x.level:AF})))
theorem PD s H Q X(h_:Ko s H Q X):Wp Y0 DL Dd (s,()) H Q X:=wF Tryz.f161 {} h_
def HD(s:Option Nat)(f:Int)(H:HY)(Q:Unit->UU)(X:PX):=(Ax f=0->Q () () H)/\(¬Ax f=0->∃(b:Nat),s=some b/\∃(x:Aa),H b=some (Ob.st AA x)/\(Ag .i64 (Ax f)->(Ag .i64 (Ax f)->(0:Int)<=Ax f)/\∃(h:(Ax f).toNat<x.counts.length),∃(h:(Ax f).toNat<x.counts.length),Ag .i64 x.counts[(Ax f).toNat]->Ag .i64 (x.counts[(Ax f).toNat]+1)/\(Ag .i64 (Ax f)->(Ag .i64 (Ax f)->(0:Int)<=Ax f)/\∃(h1:(Ax f).toNat<x.counts.length),(Ax f).toNat<x.counts.length/\(Ag .i64 (Ax f)->(Ag .i64 (Ax f)->(0:Int)<=Ax f)/\∃(h2:(Ax f).toNat<(x.counts.set (Ax f).toNat (x.counts[(Ax f).toNat]+1)).length),∃(h3:(Ax f).toNat<(x.counts.set (Ax f).toNat (x.counts[(Ax f).toNat]+1)).length),((1:Int)<(x.counts.set (Ax f).toNat (x.counts[(Ax f).toNat]+1))[(Ax f).toNat]->Q () () (Ac H b (Ob.st AA {x with counts:=x.counts.set (Ax f).toNat (x.counts[(Ax f).toNat]+1)})))/\(¬(1:Int)<(x.counts.set (Ax f).toNat (x.counts[(Ax f).toNat]+1))[(Ax f).toNat]->Ag .i64 x.dead->Ag .i64 (x.dead-1)/\Wp Y0 AI AE (x.Ba,Ax f,()) (Ac H b (Ob.st AA {x with counts:=x.counts.set (Ax f).toNat (x.counts[(Ax f).toNat]+1),dead:=x.dead-1})) (λ(b:Ap×Bool×Unit)_ G=>Wp Y0 Bt Bm (s,b.1.Lo,()) G (λ(b1 io:Unit)(G:HY)=>Wp Y0 Bt Bm (s,b.1.Hi,()) G (λ(b io:Unit)(G:HY)=>Q () () G) X) X) X)))))
theorem KU s f H Q X(h_:HD s f H Q X):Wp Y0 Bt Bm (s,f,()) H Q X:=wF Tryz.f215 {} h_
def HE(s:Option Nat)(f:Int)(H:HY)(Q:Unit->UU)(X:PX):=(Ax f=0->Q () () H)/\(¬Ax f=0->∃(b:Nat),s=some b/\∃(x:Aa),H b=some (Ob.st AA x)/\(Ag .i64 (Ax f)->(Ag .i64 (Ax f)->(0:Int)<=Ax f)/\∃(h:(Ax f).toNat<x.counts.length),∃(h:(Ax f).toNat<x.counts.length),Ag .i64 x.counts[(Ax f).toNat]->Ag .i64 (x.counts[(Ax f).toNat]-1)/\(Ag .i64 (Ax f)->(Ag .i64 (Ax f)->(0:Int)<=Ax f)/\∃(h1:(Ax f).toNat<x.counts.length),(Ax f).toNat<x.counts.length/\(Ag .i64 (Ax f)->(Ag .i64 (Ax f)->(0:Int)<=Ax f)/\∃(h2:(Ax f).toNat<(x.counts.set (Ax f).toNat (x.counts[(Ax f).toNat]-1)).length),∃(h3:(Ax f).toNat<(x.counts.set (Ax f).toNat (x.counts[(Ax f).toNat]-1)).length),((0:Int)<(x.counts.set (Ax f).toNat (x.counts[(Ax f).toNat]-1))[(Ax f).toNat]->Q () () (Ac H b (Ob.st AA {x with counts:=x.counts.set (Ax f).toNat (x.counts[(Ax f).toNat]-1)})))/\(¬(0:Int)<(x.counts.set (Ax f).toNat (x.counts[(Ax f).toNat]-1))[(Ax f).toNat]->Ag .i64 x.dead->Ag .i64 (x.dead+1)/\Wp Y0 AI AE (x.Ba,Ax f,()) (Ac H b (Ob.st AA {x with counts:=x.counts.set (Ax f).toNat (x.counts[(Ax f).toNat]-1),dead:=x.dead+1})) (λ(b:Ap×Bool×Unit)_ G=>Wp Y0 Bu Bn (s,b.1.Lo,()) G (λ(b1 io:Unit)(G:HY)=>Wp Y0 Bu Bn (s,b.1.Hi,()) G (λ(b io:Unit)(G:HY)=>Q () () G) X) X) X)))))
theorem KV s f H Q X(h_:HE s f H Q X):Wp Y0 Bu Bn (s,f,()) H Q X:=wF Tryz.f218 {} h_
def KX(s:Option Nat)(f:Int)(H:HY)(Q:Int×Unit->UU)(X:PX):=(s=none->Q (5,()) () H)/\(¬s=none->Wp Y0 Dx CO (s,f,()) H (λ(b:Bool×Unit)_ G=>(¬b.1=true->Q (8,()) () G)/\(¬¬b.1=true->∃(b:Nat),s=some b/\(∃(x:Aa),G b=some (Ob.st AA x)/\({levels:=x.levels,Ba:=x.Ba,tables:=x.tables,counts:=x.counts,dead:=x.dead:Aa}=x/\Wp Y0 AI AE (x.Ba,Ax f,()) G (λ(b1:Ap×Bool×Unit)_ G=>(b1.2.1=true->Ag .i64 b1.1.Refs->Ag .i64 (b1.1.Refs+1)/\∃(x:Aa),G b=some (Ob.st AA x)/\{levels:=x.levels,Ba:=x.Ba,tables:=x.tables,counts:=x.counts,dead:=x.dead:Aa}=x/\Wp Y0 BH B8 (x.Ba,{ID:=b1.1.ID,Var:=b1.1.Var,Lo:=b1.1.Lo,Hi:=b1.1.Hi,Refs:=b1.1.Refs+1:Ap},()) G (λ(b:Int×Unit)_ G=>Wp Y0 Bt Bm (s,f,()) G (λ(b io:Unit)(G:HY)=>Q (0,()) () G) X) X)/\(¬b1.2.1=true->Q (0,()) () G)) X)/\{levels:=x.levels,Ba:=x.Ba,tables:=x.tables,counts:=x.counts,dead:=x.dead:Aa}=x/\Wp Y0 AI AE (x.Ba,Ax f,()) G (λ(b1:Ap×Bool×Unit)_ G=>(b1.2.1=true->Ag .i64 b1.1.Refs->Ag .i64 (b1.1.Refs+1)/\∃(x:Aa),G b=some (Ob.st AA x)/\{levels:=x.levels,Ba:=x.Ba,tables:=x.tables,counts:=x.counts,dead:=x.dead:Aa}=x/\Wp Y0 BH B8 (x.Ba,{ID:=b1.1.ID,Var:=b1.1.Var,Lo:=b1.1.Lo,Hi:=b1.1.Hi,Refs:=b1.1.Refs+1:Ap},()) G (λ(b:Int×Unit)_ G=>Wp Y0 Bt Bm (s,f,()) G (λ(b io:Unit)(G:HY)=>Q (0,()) () G) X) X)/\(¬b1.2.1=true->Q (0,()) () G)) X)/\∃(x:Aa),G b=some (Ob.st AA x)/\{levels:=x.levels,Ba:=x.Ba,tables:=x.tables,counts:=x.counts,dead:=x.dead:Aa}=x/\Wp Y0 AI AE (x.Ba,Ax f,()) G (λ(b1:Ap×Bool×Unit)_ G=>(b1.2.1=true->Ag .i64 b1.1.Refs->Ag .i64 (b1.1.Refs+1)/\∃(x:Aa),G b=some (Ob.st AA x)/\{levels:=x.levels,Ba:=x.Ba,tables:=x.tables,counts:=x.counts,dead:=x.dead:Aa}=x/\Wp Y0 BH B8 (x.Ba,{ID:=b1.1.ID,Var:=b1.1.Var,Lo:=b1.1.Lo,Hi:=b1.1.Hi,Refs:=b1.1.Refs+1:Ap},()) G (λ(b:Int×Unit)_ G=>Wp Y0 Bt Bm (s,f,()) G (λ(b io:Unit)(G:HY)=>Q (0,()) () G) X) X)/\(¬b1.2.1=true->Q (0,()) () G)) X)) X)
theorem QN s f H Q X(h_:KX s f H Q X):Wp Y0 HU F7 (s,f,()) H Q X:=wF Tryz.f223 {} h_
def KY(s:Option Nat)(f:Int)(H:HY)(Q:Int×Unit->UU)(X:PX):=(s=none->Q (5,()) () H)/\(¬s=none->Wp Y0 Dx CO (s,f,()) H (λ(b:Bool×Unit)_ G=>(¬b.1=true->Q (8,()) () G)/\(¬¬b.1=true->∃(b:Nat),s=some b/\(∃(x:Aa),G b=some (Ob.st AA x)/\({levels:=x.levels,Ba:=x.Ba,tables:=x.tables,counts:=x.counts,dead:=x.dead:Aa}=x/\Wp Y0 AI AE (x.Ba,Ax f,()) G (λ(b1:Ap×Bool×Unit)_ G=>(¬b1.2.1=true->Q (0,()) () G)/\(¬¬b1.2.1=true->(b1.1.Refs=0->Q (5,()) () G)/\(¬b1.1.Refs=0->Ag .i64 b1.1.Refs->Ag .i64 (b1.1.Refs-1)/\∃(x:Aa),G b=some (Ob.st AA x)/\{levels:=x.levels,Ba:=x.Ba,tables:=x.tables,counts:=x.counts,dead:=x.dead:Aa}=x/\Wp Y0 BH B8 (x.Ba,{ID:=b1.1.ID,Var:=b1.1.Var,Lo:=b1.1.Lo,Hi:=b1.1.Hi,Refs:=b1.1.Refs-1:Ap},()) G (λ(b:Int×Unit)_ G=>Wp Y0 Bu Bn (s,f,()) G (λ(b io:Unit)(G:HY)=>Q (0,()) () G) X) X))) X)/\{levels:=x.levels,Ba:=x.Ba,tables:=x.tables,counts:=x.counts,dead:=x.dead:Aa}=x/\Wp Y0 AI AE (x.Ba,Ax f,()) G (λ(b1:Ap×Bool×Unit)_ G=>(¬b1.2.1=true->Q (0,()) () G)/\(¬¬b1.2.1=true->(b1.1.Refs=0->Q (5,()) () G)/\(¬b1.1.Refs=0->Ag .i64 b1.1.Refs->Ag .i64 (b1.1.Refs-1)/\∃(x:Aa),G b=some (Ob.st AA x)/\{levels:=x.levels,Ba:=x.Ba,tables:=x.tables,counts:=x.counts,dead:=x.dead:Aa}=x/\Wp Y0 BH B8 (x.Ba,{ID:=b1.1.ID,Var:=b1.1.Var,Lo:=b1.1.Lo,Hi:=b1.1.Hi,Refs:=b1.1.Refs-1:Ap},()) G (λ(b:Int×Unit)_ G=>Wp Y0 Bu Bn (s,f,()) G (λ(b io:Unit)(G:HY)=>Q (0,()) () G) X) X))) X)/\∃(x:Aa),G b=some (Ob.st AA x)/\{levels:=x.levels,Ba:=x.Ba,tables:=x.tables,counts:=x.counts,dead:=x.dead:Aa}=x/\Wp Y0 AI AE (x.Ba,Ax f,()) G (λ(b1:Ap×Bool×Unit)_ G=>(¬b1.2.1=true->Q (0,()) () G)/\(¬¬b1.2.1=true->(b1.1.Refs=0->Q (5,()) () G)/\(¬b1.1.Refs=0->Ag .i64 b1.1.Refs->Ag .i64 (b1.1.Refs-1)/\∃(x:Aa),G b=some (Ob.st AA x)/\{levels:=x.levels,Ba:=x.Ba,tables:=x.tables,counts:=x.counts,dead:=x.dead:Aa}=x/\Wp Y0 BH B8 (x.Ba,{ID:=b1.1.ID,Var:=b1.1.Var,Lo:=b1.1.Lo,Hi:=b1.1.Hi,Refs:=b1.1.Refs-1:Ap},()) G (λ(b:Int×Unit)_ G=>Wp Y0 Bu Bn (s,f,()) G (λ(b io:Unit)(G:HY)=>Q (0,()) () G) X) X))) X)) X)
theorem QO s f H Q X(h_:KY s f H Q X):Wp Y0 HV F8 (s,f,()) H Q X:=wF Tryz.f174 {} h_
def L4(s:Option Nat)(v lo hi:Int)(H:HY)(Q:Int×Int×Unit->UU)(X:PX):=∃(b:Nat),s=some b/\∃(x:Aa),H b=some (Ob.st AA x)/\{levels:=x.levels,Ba:=x.Ba,tables:=x.tables,counts:=x.counts,dead:=x.dead:Aa}=x/\Wp Y0 Jn GL (x.Ba,{ID:=(0:Int),Var:=v,Lo:=lo,Hi:=hi,Refs:=(0:Int):Ap},()) H (λ(b1:Int×Int×Unit)_ G=>(¬b1.2.1=0->Q (0,b1.2.1,()) () G)/\(¬¬b1.2.1=0->∃(V:Nat->UU),(∃(n:Nat),V n () G)/\∀n x H,V n x H->∃(x:Aa),H b=some (Ob.st AA x)/\(x.counts.length<=9223372036854775807->((↑x.counts.length:Int)<=b1.1->(x.counts.length+[(0:Int)].length)*8<=140737488355328/\∃m,m<n/\V m () (Ac H b (Ob.st AA {x with counts:=x.counts++[(0:Int)]})))/\(¬(↑x.counts.length:Int)<=b1.1->Ag .i64 b1.1->(Ag .i64 b1.1->(0:Int)<=b1.1)/\∃(h:b1.1.toNat<x.counts.length),b1.1.toNat<x.counts.length/\(Ag .i64 x.dead->Ag .i64 (x.dead+1)/\(Ag .i64 v->(Ag .i64 v->(0:Int)<=v)/\∃(h:v.toNat<x.tables.length),∃(h:v.toNat<x.tables.length),Wp Y0 Dv CM (x.tables[v.toNat],lo,hi,b1.1,()) (Ac H b (Ob.st AA {x with counts:=x.counts.set b1.1.toNat (0:Int),dead:=x.dead+1})) (λ(b:Int×Unit)_ G=>Q (b1.1,0,()) () G) X)))))) X
theorem RN s v lo hi H Q X(h_:L4 s v lo hi H Q X):Wp Y0 Gl E7 (s,v,lo,hi,()) H Q X:=wF Tryz.f233 {lp:=[(4,⟨[],[0,1,2,3,10],true⟩)]} h_
def Km(s:Option Nat)(f v:Int)(H:HY)(Q:Int×Int×Unit->UU)(X:PX):=Wp Y0 Dy CP (s,f,()) H (λ(b:Int×Int×Int×Bool×Unit)_ G=>(¬b.2.2.2.1=true->Q (f,f,()) () G)/\(¬¬b.2.2.2.1=true->(¬b.1=v->Q (f,f,()) () G)/\(¬¬b.1=v->Q (b.2.1,b.2.2.1,()) () G))) X
theorem PB s f v H Q X(h_:Km s f v H Q X):Wp Y0 EZ DK (s,f,v,()) H Q X:=wF Tryz.f253 {} h_
def Kn(s:Option Nat)(x lo hi:Int)(H:HY)(Q:Int×Unit->UU)(X:PX):=(lo=hi->Q (lo,()) () H)/\(¬lo=hi->∃(b:Nat),s=some b/\∃(x1:Aa),H b=some (Ob.st AA x1)/\(Ag .i64 x->(Ag .i64 x->(0:Int)<=x)/\∃(h:x.toNat<x1.tables.length),∃(h:x.toNat<x1.tables.length),{levels:=x1.levels,Ba:=x1.Ba,tables:=x1.tables,counts:=x1.counts,dead:=x1.dead:Aa}=x1/\Wp Y0 DG CY (x1.tables[x.toNat],A8 lo (Bc hi),A8 hi (Bc hi),()) H (λ(b:Int×Bool×Unit)_ G=>(¬b.2.1=true->Wp Y0 Gl E7 (s,x,A8 lo (Bc hi),A8 hi (Bc hi),()) G (λ(b:Int×Int×Unit)_ G=>(Ag .i64 b.1/\True/\True->b.1<=(4611686018427387903:den Y0.D Gd))/\Q (A8 (2*max b.1 (0:den Y0.D Gd)) (Bc hi),()) () G) X)/\(¬¬b.2.1=true->(Ag .i64 b.1/\True/\True->b.1<=(4611686018427387903:den Y0.D Gd))/\Q (A8 (2*max b.1 (0:den Y0.D Gd)) (Bc hi),()) () G)) X))
theorem PC s x lo hi H Q X(h_:Kn s x lo hi H Q X):Wp Y0 C7 BZ (s,x,lo,hi,()) H Q X:=wF Tryz.f214 {} h_
def Mz(s:Option Nat)(v lo hi:Int)(H:HY)(Q:Int×Int×Unit->UU)(X:PX):=(s=none->Q (0,5,()) () H)/\(¬s=none->Wp Y0 B6 Bv (s,v,()) H (λ(b:Int×Unit)_ G=>(b.1<0->Q (0,9,()) () G)/\(¬b.1<0->Wp Y0 Dx CO (s,lo,()) G (λ(b:Bool×Unit)_ G=>(¬b.1=true->Q (0,8,()) () G)/\(¬¬b.1=true->Wp Y0 Dx CO (s,hi,()) G (λ(b:Bool×Unit)_ G=>(¬b.1=true->Q (0,8,()) () G)/\(¬¬b.1=true->Wp Y0 B6 Bv (s,v,()) G (λ(b:Int×Unit)_ G=>Wp Y0 EY DJ (s,lo,b.1,()) G (λ(b:Bool×Unit)_ G=>(¬b.1=true->Q (0,10,()) () G)/\(¬¬b.1=true->Wp Y0 B6 Bv (s,v,()) G (λ(b:Int×Unit)_ G=>Wp Y0 EY DJ (s,hi,b.1,()) G (λ(b:Bool×Unit)_ G=>(¬b.1=true->Q (0,10,()) () G)/\(¬¬b.1=true->(lo=hi->Q (lo,0,()) () G)/\(¬lo=hi->∃(b:Nat),s=some b/\∃(x:Aa),G b=some (Ob.st AA x)/\(Ag .i64 v->(Ag .i64 v->(0:Int)<=v)/\∃(h:v.toNat<x.tables.length),∃(h:v.toNat<x.tables.length),{levels:=x.levels,Ba:=x.Ba,tables:=x.tables,counts:=x.counts,dead:=x.dead:Aa}=x/\Wp Y0 DG CY (x.tables[v.toNat],A8 lo (Bc hi),A8 hi (Bc hi),()) G (λ(b:Int×Bool×Unit)_ G=>(¬b.2.1=true->Wp Y0 Gl E7 (s,v,A8 lo (Bc hi),A8 hi (Bc hi),()) G (λ(b:Int×Int×Unit)_ G=>(¬b.2.1=0->Q (0,b.2.1,()) () G)/\(¬¬b.2.1=0->(Ag .i64 b.1/\True/\True->b.1<=(4611686018427387903:den Y0.D Gd))/\Q (A8 (2*max b.1 (0:den Y0.D Gd)) (Bc hi),0,()) () G)) X)/\(¬¬b.2.1=true->(¬(0:Int)=0->Q (0,0,()) () G)/\(¬¬(0:Int)=0->(Ag .i64 b.1/\True/\True->b.1<=(4611686018427387903:den Y0.D Gd))/\Q (A8 (2*max b.1 (0:den Y0.D Gd)) (Bc hi),0,()) () G))) X)))) X) X)) X) X)) X)) X)) X)
theorem Tr s v lo hi H Q X(h_:Mz s v lo hi H Q X):Wp Y0 Fq Eb (s,v,lo,hi,()) H Q X:=wF Tryz.f190 {} h_
def RH(n:Int)(H:HY)(Q:List Int×Unit->UU)(X:PX):=Ag .i64 (Je false (Je true n [(.i64,0)]) [(.i64,64)])->Ag .i64 (Je false (Je true n [(.i64,0)]) [(.i64,64)])->(0:Int)<=Je false (Je true n [(.i64,0)]) [(.i64,64)]/\Je false (Je true n [(.i64,0)]) [(.i64,64)]=Je false (Je true n [(.i64,0)]) [(.i64,64)]/\(Je false (Je true n [(.i64,0)]) [(.i64,64)]).toNat*8<=281474976710656/\((List.replicate (Je false (Je true n [(.i64,(0:Int))]) [(.i64,(64:Int))]).toNat (0:Int)).length<=9223372036854775807->∃(V:Nat->List Int×Nat×Unit->Prop),(∃(n1:Nat),H=H/\V n1 (List.replicate (Je false (Je true n [(.i64,0)]) [(.i64,64)]).toNat (0:Int),0,()))/\∀n1 x,V n1 x->(x.2.1<(List.replicate (Je false (Je true n [(.i64,0)]) [(.i64,64)]).toNat (0:Int)).length->x.2.1<=9223372036854775807->∃(h:x.2.1<x.1.length),x.2.1<x.1.length/\x.2.1+1<=9223372036854775807/\∃m,m<n1/\H=H/\V m (x.1.set x.2.1 (↑x.2.1:Int),x.2.1+1,()))/\(¬x.2.1<(List.replicate (Je false (Je true n [(.i64,0)]) [(.i64,64)]).toNat (0:Int)).length->Q (x.1,()) () H))
theorem Zj n H Q X(h_:RH n H Q X):Wp Y0 K6 I4 (n,()) H Q X:=wF Tryz.f152 {lp:=[(3,⟨[(3,.one (.own I6)),(11,.nat)],[3,10],false⟩)]} h_
end
section
set_option maxRecDepth 100000
set_option maxHeartbeats 2000000
def O1(p:Option Nat)(id:Int)(H:HY)(Q:Bool×Unit->UU)(X:PX):=(¬p=none->((0:Int)<id->∃(b:Nat),p=some b/\∃(x:Av),H b=some (Ob.st CR x)/\(x.at_.length<=9223372036854775807->(id<(↑x.at_.length:Int)->Ag .i64 id->(Ag .i64 id->(0:Int)<=id)/\∃(h:id.toNat<x.taken.length),∃(h:id.toNat<x.taken.length),{room:=x.room,at_:=x.at_,taken:=x.taken,free:=x.free,many:=x.many:Av}=x/\Q (x.taken[id.toNat],()) () H)/\(¬id<(↑x.at_.length:Int)->{room:=x.room,at_:=x.at_,taken:=x.taken,free:=x.free,many:=x.many:Av}=x/\Q (false,()) () H)))/\(¬(0:Int)<id->Q (false,()) () H))/\(¬¬p=none->Q (false,()) () H)
theorem Vk p id H Q X(h_:O1 p id H Q X):Wp Y0 G3 Fh (p,id,()) H Q X:=wF Tryz.f226 {} h_
def O2(p:Option Nat)(id:Int)(H:HY)(Q:Ap×Bool×Unit->UU)(X:PX):=Wp Y0 G3 Fh (p,id,()) H (λ(b:Bool×Unit)_ G=>(¬b.1=true->Q ({ID:=(0:Int),Var:=(0:Int),Lo:=(0:Int),Hi:=(0:Int),Refs:=(0:Int):Ap},false,()) () G)/\(¬¬b.1=true->∃(b:Nat),p=some b/\∃(x:Av),G b=some (Ob.st CR x)/\(Ag .i64 id->(Ag .i64 id->(0:Int)<=id)/\∃(h:id.toNat<x.at_.length),∃(h:id.toNat<x.at_.length),Q ({ID:=x.at_[id.toNat].ID,Var:=x.at_[id.toNat].Var,Lo:=x.at_[id.toNat].Lo,Hi:=x.at_[id.toNat].Hi,Refs:=x.at_[id.toNat].Refs:Ap},true,()) () (Ac G b (Ob.st CR {room:=x.room,at_:=x.at_,taken:=x.taken,free:=x.free,many:=x.many:Av}))))) X
theorem Vl p id H Q X(h_:O2 p id H Q X):Wp Y0 AI AE (p,id,()) H Q X:=wF Tryz.f183 {} h_
def N7(p:Option Nat)(n:Ap)(H:HY)(Q:Int×Unit->UU)(X:PX):=Wp Y0 G3 Fh (p,n.ID,()) H (λ(b:Bool×Unit)_ G=>(¬b.1=true->Q (5,()) () G)/\(¬¬b.1=true->∃(b:Nat),p=some b/\∃(x:Av),G b=some (Ob.st CR x)/\(Ag .i64 n.ID->(Ag .i64 n.ID->(0:Int)<=n.ID)/\∃(h:n.ID.toNat<x.at_.length),n.ID.toNat<x.at_.length/\Q (0,()) () (Ac G b (Ob.st CR {x with at_:=x.at_.set n.ID.toNat n}))))) X
theorem Up p n H Q X(h_:N7 p n H Q X):Wp Y0 BH B8 (p,n,()) H Q X:=wF Tryz.f216 {im:=[3]} h_
def My(p:Option Nat)(id:Int)(H:HY)(Q:Int×Unit->UU)(X:PX):=Wp Y0 G3 Fh (p,id,()) H (λ(b:Bool×Unit)_ G=>(¬b.1=true->Q (5,()) () G)/\(¬¬b.1=true->∃(b:Nat),p=some b/\∃(x:Av),G b=some (Ob.st CR x)/\(Ag .i64 id->(Ag .i64 id->(0:Int)<=id)/\∃(h:id.toNat<x.at_.length),id.toNat<x.at_.length/\(Ag .i64 id->(Ag .i64 id->(0:Int)<=id)/\∃(h:id.toNat<x.taken.length),id.toNat<x.taken.length/\(x.free.length+[id].length)*8<=140737488355328/\(Ag .i64 x.many->Ag .i64 (x.many-1)/\Q (0,()) () (Ac G b (Ob.st CR {x with at_:=x.at_.set id.toNat {ID:=(0:Int),Var:=(0:Int),Lo:=(0:Int),Hi:=(0:Int),Refs:=(0:Int):Ap},taken:=x.taken.set id.toNat false,free:=x.free++[id],many:=x.many-1}))))))) X
theorem To p id H Q X(h_:My p id H Q X):Wp Y0 Fp Ea (p,id,()) H Q X:=wF Tryz.f251 {} h_
def Mw(p:Option Nat)(n:Ap)(H:HY)(Q:Int×Int×Unit->UU)(X:PX):=(p=none->Q (0,5,()) () H)/\(¬p=none->∃(b:Nat),p=some b/\∃(x:Av),H b=some (Ob.st CR x)/\(x.free.length<=9223372036854775807->(0<x.free.length->x.free.length<=9223372036854775807->Ag .i64 ((↑x.free.length:Int)-1)/\(Ag .i64 ((↑x.free.length:Int)-1)->(Ag .i64 ((↑x.free.length:Int)-1)->(0:Int)<=(↑x.free.length:Int)-1)/\∃(h:((↑x.free.length:Int)-1).toNat<x.free.length),∃(h:((↑x.free.length:Int)-1).toNat<x.free.length),x.free.length<=9223372036854775807->Ag .i64 ((↑x.free.length:Int)-1)/\(x.free.length<=9223372036854775807->Ag .i64 ((↑x.free.length:Int)-1)/\(Ag .i64 ((↑x.free.length:Int)-1)->(0:Int)<=(↑x.free.length:Int)-1/\(Ag .i64 ((↑x.free.length:Int)-1)->(0:Int)<=(↑x.free.length:Int)-1/\((↑x.free.length:Int)-1).toNat<=((↑x.free.length:Int)-1).toNat/\((↑x.free.length:Int)-1).toNat<=x.free.length/\(Ag .i64 x.free[((↑x.free.length:Int)-1).toNat]->(Ag .i64 x.free[((↑x.free.length:Int)-1).toNat]->(0:Int)<=x.free[((↑x.free.length:Int)-1).toNat])/\∃(h1:x.free[((↑x.free.length:Int)-1).toNat].toNat<x.at_.length),x.free[((↑x.free.length:Int)-1).toNat].toNat<x.at_.length/\(Ag .i64 x.free[((↑x.free.length:Int)-1).toNat]->(Ag .i64 x.free[((↑x.free.length:Int)-1).toNat]->(0:Int)<=x.free[((↑x.free.length:Int)-1).toNat])/\∃(h2:x.free[((↑x.free.length:Int)-1).toNat].toNat<x.taken.length),x.free[((↑x.free.length:Int)-1).toNat].toNat<x.taken.length/\(Ag .i64 x.many->Ag .i64 (x.many+1)/\Q (x.free[((↑x.free.length:Int)-1).toNat],0,()) () (Ac H b (Ob.st CR {x with at_:=x.at_.set x.free[((↑x.free.length:Int)-1).toNat].toNat {n with ID:=x.free[((↑x.free.length:Int)-1).toNat]},taken:=x.taken.set x.free[((↑x.free.length:Int)-1).toNat].toNat true,free:=List.take ((↑x.free.length:Int)-1).toNat x.free,many:=x.many+1}))))))))))/\(¬0<x.free.length->x.at_.length<=9223372036854775807->(x.room<(↑x.at_.length:Int)->{room:=x.room,at_:=x.at_,taken:=x.taken,free:=x.free,many:=x.many:Av}=x/\Q (0,7,()) () H)/\(¬x.room<(↑x.at_.length:Int)->x.at_.length<=9223372036854775807->(x.at_.length+[{ID:=(0:Int),Var:=(0:Int),Lo:=(0:Int),Hi:=(0:Int),Refs:=(0:Int):Ap}].length)*40<=140737488355328/\(x.taken.length+[false].length)*1<=140737488355328/\(x.at_.length<=9223372036854775807->∃(h:x.at_.length<(x.at_++[{ID:=(0:Int),Var:=(0:Int),Lo:=(0:Int),Hi:=(0:Int),Refs:=(0:Int):Ap}]).length),x.at_.length<(x.at_++[{ID:=(0:Int),Var:=(0:Int),Lo:=(0:Int),Hi:=(0:Int),Refs:=(0:Int):Ap}]).length/\(x.at_.length<=9223372036854775807->∃(h:x.at_.length<(x.taken++[false]).length),x.at_.length<(x.taken++[false]).length/\(Ag .i64 x.many->Ag .i64 (x.many+1)/\Q ((↑x.at_.length:Int),0,()) () (Ac H b (Ob.st CR {x with at_:=(x.at_++[{ID:=(0:Int),Var:=(0:Int),Lo:=(0:Int),Hi:=(0:Int),Refs:=(0:Int):Ap}]).set x.at_.length {n with ID:=(↑x.at_.length:Int)},taken:=(x.taken++[false]).set x.at_.length true,many:=x.many+1})))))))))
theorem Tk p n H Q X(h_:Mw p n H Q X):Wp Y0 Jn GL (p,n,()) H Q X:=wF Tryz.f259 {} h_
def Ur(p:Option Nat)(H:HY)(Q:Int×Unit->UU)(X:PX):=(p=none->Q (0,()) () H)/\(¬p=none->∃(b:Nat),p=some b/\∃(x:Av),H b=some (Ob.st CR x)/\{room:=x.room,at_:=x.at_,taken:=x.taken,free:=x.free,many:=x.many:Av}=x/\Q (x.many,()) () H)
theorem Uq p H Q X(h_:Ur p H Q X):Wp Y0 NA JW (p,()) H Q X:=wF Tryz.f255 {} h_
def Tm(p:Option Nat)(H:HY)(Q:Int×Unit->UU)(X:PX):=(p=none->Q (0,()) () H)/\(¬p=none->∃(b:Nat),p=some b/\∃(x:Av),H b=some (Ob.st CR x)/\{room:=x.room,at_:=x.at_,taken:=x.taken,free:=x.free,many:=x.many:Av}=x/\Q (x.room,()) () H)
theorem Tl p H Q X(h_:Tm p H Q X):Wp Y0 MF Jj (p,()) H Q X:=wF Tryz.f254 {} h_
def O7(l:Option Nat)(v:Int)(H:HY)(Q:Int×Unit->UU)(X:PX):=(l=none->Q (-1,()) () H)/\(¬l=none->(v<0->Q (-1,()) () H)/\(¬v<0->∃(b:Nat),l=some b/\∃(x:AF),H b=some (Ob.st CF x)/\(x.level.length<=9223372036854775807->((↑x.level.length:Int)<=v->{vars:=x.vars,level:=x.level:AF}=x/\Q (-1,()) () H)/\(¬(↑x.level.length:Int)<=v->Ag .i64 v->(Ag .i64 v->(0:Int)<=v)/\∃(h:v.toNat<x.level.length),∃(h:v.toNat<x.level.length),{vars:=x.vars,level:=x.level:AF}=x/\Q (x.level[v.toNat],()) () H))))
theorem O6 l v H Q X(h_:O7 l v H Q X):Wp Y0 G4 E6 (l,v,()) H Q X:=wF Tryz.f186 {} h_
def Kj(l:Option Nat)(at_:Int)(H:HY)(Q:Unit->UU)(X:PX):=∃(b:Nat),l=some b/\∃(x:AF),H b=some (Ob.st CF x)/\(Ag .i64 at_->(Ag .i64 at_->(0:Int)<=at_)/\∃(h:at_.toNat<x.vars.length),∃(h:at_.toNat<x.vars.length),Ag .i64 at_->Ag .i64 (at_+1)/\(Ag .i64 (at_+1)->(Ag .i64 (at_+1)->(0:Int)<=at_+1)/\∃(h1:(at_+1).toNat<x.vars.length),∃(h2:(at_+1).toNat<x.vars.length),Ag .i64 at_->Ag .i64 (at_+1)/\(Ag .i64 at_->(Ag .i64 at_->(0:Int)<=at_)/\∃(h3:at_.toNat<x.vars.length),at_.toNat<x.vars.length/\(Ag .i64 (at_+1)->(Ag .i64 (at_+1)->(0:Int)<=at_+1)/\∃(h4:(at_+1).toNat<(x.vars.set at_.toNat x.vars[(at_+1).toNat]).length),(at_+1).toNat<(x.vars.set at_.toNat x.vars[(at_+1).toNat]).length/\(Ag .i64 at_->Ag .i64 (at_+1)/\(Ag .i64 x.vars[at_.toNat]->(Ag .i64 x.vars[at_.toNat]->(0:Int)<=x.vars[at_.toNat])/\∃(h5:x.vars[at_.toNat].toNat<x.level.length),x.vars[at_.toNat].toNat<x.level.length/\(Ag .i64 x.vars[(at_+1).toNat]->(Ag .i64 x.vars[(at_+1).toNat]->(0:Int)<=x.vars[(at_+1).toNat])/\∃(h6:x.vars[(at_+1).toNat].toNat<(x.level.set x.vars[at_.toNat].toNat (at_+1)).length),x.vars[(at_+1).toNat].toNat<(x.level.set x.vars[at_.toNat].toNat (at_+1)).length/\Q () () (Ac H b (Ob.st CF {vars:=(x.vars.set at_.toNat x.vars[(at_+1).toNat]).set (at_+1).toNat x.vars[at_.toNat],level:=(x.level.set x.vars[at_.toNat].toNat (at_+1)).set x.vars[(at_+1).toNat].toNat at_:AF})))))))))
theorem P8 l at_ H Q X(h_:Kj l at_ H Q X):Wp Y0 Hg EU (l,at_,()) H Q X:=wF Tryz.f212 {} h_
def Ru(t:Option Nat)(lo hi:Int)(H:HY)(Q:Int×Bool×Unit->UU)(X:PX):=(t=none->Q (0,false,()) () H)/\(¬t=none->∃(b:Nat),t=some b/\∃(x:Az),H b=some (Ob.st BC x)/\{ids:=x.ids:Az}=x/\Q ((Ae x.ids {a0:=lo,a1:=hi:Ah}).getD 0,decide ((Ae x.ids {a0:=lo,a1:=hi:Ah}).isSome=true),()) () H)
theorem Rt t lo hi H Q X(h_:Ru t lo hi H Q X):Wp Y0 DG CY (t,lo,hi,()) H Q X:=wF Tryz.f232 {} h_
def SU(t:Option Nat)(lo hi id:Int)(H:HY)(Q:Int×Unit->UU)(X:PX):=(t=none->Q (5,()) () H)/\(¬t=none->∃(b:Nat),t=some b/\∃(x:Az),H b=some (Ob.st BC x)/\((Ae x.ids {a0:=lo,a1:=hi:Ah}).isSome=true->{ids:=x.ids:Az}=x/\Q (6,()) () H)/\(¬(Ae x.ids {a0:=lo,a1:=hi:Ah}).isSome=true->Q (0,()) () (Ac H b (Ob.st BC {ids:=BL x.ids {a0:=lo,a1:=hi:Ah} id:Az}))))
theorem SS t lo hi id H Q X(h_:SU t lo hi id H Q X):Wp Y0 Dv CM (t,lo,hi,id,()) H Q X:=wF Tryz.f217 {} h_
def SX(t:Option Nat)(lo hi:Int)(H:HY)(Q:Int×Unit->UU)(X:PX):=(t=none->Q (5,()) () H)/\(¬t=none->∃(b:Nat),t=some b/\∃(x:Az),H b=some (Ob.st BC x)/\(¬(Ae x.ids {a0:=lo,a1:=hi:Ah}).isSome=true->{ids:=x.ids:Az}=x/\Q (5,()) () H)/\(¬¬(Ae x.ids {a0:=lo,a1:=hi:Ah}).isSome=true->Q (0,()) () (Ac H b (Ob.st BC {ids:=Df x.ids {a0:=lo,a1:=hi:Ah}:Az}))))
theorem SV t lo hi H Q X(h_:SX t lo hi H Q X):Wp Y0 Ed Dt (t,lo,hi,()) H Q X:=wF Tryz.f213 {} h_
end
section
theorem Ih{α:Type}[DecidableEq α]:∀{l m:List α},l.Nodup->(∀k∈l,k∈m)->l.length<=m.length
 | [],_,_,_=>by simp
 |a::l,m,hn,h=>by obtain⟨h1,h2⟩:=List.nodup_cons.1 hn;have:=Ih (m:=m.erase a) h2 λk hk=>(List.mem_erase_of_ne (λe=>h1 (by rw[<-e];exact hk))).2 (h k (by simp [hk]));have hm:=h a (by simp);rw[List.length_erase_of_mem hm]at this;have:=List.length_pos_of_mem hm;simp;omega
def Nr(x:Av)(i:Int):Bool:=decide (0<=i)&&(x.taken[i.toNat]?).getD false
def Gi(x:Av)(i:Int):Option Ap:=if Nr x i=true then x.at_[i.toNat]? else none
structure Fw(x:Av):Prop where
 ln:x.at_.length=x.taken.length
 pos:0<x.at_.length
 room:1<=x.room/\x.room<=1048576
 len:(x.at_.length:Int)<=x.room+1
 t0:x.taken[0]?=some false
 fr:∀i∈x.free,1<=i/\i<x.at_.length/\x.taken[i.toNat]?=some false
 nd:x.free.Nodup
 cnt:x.many+x.free.length+1=x.at_.length
 al:∀i:Nat,1<=i->x.taken[i]?=some false->(i:Int)∈x.free
 id:∀(i:Int)n,Gi x i=some n->n.ID=i
variable {x:Av} {i:Int}
theorem Nq(h:Nr x i=true):0<=i/\i.toNat<x.taken.length/\x.taken[i.toNat]?=some true:=by
 unfold Nr at h;simp only[Bool.and_eq_true,decide_eq_true_eq]at h;obtain⟨h0,h1⟩:=h;by_cases hl:i.toNat<x.taken.length
 .rw[List.getElem?_eq_getElem hl]at h1 ⊢;simp at h1;exact⟨h0,hl,by rw[h1]⟩
 .rw[List.getElem?_eq_none (by omega)]at h1;simp at h1
theorem Fw.tk(h:Fw x)(ht:Nr x i=true):0<i/\i<x.at_.length/\∃n,Gi x i=some n/\x.at_[i.toNat]?=some n:=by
 obtain⟨h0,h1,h2⟩:=Nq ht;have hne:i≠0:=by intro e;subst e;have:=h.t0;simp at h2 this;rw[h2]at this;simp at this
 have hl:i.toNat<x.at_.length:=by rw[h.ln];exact h1
 refine⟨by omega,by omega,x.at_[i.toNat],?_,List.getElem?_eq_getElem hl⟩;unfold Gi;rw[if_pos ht];exact List.getElem?_eq_getElem hl
variable {b:Nat} {H:HY} {X:PX}
theorem QD{Q:Bool×Unit->UU}(hx:H b=some (.st CR x))(hI:Fw x)(h:Q (Nr x i,()) () H):Wp Y0 G3 Fh (some b,i,()) H Q X:=by
 apply Vk;unfold O1;refine⟨λ_=>⟨λh0=>⟨b,rfl,x,hx,λ_=>⟨λhl _=>⟨λ_=>by omega,?_⟩,λhl=>⟨rfl,?_⟩⟩⟩,λh0=>?_⟩,λhn=>absurd (by simp) hn⟩
 .have hl':i.toNat<x.taken.length:=by rw[<-hI.ln];omega
  refine⟨hl',hl',rfl,?_⟩;have:Nr x i=x.taken[i.toNat]:=by unfold Nr;rw[List.getElem?_eq_getElem hl'];simp;omega
  rw[<-this];exact h
 .have:Nr x i=false:=by
   cases ht:Nr x i with
   |false=>rfl
   |true=>have:=(hI.tk ht).2.1;omega
  rw[<-this];exact h
 .have:Nr x i=false:=by
   cases ht:Nr x i with
   |false=>rfl
   |true=>have:=(hI.tk ht).1;omega
  rw[<-this];exact h
theorem Gz{Q:Ap×Bool×Unit->UU}(hx:H b=some (.st CR x))(hI:Fw x)(h0:Gi x i=none->Q (⟨0,0,0,0,0⟩,false,()) () H)(h1:∀n,Gi x i=some n->Q (n,true,()) () H):Wp Y0 AI AE (some b,i,()) H Q X:=by
 apply Vl;unfold O2;refine QD hx hI ⟨λhf=>?_,λht=>⟨b,rfl,x,hx,λ_=>⟨λ_=>?_,?_⟩⟩⟩
 .exact h0 (by unfold Gi;rw[if_neg hf])
 .have ht:Nr x i=true:=by simpa using ht
  exact(Nq ht).1
 .have ht:Nr x i=true:=by simpa using ht
  obtain⟨_,_,n,hn,hg⟩:=hI.tk ht;obtain⟨hl,hv⟩:=List.getElem?_eq_some_iff.1 hg;refine⟨hl,hl,?_⟩;rw[KA (by rw[hx])];have:=h1 n hn;rw[hv];exact this
theorem Agc{c:Bool}(hi:0<=i)(hl:i.toNat<x.taken.length){a:List Ap}{f:List Int}{m:Int}(j:Int):Nr {room:=x.room,at_:=a,taken:=x.taken.set i.toNat c,free:=f,many:=m} j=if j=i then c else Nr x j:=by
 unfold Nr;by_cases hj:j=i
 .subst hj;simp [hi,hl]
 .rw[if_neg hj];by_cases h0:0<=j
  .simp only[h0,decide_true,Bool.true_and];rw[List.getElem?_set_ne (by omega)]
  .simp [h0]
theorem O0{n:Ap}{Q:Int×Unit->UU}(hx:H b=some (.st CR x))(hI:Fw x)(h0:Gi x n.ID=none->Q (5,()) () H)(h1:∀m x',Gi x n.ID=some m->Fw x'->(∀j,Gi x' j=if j=n.ID then some n else Gi x j)->x'.many=x.many->x'.room=x.room->x'.at_.length=x.at_.length->Q (0,()) () (Ac H b (.st CR x'))):Wp Y0 BH B8 (some b,n,()) H Q X:=by
 apply Up;unfold N7;refine QD hx hI ⟨λhf=>?_,λht=>⟨b,rfl,x,hx,λ_=>⟨λ_=>?_,?_⟩⟩⟩
 .exact h0 (by unfold Gi;rw[if_neg hf])
 .have ht:Nr x n.ID=true:=by simpa using ht
  exact(Nq ht).1
 .have ht:Nr x n.ID=true:=by simpa using ht
  obtain⟨hp,hlt,m,hm,hg⟩:=hI.tk ht;obtain⟨hl,_⟩:=List.getElem?_eq_some_iff.1 hg;refine⟨hl,hl,h1 m _ hm ?_ ?_ rfl rfl (by simp)⟩;all_goals
   have hN:∀j,Gi {room:=x.room,at_:=x.at_.set n.ID.toNat n,taken:=x.taken,free:=x.free,many:=x.many} j=if j=n.ID then some n else Gi x j:=λj=>by
    have hT:Nr {room:=x.room,at_:=x.at_.set n.ID.toNat n,taken:=x.taken,free:=x.free,many:=x.many} j=Nr x j:=rfl;unfold Gi;rw[hT];by_cases hj:j=n.ID
    .subst hj;rw[if_pos ht,if_pos rfl];simp [hl]
    .rw[if_neg hj];by_cases hjt:Nr x j=true
     .rw[if_pos hjt,if_pos hjt];have:=(Nq hjt).1;exact List.getElem?_set_ne (by omega)
     .rw[if_neg hjt,if_neg hjt]
  .refine⟨by simpa using hI.ln,by simpa using hI.pos,hI.room,by simpa using hI.len,hI.t0,λi hi=>by simpa using hI.fr i hi,hI.nd,by simpa using hI.cnt,hI.al,λj k hk=>?_⟩;rw[hN]at hk;split at hk
   .cases hk;rename_i e;exact e.symm
   .exact hI.id j k hk
  .exact hN
theorem Zd{m:Ap}{Q:Int×Unit->UU}(hx:H b=some (.st CR x))(hI:Fw x)(hm:Gi x i=some m)(h1:∀x',Fw x'->(∀j,Gi x' j=if j=i then none else Gi x j)->x'.many=x.many-1->x'.room=x.room->x'.at_.length=x.at_.length->Q (0,()) () (Ac H b (.st CR x'))):Wp Y0 Fp Ea (some b,i,()) H Q X:=by
 have ht:Nr x i=true:=by
  unfold Gi at hm;split at hm
  .assumption
  .cases hm
 obtain⟨hp,hlt,m',hm',hg⟩:=hI.tk ht;obtain⟨hl,_⟩:=List.getElem?_eq_some_iff.1 hg;have hl':i.toNat<x.taken.length:=by rw[<-hI.ln];exact hl
 have hni:i∉x.free:=λhf=>by have:=(hI.fr i hf).2.2;rw[(Nq ht).2.2]at this;simp at this
 have hnd:(x.free++[i]).Nodup:=by rw[List.nodup_append];exact⟨hI.nd,by simp,λa ha c hc=>by simp at hc;subst hc;exact λe=>hni (e▸ha)⟩
 have hfl:x.free.length+1<=x.at_.length/\1<=x.many:=by
  have h1:((x.free++[i]).map Int.toNat).Nodup:=by
   rw[List.Nodup,List.pairwise_map];refine hnd.imp_of_mem λ{a c}ha hc hne e=>hne ?_;have pa:∀a∈x.free++[i],1<=a:=λa ha=>by
    rcases List.mem_append.1 ha with h|h
    .exact(hI.fr a h).1
    .simp at h;omega
   have:=pa a ha;have:=pa c hc;omega
  have h2:∀k∈(x.free++[i]).map Int.toNat,k∈List.range x.at_.length:=λk hk=>by
   obtain⟨a,ha,rfl⟩:=List.mem_map.1 hk;rw[List.mem_range];rcases List.mem_append.1 ha with h|h
   .have:=hI.fr a h;omega
   .simp at h;subst h;exact hl
  have h3:∀k∈(x.free++[i]).map Int.toNat,k≠0:=λk hk=>by
   obtain⟨a,ha,rfl⟩:=List.mem_map.1 hk;rcases List.mem_append.1 ha with h|h
   .have:=hI.fr a h;omega
   .simp at h;omega
  have h5:(0::(x.free++[i]).map Int.toNat).Nodup:=List.nodup_cons.2 ⟨λh=>h3 0 h rfl,h1⟩;have h4:=Ih h5 (m:=List.range x.at_.length) (λk hk=>by
   rcases List.mem_cons.1 hk with rfl|hk
   .rw[List.mem_range];exact hI.pos
   .exact h2 k hk)
  simp at h4;have:=hI.cnt;omega
 have hrm:=hI.room;have hln:=hI.len;apply To;unfold My;refine QD hx hI ⟨λhf=>absurd ht hf,λ_=>⟨b,rfl,x,hx,λ_=>⟨λ_=>by omega,hl,hl,λ_=>⟨λ_=>by omega,hl',hl',by simp;omega,λhk=>⟨AG.2 (by have:=AG.1 hk;omega),h1 _ ?_ ?_ rfl rfl (by simp)⟩⟩⟩⟩⟩;all_goals
  have hT:=λj=>Agc (x:=x) (c:=false) (by omega:0<=i) hl' (a:=x.at_.set i.toNat ⟨0,0,0,0,0⟩) (f:=x.free++[i]) (m:=x.many-1) j
  have hN:∀j,Gi {room:=x.room,at_:=x.at_.set i.toNat ⟨0,0,0,0,0⟩,taken:=x.taken.set i.toNat false,free:=x.free++[i],many:=x.many-1} j=if j=i then none else Gi x j:=λj=>by
   unfold Gi;rw[hT];by_cases hj:j=i
   .rw[if_pos hj,if_pos hj];simp
   .rw[if_neg hj,if_neg hj];by_cases hjt:Nr x j=true
    .rw[if_pos hjt,if_pos hjt];have:=(Nq hjt).1;exact List.getElem?_set_ne (by omega)
    .rw[if_neg hjt,if_neg hjt]
 .refine⟨by simpa using hI.ln,by simpa using hI.pos,hI.room,by simpa using hI.len,?_,λk hk=>?_,hnd,by have:=hI.cnt;simp;omega,λk hk h=>?_,λj k hk=>?_⟩
  .show (x.taken.set i.toNat false)[0]?=some false;rw[List.getElem?_set_ne (by omega)];exact hI.t0
  .simp only[List.length_set];rcases List.mem_append.1 hk with h|h
   .have:=hI.fr k h;refine⟨this.1,this.2.1,?_⟩;rw[List.getElem?_set_ne (λe=>hni (by
     have:i=k:=by omega
     rw[this];exact h))]
    exact this.2.2
   .simp at h;subst h;exact⟨by omega,hlt,by simp [hl']⟩
  .by_cases e:k=i.toNat
   .refine List.mem_append_right _ ?_;simp;omega
   .have h:(x.taken.set i.toNat false)[k]?=some false:=h;rw[List.getElem?_set_ne (Ne.symm e)]at h;exact List.mem_append_left _ (hI.al k hk h)
  .rw[hN]at hk;split at hk
   .cases hk
   .exact hI.id j k hk
 .exact hN
structure Aoy(x:Av)(n:Ap)(i:Int)(x':Av):Prop where
 inv:Fw x'
 pos:0<i
 lt:i<x'.at_.length
 KR:Gi x i=none
 nd:∀j,Gi x' j=if j=i then some {ID:=i,Var:=n.Var,Lo:=n.Lo,Hi:=n.Hi,Refs:=n.Refs} else Gi x j
 many:x'.many=x.many+1
 room:x'.room=x.room
 len:x.at_.length<=x'.at_.length
theorem Zc{n:Ap}{Q:Int×Int×Unit->UU}(hx:H b=some (.st CR x))(hI:Fw x)(h0:x.many=x.room->Q (0,7,()) () H)(h1:∀i x',Aoy x n i x'->x.many<x.room->Q (i,0,()) () (Ac H b (.st CR x'))):Wp Y0 Jn GL (some b,n,()) H Q X:=by
 have hrm:=hI.room;have hln:=hI.len;have hcn:=hI.cnt;have hll:=hI.ln;have hps:=hI.pos;have hmn:0<=x.many:=by
  have h1:(x.free.map Int.toNat).Nodup:=by rw[List.Nodup,List.pairwise_map];exact hI.nd.imp_of_mem λ{a c}ha hc hne e=>hne (by have:=hI.fr a ha;have:=hI.fr c hc;omega)
  have h5:(0::x.free.map Int.toNat).Nodup:=List.nodup_cons.2 ⟨λh=>by obtain⟨a,ha,e⟩:=List.mem_map.1 h;have:=hI.fr a ha;omega,h1⟩
  have h4:=Ih h5 (m:=List.range x.at_.length) (λk hk=>by
   rw[List.mem_range];rcases List.mem_cons.1 hk with rfl|hk
   .exact hI.pos
   .obtain⟨a,ha,rfl⟩:=List.mem_map.1 hk;have:=hI.fr a ha;omega)
  simp at h4;omega
 apply Tk;unfold Mw;refine⟨λh=>absurd h (by simp),λ_=>⟨b,rfl,x,hx,λ_=>⟨λhpos=>?_,λhneg=>?_⟩⟩⟩
 .intro _;replace hpos:0<x.free.length:=hpos;have hk:((x.free.length:Int)-1).toNat<x.free.length:=by omega
  generalize hkk:((x.free.length:Int)-1).toNat=k at *;have hki:((x.free.length:Int)-1)=k:=by omega
  obtain⟨i,hii⟩:∃i,i=x.free[k]:=⟨_,rfl⟩
  have hi:=hI.fr i (by rw[hii];exact List.getElem_mem hk);have hl:i.toNat<x.at_.length:=by omega
  have hl':i.toNat<x.taken.length:=by omega
  refine⟨AG.2 (by omega),λ_=>⟨λ_=>by omega,hk,hk,λ_=>⟨AG.2 (by omega),λ_=>⟨AG.2 (by omega),λ_=>⟨by omega,λ_=>⟨by omega,Nat.le_refl _,by omega,λ_=>⟨λ_=>by rw[<-hii];omega,by rw[<-hii];exact hl,by rw[<-hii];exact hl,λ_=>⟨λ_=>by rw[<-hii];omega,by rw[<-hii];exact hl',by rw[<-hii];exact hl',λhm=>⟨AG.2 (by omega),?_⟩⟩⟩⟩⟩⟩⟩⟩⟩;have hnt:Nr x i=false:=by unfold Nr;rw[hi.2.2];simp
  have hfree:x.free=x.free.take k++[i]:=by
   have:x.free.length=k+1:=by omega
   rw[hii,<-List.take_succ_eq_append_getElem hk,<-this,List.take_length]
  have hnd:=hI.nd;rw[hfree,List.nodup_append]at hnd;have hnin:i∉x.free.take k:=λh=>hnd.2.2 i h i (by simp) rfl;have hT:=λj=>Agc (x:=x) (c:=true) (by omega:0<=i) hl' (a:=x.at_.set i.toNat {ID:=i,Var:=n.Var,Lo:=n.Lo,Hi:=n.Hi,Refs:=n.Refs}) (f:=x.free.take k) (m:=x.many+1) j;have hN:∀j,Gi {room:=x.room,at_:=x.at_.set i.toNat {ID:=i,Var:=n.Var,Lo:=n.Lo,Hi:=n.Hi,Refs:=n.Refs},taken:=x.taken.set i.toNat true,free:=x.free.take k,many:=x.many+1} j=if j=i then some {ID:=i,Var:=n.Var,Lo:=n.Lo,Hi:=n.Hi,Refs:=n.Refs} else Gi x j:=λj=>by
   unfold Gi;rw[hT];by_cases hj:j=i
   .rw[if_pos hj,if_pos hj,if_pos rfl,hj];simp [hl]
   .rw[if_neg hj,if_neg hj];by_cases hjt:Nr x j=true
    .rw[if_pos hjt,if_pos hjt];have:=(Nq hjt).1;exact List.getElem?_set_ne (by omega)
    .rw[if_neg hjt,if_neg hjt]
  rw[<-hii];refine h1 i _ ⟨?_,by omega,by simpa using hi.2.1,by unfold Gi;rw[hnt];simp,hN,rfl,rfl,by simp⟩ (by omega);refine⟨by simpa using hI.ln,by simpa using hI.pos,hI.room,by simpa using hI.len,?_,λj hj=>?_,hnd.1,?_,λj hj h=>?_,λj m hj=>?_⟩
  .show (x.taken.set i.toNat true)[0]?=some false;rw[List.getElem?_set_ne (by omega)];exact hI.t0
  .have hj:j∈x.free.take k:=hj;have hf:=hI.fr j (List.mem_of_mem_take hj);simp only[List.length_set];refine⟨hf.1,hf.2.1,?_⟩;rw[List.getElem?_set_ne (λe=>hnin (by
    have:i=j:=by omega
    rw[this];exact hj))]
   exact hf.2.2
  .show x.many+1+((x.free.take k).length:Int)+1=((x.at_.set i.toNat _).length:Int);simp;omega
  .have h:(x.taken.set i.toNat true)[j]?=some false:=h;by_cases e:j=i.toNat
   .subst e;simp [hl']at h
   .rw[List.getElem?_set_ne (Ne.symm e)]at h;have:=hI.al j hj h;rw[hfree]at this;rcases List.mem_append.1 this with h2|h2
    .exact h2
    .simp at h2;omega
  .rw[hN]at hj;split at hj
   .cases hj;rename_i e;exact e.symm
   .exact hI.id j m hj
 .replace hneg:¬0<x.free.length:=hneg;have hf0:x.free=[]:=List.length_eq_zero_iff.1 (by omega);have hfl:x.free.length=0:=by omega
  refine λ_=>⟨λhfull=>⟨rfl,h0 (by omega)⟩,λhroom _=>⟨by simp;omega,by simp;omega,λ_=>⟨by simp,by simp,λ_=>⟨by simp;omega,by simp;omega,λhm=>⟨AG.2 (by omega),?_⟩⟩⟩⟩⟩
  let z:Ap:={ID:=0,Var:=0,Lo:=0,Hi:=0,Refs:=0}
  let v:Ap:={ID:=(x.at_.length:Int),Var:=n.Var,Lo:=n.Lo,Hi:=n.Hi,Refs:=n.Refs}
  have ea:(x.at_++[z]).set x.at_.length v=x.at_++[v]:=by simp
  have et:(x.taken++[false]).set x.at_.length true=x.taken++[true]:=by rw[hll];simp
  show Q ((x.at_.length:Int),0,()) () (Ac H b (Ob.st CR {room:=x.room,at_:=(x.at_++[z]).set x.at_.length v,taken:=(x.taken++[false]).set x.at_.length true,free:=x.free,many:=x.many+1}));rw[ea,et];have hT:∀j,Nr {room:=x.room,at_:=x.at_++[v],taken:=x.taken++[true],free:=x.free,many:=x.many+1} j=if j=x.at_.length then true else Nr x j:=λj=>by
   unfold Nr;by_cases h0:0<=j
   .simp only[h0,decide_true,Bool.true_and];by_cases hj:j=x.at_.length
    .rw[if_pos hj];have:j.toNat=x.taken.length:=by omega
     rw[this];simp
    .rw[if_neg hj];by_cases hjl:j.toNat<x.taken.length
     .rw[List.getElem?_append_left hjl]
     .rw[List.getElem?_eq_none (by simp;omega),List.getElem?_eq_none (by omega)]
   .rw[if_neg (by omega)];simp [h0]
  have hN:∀j,Gi {room:=x.room,at_:=x.at_++[v],taken:=x.taken++[true],free:=x.free,many:=x.many+1} j=if j=x.at_.length then some v else Gi x j:=λj=>by
   unfold Gi;rw[hT];by_cases hj:j=x.at_.length
   .rw[if_pos hj,if_pos hj,if_pos rfl,hj];simp
   .rw[if_neg hj,if_neg hj];by_cases hjt:Nr x j=true
    .rw[if_pos hjt,if_pos hjt];have:=Nq hjt;exact List.getElem?_append_left (by omega)
    .rw[if_neg hjt,if_neg hjt]
  have hold:Gi x (x.at_.length:Int)=none:=by
   unfold Gi;split
   .rename_i h;have:=(Nq h).2.1;omega
   .rfl
  refine h1 _ _ ⟨?_,by omega,by simp;omega,hold,hN,rfl,rfl,by simp⟩ (by omega);refine⟨by simp [hll],by simp,hI.room,by simp;omega,?_,λj hj=>?_,hI.nd,by simp;omega,λj hj h=>?_,λj m hj=>?_⟩
  .show (x.taken++[true])[0]?=some false;rw[List.getElem?_append_left (by omega)];exact hI.t0
  .rw[hf0]at hj;simp at hj
  .have h:(x.taken++[true])[j]?=some false:=h;by_cases hjl:j<x.taken.length
   .rw[List.getElem?_append_left hjl]at h;have:=hI.al j hj h;exact this
   .rw[List.getElem?_append_right (by omega)]at h;by_cases e:j-x.taken.length=0
    .rw[e]at h;simp at h
    .rw[List.getElem?_eq_none (by simp;omega)]at h;simp at h
  .rw[hN]at hj;split at hj
   .cases hj;rename_i e;exact e.symm
   .exact hI.id j m hj
end
section
section
variable {κ β:Type} [DecidableEq κ]
theorem C9:∀(m:List (κ×β))(k:κ)(v:β)(j:κ),Ae (BL m k v) j=if j=k then some v else Ae m j
 | [],k,v,j=>by
  show (if k=j then some v else none)=_;by_cases h:j=k
  .rw[if_pos h.symm,if_pos h]
  .rw[if_neg (Ne.symm h),if_neg h];rfl
 |p::m,k,v,j=>by
  unfold BL;by_cases h:p.1=k
  .rw[if_pos h];show (if p.1=j then some v else Ae m j)=if j=k then some v else (if p.1=j then some p.2 else Ae m j)
   by_cases e:j=k
   .rw[if_pos e,if_pos (h.trans e.symm)]
   .rw[if_neg e,if_neg (λh'=>e (h'.symm.trans h)),if_neg (λh'=>e (h'.symm.trans h))]
  .rw[if_neg h];show (if p.1=j then some p.2 else Ae (BL m k v) j)=if j=k then some v else (if p.1=j then some p.2 else Ae m j)
   rw[C9 m k v j];by_cases e:p.1=j
   .rw[if_pos e,if_pos e,if_neg (λh'=>h (e.trans h'))]
   .rw[if_neg e,if_neg e]
def Pq(m:List (κ×β)):Prop:=(m.map (·.1)).Nodup
variable {m:List (κ×β)}
theorem Ii{k:κ}:Ae m k=none↔k∉m.map (·.1):=by
 induction m with
 |nil=>simp [Ae]
 |cons p m ih=>
  show (if p.1=k then some p.2 else Ae m k)=none↔_;by_cases h:p.1=k
  .rw[if_pos h];simp [h]
  .rw[if_neg h,ih];simp [Ne.symm h]
theorem Tu(m:List (κ×β))(k:κ)(v:β):∀j,j∈(BL m k v).map (·.1)↔j∈m.map (·.1)∨j=k:=by
 induction m with
 |nil=>intro j;simp [BL]
 |cons p m ih=>
  intro j;unfold BL;split
  .rename_i h;simp [h];intro e;exact .inl e
  .rw[List.map_cons,List.mem_cons,ih,List.map_cons,List.mem_cons];exact or_assoc.symm
theorem J5(h:Pq m)(k:κ)(v:β):Pq (BL m k v):=by
 induction m with
 |nil=>simp [BL,Pq]
 |cons p m ih=>
  obtain⟨h1,h2⟩:=List.nodup_cons.1 h;unfold BL;split
  .rename_i e;exact List.nodup_cons.2 ⟨h1,h2⟩
  .rename_i e;refine List.nodup_cons.2 ⟨λhm=>?_,ih h2⟩;rcases(Tu m k v _).1 hm with hm|hm
   .exact h1 hm
   .exact e hm
theorem Ai2(k:κ):∀j,j∈(Df m k).map (·.1)->j∈m.map (·.1):=by
 induction m with
 |nil=>intro j h;exact h
 |cons p m ih=>
  intro j h;unfold Df at h;split at h
  .exact List.mem_cons_of_mem _ h
  .rw[List.map_cons,List.mem_cons]at h ⊢;exact h.imp id (ih j)
theorem RW(h:Pq m)(k:κ):Pq (Df m k):=by
 induction m with
 |nil=>exact h
 |cons p m ih=>
  obtain⟨h1,h2⟩:=List.nodup_cons.1 h;unfold Df;split
  .exact h2
  .exact List.nodup_cons.2 ⟨λhm=>h1 (Ai2 k _ hm),ih h2⟩
theorem Ij(h:Pq m)(k j:κ):Ae (Df m k) j=if j=k then none else Ae m j:=by
 induction m with
 |nil=>simp [Df,Ae]
 |cons p m ih=>
  obtain⟨h1,h2⟩:=List.nodup_cons.1 h;unfold Df;by_cases e:p.1=k
  .rw[if_pos e];show Ae m j=if j=k then none else (if p.1=j then some p.2 else Ae m j)
   by_cases ej:j=k
   .rw[if_pos ej];exact Ii.2 (by rw[ej,<-e];exact h1)
   .rw[if_neg ej,if_neg (λh'=>ej (h'.symm.trans e))]
  .rw[if_neg e];show (if p.1=j then some p.2 else Ae (Df m k) j)=if j=k then none else (if p.1=j then some p.2 else Ae m j)
   rw[ih h2];by_cases ej:p.1=j
   .rw[if_pos ej,if_pos ej,if_neg (λh'=>e (ej.trans h'))]
   .rw[if_neg ej,if_neg ej]
end
abbrev K2:=Ah
variable {b:Nat} {x:Az} {lo hi:Int} {H:HY} {X:PX}
theorem On{Q:Int×Bool×Unit->UU}(hx:H b=some (.st BC x))(h0:Ae x.ids (⟨lo,hi⟩:K2)=none->Q (0,false,()) () H)(h1:∀i,Ae x.ids (⟨lo,hi⟩:K2)=some i->Q (i,true,()) () H):Wp Y0 DG CY (some b,lo,hi,()) H Q X:=by
 refine Rt _ _ _ _ _ _ ?_;refine⟨λh=>absurd h (by simp),λ_=>⟨b,rfl,x,hx,rfl,?_⟩⟩;cases h:Ae x.ids (⟨lo,hi⟩:K2) with
 |none=>exact h0 h
 |some i=>exact h1 i h
variable {Q:Int×Unit->UU}
theorem UW{i:Int}(hx:H b=some (.st BC x))(hn:Ae x.ids (⟨lo,hi⟩:K2)=none)(h:Q (0,()) () (Ac H b (.st BC ⟨BL x.ids (⟨lo,hi⟩:K2) i⟩))):Wp Y0 Dv CM (some b,lo,hi,i,()) H Q X:=by refine SS _ _ _ _ _ _ _ ?_;refine⟨λh=>absurd h (by simp),λ_=>⟨b,rfl,x,hx,λh'=>?_,λ_=>h⟩⟩;rw[hn]at h';simp at h'
theorem UX{i:Int}(hx:H b=some (.st BC x))(hn:Ae x.ids (⟨lo,hi⟩:K2)=some i)(h:Q (0,()) () (Ac H b (.st BC ⟨Df x.ids (⟨lo,hi⟩:K2)⟩))):Wp Y0 Ed Dt (some b,lo,hi,()) H Q X:=by refine SV _ _ _ _ _ _ ?_;refine⟨λh=>absurd h (by simp),λ_=>⟨b,rfl,x,hx,λh'=>?_,λ_=>h⟩⟩;rw[hn]at h';simp at h'
def Dh(x:AF)(v:Int):Int:=if 0<=v then (x.level[v.toNat]?).getD (-1) else -1
theorem Uu{x:AF}{v:Int}(hx:H b=some (.st CF x))(h:Q (Dh x v,()) () H):Wp Y0 G4 E6 (some b,v,()) H Q X:=by
 refine O6 _ _ _ _ _ ?_;have hv:Dh x v=if 0<=v then (x.level[v.toNat]?).getD (-1) else -1:=rfl
 refine⟨λh=>absurd h (by simp),λ_=>⟨λhn=>?_,λhn=>⟨b,rfl,x,hx,λ_=>⟨λhl=>⟨rfl,?_⟩,λhl _=>⟨λ_=>by omega,?_⟩⟩⟩⟩⟩
 .rw[if_neg (by omega)]at hv;rw[hv]at h;exact h
 .rw[if_pos (by omega),List.getElem?_eq_none (by omega)]at hv;rw[hv]at h;exact h
 .have hl':v.toNat<x.level.length:=by omega
  rw[if_pos (by omega),List.getElem?_eq_getElem hl']at hv;refine⟨hl',hl',rfl,?_⟩;rw[hv]at h;exact h
end
end Go.Proofs.YtcbkbpjlbmalmaaGreatDoor
