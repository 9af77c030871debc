/-
  slices.SortFunc at pairs of edges: laid. (Merged by program out of 4 texts.)
-/
import Derived.Test.YtcbkbpjlbmalmaaGreatDoorpam
import Derived.Deep.Slices
import Derived.Below
import Derived.ChangeOld
import Derived.ProofKit
import Derived.OpenShut
import Derived.ShutString
import Derived.FnData
import Derived.Shelf.SlSortCmp.WholeK
namespace Go.Proofs.YtcbkbpjlbmalmaaGreatDoor
open Go Go.X Go.Y
abbrev Jk:FuncId:=7
abbrev Fz:Sig:=⟨[.dat (.u 2),.dat (.u 3)],[.dat .bool]⟩
abbrev J3:FuncId:=8
abbrev G0:Sig:=⟨[.dat (.u 2)],[.dat .bool]⟩
abbrev Ih:FuncId:=9
abbrev F4:Sig:=⟨[.dat (.u 3),.dat I6],[.dat I6]⟩
abbrev Dh:FuncId:=10
abbrev Cu:Sig:=⟨[],[.dat .bool]⟩
abbrev G2:FuncId:=11
abbrev E6:Sig:=⟨[.dat (.u 2)],[.dat .ptr,.dat (.u 4),.dat .bool]⟩
abbrev Tl:FuncId:=12
abbrev Pe:Sig:=⟨[.dat .ptr,.dat (.u 4),.dat (.u 3)],[.dat I6,.dat I6]⟩
abbrev Oz:FuncId:=14
abbrev K9:Sig:=⟨[.dat .ptr],[.dat I6]⟩
abbrev Gt:FuncId:=17
abbrev E8:Sig:=⟨[.dat .ptr,.dat I6,.dat I6],[.dat .bool]⟩
abbrev To:FuncId:=18
abbrev Pg:Sig:=⟨[.dat .ptr,.dat (.u 4),.dat I6,.dat (.u 3)],[.dat I6,.dat I6]⟩
abbrev L4:FuncId:=20
abbrev Js:Sig:=⟨[.dat .ptr,.dat (.u 4),.dat .bool],[.dat I6,.dat I6]⟩
abbrev Tm:FuncId:=21
abbrev Pf:Sig:=⟨[.dat .ptr,.dat (.u 4),.dat (.sl I6),.dat .bool],[.dat I6,.dat I6]⟩
abbrev D6:FuncId:=25
abbrev Du:Sig:=⟨[.dat .ptr,.dat (.sl I6)],[.dat I6,.dat I6]⟩
abbrev Si:FuncId:=27
abbrev P1:Sig:=⟨[.dat .ptr,.dat I6,.dat I6],[.dat .bool,.dat I6]⟩
abbrev Rs:FuncId:=28
abbrev P0:Sig:=⟨[.dat .ptr,.dat (.sl I6)],[.dat I6,.dat I6]⟩
abbrev Er:FuncId:=29
abbrev D8:Sig:=⟨[.dat .ptr,.dat I6,.dat I6],[.dat .bool,.dat I6]⟩
abbrev L5:FuncId:=30
abbrev Jt:Sig:=⟨[.dat .ptr,.dat (.u 4),.dat (.u 3)],[.own (.u 10),.dat I6]⟩
abbrev D5:FuncId:=32
abbrev Df:Sig:=⟨[.dat (.sl (.u 0))],[.dat I6]⟩
abbrev W9:FuncId:=33
abbrev Tx:Sig:=⟨[.dat I6,.dat I6],[.dat .ptr,.dat I6]⟩
abbrev Kl:FuncId:=34
abbrev He:Sig:=⟨[.dat (.sl (.u 0))],[.dat I6,.dat I6]⟩
abbrev G1:FuncId:=35
abbrev E5:Sig:=⟨[.dat (.sl I6),.dat I6],[.dat .bool]⟩
abbrev Hk:FuncId:=36
abbrev Fq:Sig:=⟨[.dat I6,.dat I6,.dat (.sl (.u 1))],[.dat I6]⟩
abbrev Ahi:FuncId:=37
abbrev Abd:Sig:=⟨[.dat (.sl (.u 0))],[.dat (.u 4),.dat I6]⟩
abbrev Ir:FuncId:=38
abbrev Fw:Sig:=⟨[.dat .ptr,.dat (.sl I6)],[.dat .bool]⟩
abbrev Ti:FuncId:=39
abbrev Pb:Sig:=⟨[.dat .ptr,.dat (.sl (.u 1))],[.dat I6]⟩
abbrev Fm:FuncId:=40
abbrev Ep:Sig:=⟨[.dat .ptr,.dat (.u 4)],[.dat .ptr,.dat I6]⟩
abbrev Lh:FuncId:=41
abbrev Iz:Sig:=⟨[.dat (.sl (.u 0)),.dat (.u 3),.dat .bool],[.dat (.u 5),.dat I6]⟩
abbrev Mr:FuncId:=42
abbrev Jb:Sig:=⟨[.dat .ptr,.dat (.u 3)],[.dat I6]⟩
abbrev El:FuncId:=43
abbrev Dw:Sig:=⟨[.dat .ptr,.dat (.sl I6)],[.dat I6]⟩
abbrev Gj:FuncId:=50
abbrev Fl:Sig:=⟨[.dat .ptr],[.dat I6]⟩
abbrev J2:FuncId:=51
abbrev Gz:Sig:=⟨[.dat I6,.dat I6],[.dat .bool]⟩
abbrev Tj:FuncId:=52
abbrev Pc:Sig:=⟨[.dat .ptr,.dat I6,.dat (.sl .bool)],[.dat .bool,.dat I6]⟩
abbrev J9:FuncId:=53
abbrev Hj:Sig:=⟨[.dat (.u 4),.dat I6],[.dat (.sl I6)]⟩
abbrev Bh:FuncId:=54
abbrev Be:Sig:=⟨[.dat .ptr,.dat I6,.dat I6],[.dat I6]⟩
abbrev Amf:FuncId:=55
abbrev Abe:Sig:=⟨[.dat .ptr,.dat I6],[.dat I6,.dat I6]⟩
abbrev Cg:FuncId:=56
abbrev B8:Sig:=⟨[.dat .ptr,.fn [.ptr,(.sl I6)] [I6,I6],.dat (.sl I6)],[.dat I6]⟩
abbrev Vj:FuncId:=57
abbrev Qc:Sig:=⟨[.dat .ptr,.dat (.sl I6)],[.dat I6,.dat I6]⟩
abbrev Cw:FuncId:=59
abbrev Cj:Sig:=⟨[.dat .ptr,.dat .bool],[.dat I6]⟩
abbrev Ds:FuncId:=60
abbrev C5:Sig:=⟨[.dat .ptr,.dat (.u 3)],[.dat .mref]⟩
abbrev Cr:FuncId:=63
abbrev Ci:Sig:=⟨[.dat .ptr,.dat I6,.dat I6,.dat .bool],[.dat I6]⟩
abbrev Km:FuncId:=64
abbrev Hf:Sig:=⟨[.dat I6],[.dat I6]⟩
abbrev Ft:FuncId:=65
abbrev Eg:Sig:=⟨[.dat (.u 0)],[.dat I6]⟩
abbrev Gu:FuncId:=67
abbrev Fb:Sig:=⟨[.dat .ptr,.dat .bool],[.dat I6]⟩
abbrev Ach:FuncId:=68
abbrev Sc:Sig:=⟨[.dat (.u 4),.dat (.sl I6)],[.own .bool,.dat I6]⟩
abbrev Yr:FuncId:=69
abbrev Qo:Sig:=⟨[.dat (.u 4)],[.own I6]⟩
abbrev W8:FuncId:=70
abbrev P2:Sig:=⟨[.dat (.u 4)],[.own I6]⟩
abbrev O1:FuncId:=71
abbrev Mc:Sig:=⟨[.dat .ptr,.dat (.sl (.u 11))],[.dat I6,.dat I6]⟩
abbrev U1:FuncId:=73
abbrev Rb:Sig:=⟨[.dat .ptr,.dat I6,.fn [.ptr,I6,I6] [I6],.dat (.sl I6)],[.dat I6,.dat I6]⟩
abbrev X7:FuncId:=74
abbrev Tv:Sig:=⟨[.dat .ptr,.dat I6,.dat I6],[.dat I6]⟩
abbrev Ahg:FuncId:=76
abbrev Abc:Sig:=⟨[.dat .ptr,.fn [.ptr,I6,I6] [I6],.dat I6,.dat I6,.dat I6],[.dat .bool,.dat I6]⟩
abbrev Ahe:FuncId:=77
abbrev Abb:Sig:=⟨[.dat .ptr,.dat I6,.dat I6],[.dat I6]⟩
abbrev P7:FuncId:=79
abbrev Kf:Sig:=⟨[.dat (.u 9)],[.dat I6]⟩
abbrev W7:FuncId:=80
abbrev Sb:Sig:=⟨[.dat I6,.dat I6],[.dat .ptr,.dat I6]⟩
abbrev Ahh:FuncId:=81
abbrev Zx:Sig:=⟨[.dat I6],[.dat .ptr]⟩
abbrev Mh:FuncId:=82
abbrev Ix:Sig:=⟨[.dat .str],[.dat .bool]⟩
abbrev Dx:FuncId:=83
abbrev C7:Sig:=⟨[.dat I6],[.dat .bool]⟩
abbrev Td:FuncId:=84
abbrev O6:Sig:=⟨[.dat (.sl (.u 0))],[.dat I6,.dat I6]⟩
abbrev Aah:FuncId:=85
abbrev Ut:Sig:=⟨[.dat I6],[.dat I6]⟩
abbrev Te:FuncId:=86
abbrev O7:Sig:=⟨[.dat (.u 0)],[.dat I6]⟩
abbrev Rt:FuncId:=87
abbrev Ns:Sig:=⟨[.dat .ptr],[.own I6]⟩
abbrev L3:FuncId:=88
abbrev Jr:Sig:=⟨[.dat .ptr,.dat I6],[.dat I6]⟩
abbrev Mq:FuncId:=89
abbrev Ja:Sig:=⟨[.dat (.u 4)],[.dat I6]⟩
abbrev Th:FuncId:=90
abbrev Pa:Sig:=⟨[.dat (.u 3)],[.dat I6]⟩
abbrev Jv:FuncId:=91
abbrev Ho:Sig:=⟨[.dat (.sl (.u 0)),.map .str (.int .i64),.dat (.u 3),.dat .bool],[.dat (.u 5),.dat I6]⟩
abbrev Tg:FuncId:=92
abbrev O9:Sig:=⟨[.dat (.sl (.u 0))],[.map .str (.int .i64)]⟩
abbrev Je:FuncId:=96
abbrev Gp:Sig:=⟨[.dat (.u 4),.dat .str],[.dat I6]⟩
abbrev Amg:FuncId:=98
abbrev Abf:Sig:=⟨[.dat .ptr,.dat I6],[.dat I6,.dat I6]⟩
abbrev G6:FuncId:=109
abbrev E4:Sig:=⟨[.dat (.sl I6),.dat I6],[.dat .bool]⟩
abbrev Ht:FuncId:=110
abbrev Gg:Sig:=⟨[.dat .ptr,.dat (.sl I6)],[.dat I6]⟩
abbrev Ml:FuncId:=119
abbrev I5:Sig:=⟨[.dat .ptr],[.dat I6]⟩
abbrev Lq:FuncId:=120
abbrev Ia:Sig:=⟨[.dat I6],[.dat I6]⟩
abbrev Fh:FuncId:=122
abbrev Ej:Sig:=⟨[.dat .ptr,.dat I6],[.dat I6,.dat I6,.dat I6,.dat .bool]⟩
abbrev Li:FuncId:=123
abbrev Ip:Sig:=⟨[.dat (.u 4),.dat I6],[.dat (.sl I6)]⟩
abbrev Cl:FuncId:=124
abbrev Cb:Sig:=⟨[.dat .ptr,.dat I6],[.dat I6]⟩
abbrev Sj:FuncId:=125
abbrev P3:Sig:=⟨[.dat .ptr,.fn [.ptr] [I6]],[.dat I6,.dat I6]⟩
abbrev Hm:FuncId:=127
abbrev Gh:Sig:=⟨[.dat .ptr,.dat I6,.dat I6,.dat I6],[.dat I6]⟩
abbrev Ao:FuncId:=128
abbrev Al:Sig:=⟨[.dat .ptr,.dat (.sl I6)],[]⟩
abbrev Jw:FuncId:=131
abbrev Hq:Sig:=⟨[.dat .ptr,.dat I6],[.dat I6,.dat I6]⟩
abbrev N3:FuncId:=132
abbrev Kg:Sig:=⟨[.dat .ptr,.dat .bool],[.dat I6]⟩
abbrev Kr:FuncId:=133
abbrev Iq:Sig:=⟨[.dat (.u 0)],[.dat I6,.dat I6]⟩
abbrev C0:FuncId:=134
abbrev Cp:Sig:=⟨[.dat .ptr,.dat .mref,.dat I6,.dat I6],[]⟩
abbrev Ms:FuncId:=135
abbrev Jc:Sig:=⟨[.dat .ptr,.dat (.u 3),.dat (.u 3),.fn [I6,I6,I6] []],[]⟩
abbrev Gf:FuncId:=136
abbrev Eu:Sig:=⟨[.dat I6,.dat I6,.dat I6,.del (.u 3),.del .ptr,.dat .ptr],[]⟩
abbrev Di:FuncId:=138
abbrev Cv:Sig:=⟨[.own I6],[]⟩
abbrev Bl:FuncId:=139
abbrev Bg:Sig:=⟨[.fn [I6] [.bool],.del .mref],[]⟩
abbrev Tk:FuncId:=143
abbrev Pd:Sig:=⟨[.dat .ptr,.dat (.sl (.u 11))],[.dat I6]⟩
abbrev Acj:FuncId:=144
abbrev Uw:Sig:=⟨[.dat .ptr,.del (.sl (.u 11))],[.dat I6]⟩
abbrev Ew:FuncId:=145
abbrev D9:Sig:=⟨[.dat .ptr,.dat I6],[.dat I6]⟩
abbrev Acg:FuncId:=146
abbrev Us:Sig:=⟨[.dat .ptr,.del (.int .i64),.del (.sl I6),.fbx [.ptr,I6,I6] [I6]],[.dat I6]⟩
abbrev Jx:FuncId:=147
abbrev Hr:Sig:=⟨[.dat .ptr,.dat I6],[.dat I6]⟩
abbrev Ec:FuncId:=148
abbrev Dv:Sig:=⟨[.dat .ptr,.dat I6,.dat I6,.dat I6],[.dat I6]⟩
abbrev Za:FuncId:=149
abbrev Sz:Sig:=⟨[.dat .ptr,.fn [.ptr] []],[.dat I6]⟩
abbrev Ahf:FuncId:=150
abbrev Zw:Sig:=⟨[.dat .ptr,.del (.int .i64),.fbx [.ptr,I6,I6] [I6],.del (.int .i64),.del (.int .i64),.dat .ptr],[]⟩
abbrev Aag:FuncId:=151
abbrev Uq:Sig:=⟨[.dat I6],[.dat .ptr,.dat I6]⟩
abbrev Q2:FuncId:=152
abbrev Np:Sig:=⟨[.dat I6],[.own I6]⟩
abbrev Lp:FuncId:=155
abbrev Hz:Sig:=⟨[.dat .str,.dat I6,.dat .bool],[.dat I6]⟩
abbrev J1:FuncId:=156
abbrev Gy:Sig:=⟨[.dat (.sl .str),.dat .str],[.dat .bool]⟩
abbrev Oo:FuncId:=157
abbrev Jz:Sig:=⟨[],[.own .str]⟩
abbrev Qh:FuncId:=158
abbrev L6:Sig:=⟨[.dat (.u 0),.dat .ptr],[.dat .bool]⟩
abbrev X8:FuncId:=159
abbrev Tw:Sig:=⟨[.dat .str],[.dat .bool]⟩
abbrev B7:FuncId:=160
abbrev Bo:Sig:=⟨[.dat (.sl (.u 0)),.fn [(.u 0)] [.bool]],[.dat .bool]⟩
abbrev F7:FuncId:=161
abbrev Ey:Sig:=⟨[.dat .ptr],[.own I6]⟩
abbrev Hl:FuncId:=162
abbrev Fx:Sig:=⟨[.dat .ptr],[]⟩
abbrev Ff:FuncId:=163
abbrev Ed:Sig:=⟨[.dat .ptr,.dat I6],[.dat I6]⟩
abbrev Ny:FuncId:=164
abbrev K6:Sig:=⟨[.dat (.u 3),.dat I6,.fn [(.u 3),I6] [.bool]],[.dat .bool]⟩
abbrev L8:FuncId:=165
abbrev Ji:Sig:=⟨[.dat (.u 3),.dat I6,.dat .ptr,.dat .ptr],[.dat .bool]⟩
abbrev Tf:FuncId:=166
abbrev O8:Sig:=⟨[.dat (.u 3)],[.dat I6]⟩
abbrev Lg:FuncId:=167
abbrev Iy:Sig:=⟨[.dat (.sl (.u 0)),.map .str (.int .i64),.dat (.u 3),.dat .bool,.dat (.sl (.u 5))],[.dat (.u 5),.dat I6]⟩
abbrev Pp:FuncId:=168
abbrev Ly:Sig:=⟨[.dat .ptr,.dat I6],[.dat I6]⟩
abbrev G9:FuncId:=169
abbrev F3:Sig:=⟨[.dat I6],[.dat I6]⟩
abbrev Jd:FuncId:=173
abbrev Gb:Sig:=⟨[.dat (.sl I6),.dat I6],[.dat I6]⟩
abbrev Mp:FuncId:=174
abbrev I9:Sig:=⟨[.dat .ptr,.dat I6],[.dat I6]⟩
abbrev Bf:FuncId:=183
abbrev Bc:Sig:=⟨[.dat .ptr,.dat I6],[.dat (.u 13),.dat .bool]⟩
abbrev Kq:FuncId:=186
abbrev Hg:Sig:=⟨[.dat .ptr,.dat I6],[.dat I6]⟩
abbrev Q3:FuncId:=187
abbrev Nr:Sig:=⟨[.dat .ptr,.fn [.ptr] []],[.dat I6]⟩
abbrev Zb:FuncId:=188
abbrev S8:Sig:=⟨[.dat .ptr,.fbx [.ptr] [I6],.dat .ptr],[]⟩
abbrev Fg:FuncId:=189
abbrev Ei:Sig:=⟨[.dat .ptr,.dat I6],[.dat .bool]⟩
abbrev Iu:FuncId:=190
abbrev Gl:Sig:=⟨[.dat .ptr,.dat I6,.dat I6,.dat I6],[.dat I6,.dat I6]⟩
abbrev Aaj:FuncId:=196
abbrev Uv:Sig:=⟨[.dat I6,.dat I6,.dat I6],[.dat I6,.dat I6,.dat I6,.dat .bool,.dat I6,.dat .bool]⟩
abbrev Jn:FuncId:=197
abbrev G8:Sig:=⟨[.dat .ptr,.dat I6,.dat I6,.dat I6,.dat I6],[.dat I6,.dat .bool]⟩
abbrev N4:FuncId:=198
abbrev Lb:Sig:=⟨[.dat .ptr,.dat (.sl I6)],[.dat I6]⟩
abbrev Dr:FuncId:=199
abbrev Db:Sig:=⟨[.dat .ptr,.dat I6,.dat I6],[.dat I6,.dat I6]⟩
abbrev Jm:FuncId:=200
abbrev G7:Sig:=⟨[.dat .ptr,.dat I6,.dat I6,.dat I6,.dat I6,.dat I6],[]⟩
abbrev Aai:FuncId:=203
abbrev Uu:Sig:=⟨[.dat .str,.fn [(.int .u8)] [.bool]],[.dat I6]⟩
abbrev Po:FuncId:=204
abbrev Lw:Sig:=⟨[.dat (.int .u8)],[.dat .bool]⟩
abbrev E1:FuncId:=205
abbrev Dq:Sig:=⟨[.dat (.sl .str),.dat .str],[.dat .bool]⟩
abbrev Dn:FuncId:=206
abbrev Cd:Sig:=⟨[.dat (.sl (.u 0)),.fn [(.u 0)] [.bool]],[.dat I6]⟩
abbrev D7:FuncId:=207
abbrev Dg:Sig:=⟨[.dat .ptr],[.dat I6]⟩
abbrev Mj:FuncId:=208
abbrev I4:Sig:=⟨[.dat .ptr,.dat I6,.dat I6],[.dat (.sl (.u 16))]⟩
abbrev Lt:FuncId:=209
abbrev Ie:Sig:=⟨[.dat .ptr,.dat I6,.dat (.sl (.u 16))],[.dat I6]⟩
abbrev Mm:FuncId:=210
abbrev I7:Sig:=⟨[.dat .ptr],[.dat I6]⟩
abbrev N0:FuncId:=211
abbrev J6:Sig:=⟨[.dat .ptr],[.dat I6]⟩
abbrev Ls:FuncId:=212
abbrev Ic:Sig:=⟨[.dat .ptr,.dat I6],[]⟩
abbrev Gm:FuncId:=213
abbrev E9:Sig:=⟨[.dat .ptr,.dat I6,.dat I6],[.dat I6]⟩
abbrev D3:FuncId:=214
abbrev Dd:Sig:=⟨[.dat .ptr,.dat I6,.dat I6,.dat I6],[.dat I6]⟩
abbrev B9:FuncId:=215
abbrev B3:Sig:=⟨[.dat .ptr,.dat I6],[]⟩
abbrev Cy:FuncId:=216
abbrev Co:Sig:=⟨[.dat .ptr,.dat (.u 13)],[.dat I6]⟩
abbrev Fe:FuncId:=217
abbrev Eh:Sig:=⟨[.dat .ptr,.dat I6,.dat I6,.dat I6],[.dat I6]⟩
abbrev Ca:FuncId:=218
abbrev B4:Sig:=⟨[.dat .ptr,.dat I6],[]⟩
abbrev Q1:FuncId:=219
abbrev No:Sig:=⟨[.dat I6],[.dat I6,.dat I6]⟩
abbrev Dm:FuncId:=220
abbrev C8:Sig:=⟨[.dat I6,.dat I6],[.dat (.u 5),.dat I6]⟩
abbrev Kn:FuncId:=221
abbrev Im:Sig:=⟨[.dat (.sl (.u 5))],[.dat (.u 5),.dat I6]⟩
abbrev Ox:FuncId:=222
abbrev K7:Sig:=⟨[.dat I6,.dat (.u 5),.dat (.u 5)],[.dat (.u 5),.dat I6]⟩
abbrev Mo:FuncId:=223
abbrev I8:Sig:=⟨[.dat .ptr,.dat I6],[.dat I6]⟩
abbrev Ko:FuncId:=226
abbrev Io:Sig:=⟨[.dat .ptr,.dat I6],[.dat .bool]⟩
abbrev Aci:FuncId:=227
abbrev Nq:Sig:=⟨[.dat .ptr,.fn [.ptr] []],[.dat (.u 15),.dat .bool]⟩
abbrev Qi:FuncId:=228
abbrev L7:Sig:=⟨[.dat .ptr,.dat (.u 1)],[]⟩
abbrev O0:FuncId:=229
abbrev La:Sig:=⟨[.dat .ptr],[.dat I6]⟩
abbrev Ii:FuncId:=230
abbrev F5:Sig:=⟨[.dat .ptr,.dat I6,.dat I6],[.dat .bool]⟩
abbrev Fy:FuncId:=232
abbrev Et:Sig:=⟨[.dat .ptr,.dat I6,.dat I6],[.dat I6,.dat .bool]⟩
abbrev J8:FuncId:=233
abbrev Hh:Sig:=⟨[.dat .ptr,.dat I6,.dat I6,.dat I6],[.dat I6,.dat I6]⟩
abbrev Bx:FuncId:=235
abbrev Bp:Sig:=⟨[.fn [I6] [.bool],.del .mref],[]⟩
abbrev Jl:FuncId:=249
abbrev F1:Sig:=⟨[.dat (.sl .str),.dat .str],[.dat I6]⟩
abbrev It:FuncId:=251
abbrev Gk:Sig:=⟨[.dat .ptr,.dat I6],[.dat I6]⟩
abbrev Ij:FuncId:=253
abbrev F6:Sig:=⟨[.dat .ptr,.dat I6,.dat I6],[.dat I6,.dat I6]⟩
abbrev T8:FuncId:=254
abbrev Ou:Sig:=⟨[.dat .ptr],[.dat I6]⟩
abbrev Vi:FuncId:=255
abbrev Qb:Sig:=⟨[.dat .ptr],[.dat I6]⟩
abbrev Xa:FuncId:=256
abbrev Acf:FuncId:=257
abbrev Ur:Sig:=⟨[.dat (.sl I6),.dat (.sl I6)],[.own I6,.dat I6]⟩
abbrev Aej:FuncId:=258
abbrev Wh:Sig:=⟨[.dat (.sl I6)],[.own I6]⟩
abbrev Oy:FuncId:=259
abbrev K8:Sig:=⟨[.dat .ptr,.dat (.u 13)],[.dat I6,.dat I6]⟩
abbrev Mi:FuncId:=266
abbrev I1:Sig:=⟨[.fn [(.u 13)] [.bool],.del .ptr],[]⟩
abbrev Lr:FuncId:=268
abbrev Ib:Sig:=⟨[.fn [(.u 17),I6] [.bool],.del .ptr],[]⟩
abbrev Nz:FuncId:=278
abbrev J5:Sig:=⟨[.fn [I6] [.bool],.del .ptr],[]⟩
abbrev Eo:Nat:=0
abbrev C3:Nat:=1
abbrev Eb:Nat:=2
abbrev A8:Nat:=3
abbrev Da:Nat:=4
abbrev Ek:Nat:=6
abbrev Ct:Nat:=7
abbrev Dk:Nat:=8
abbrev W0:Nat:=9
abbrev Ak:Nat:=15
abbrev Ld:Nat:=23
abbrev Aq:Nat:=35
abbrev Gr:Nat:=44
abbrev E0:Nat:=46
abbrev Bm:Nat:=48
def sgL:List (FuncId×Sig):=[(7,Fz),(8,G0),(9,F4),(10,Cu),(11,E6),(12,Pe),(14,K9),(17,E8),(18,Pg),(20,Js),(21,Pf),(25,Du),(27,P1),(28,P0),(29,D8),(30,Jt),(32,Df),(33,Tx),(34,He),(35,E5),(36,Fq),(37,Abd),(38,Fw),(39,Pb),(40,Ep),(41,Iz),(42,Jb),(43,Dw),(50,Fl),(51,Gz),(52,Pc),(53,Hj),(54,Be),(55,Abe),(56,B8),(57,Qc),(59,Cj),(60,C5),(63,Ci),(64,Hf),(65,Eg),(67,Fb),(68,Sc),(69,Qo),(70,P2),(71,Mc),(73,Rb),(74,Tv),(76,Abc),(77,Abb),(79,Kf),(80,Sb),(81,Zx),(82,Ix),(83,C7),(84,O6),(85,Ut),(86,O7),(87,Ns),(88,Jr),(89,Ja),(90,Pa),(91,Ho),(92,O9),(96,Gp),(98,Abf),(109,E4),(110,Gg),(119,I5),(120,Ia),(122,Ej),(123,Ip),(124,Cb),(125,P3),(127,Gh),(128,Al),(131,Hq),(132,Kg),(133,Iq),(134,Cp),(135,Jc),(136,Eu),(138,Cv),(139,Bg),(143,Pd),(144,Uw),(145,D9),(146,Us),(147,Hr),(148,Dv),(149,Sz),(150,Zw),(151,Uq),(152,Np),(155,Hz),(156,Gy),(157,Jz),(158,L6),(159,Tw),(160,Bo),(161,Ey),(162,Fx),(163,Ed),(164,K6),(165,Ji),(166,O8),(167,Iy),(168,Ly),(169,F3),(173,Gb),(174,I9),(183,Bc),(186,Hg),(187,Nr),(188,S8),(189,Ei),(190,Gl),(196,Uv),(197,G8),(198,Lb),(199,Db),(200,G7),(203,Uu),(204,Lw),(205,Dq),(206,Cd),(207,Dg),(208,I4),(209,Ie),(210,I7),(211,J6),(212,Ic),(213,E9),(214,Dd),(215,B3),(216,Co),(217,Eh),(218,B4),(219,No),(220,C8),(221,Im),(222,K7),(223,I8),(226,Io),(227,Nq),(228,L7),(229,La),(230,F5),(232,Et),(233,Hh),(235,Bp),(249,F1),(251,Gk),(253,F6),(254,Ou),(255,Qb),(257,Ur),(258,Wh),(259,K8),(266,I1),(268,Ib),(278,J5)]
def lkG:List (FuncId×Sig)->FuncId->Option Sig
 | [],_=>none
 |p::l,i=>if p.1=i then some p.2 else lkG l i
def sg:FuncId->Option Sig:=lkG sgL
def A9s:List (TypeId×(List Ty×List Ty)):=[(1,[],[]),(30,[(.u 2)],[.bool]),(31,[(.u 3),I6],[I6]),(32,[],[.bool]),(37,[(.u 2)],[.ptr,(.u 4),.bool]),(40,[.ptr,(.u 4),(.u 3)],[I6,I6]),(44,[(.sl (.u 0)),(.u 3),.bool],[(.u 5),I6]),(45,[],[I6]),(46,[(.u 2)],[I6]),(48,[(.sl (.u 0)),(.u 3),I6],[I6,.bool]),(49,[.ptr,I6,I6],[.bool]),(50,[(.u 2),(.u 3)],[.bool]),(51,[.ptr,(.u 4),I6,(.u 3)],[I6,I6]),(56,[(.sl (.u 0)),I6,.bool],[(.sl I6),(.sl .bool)]),(57,[(.u 2),I6,(.u 3)],[.bool]),(58,[.ptr,(.u 4),.bool],[I6,I6]),(59,[.ptr,(.u 4),(.sl I6),.bool],[I6,I6]),(60,[(.u 9),(.sl I6)],[.bool]),(65,[(.sl (.u 0)),I6,.bool],[.bool]),(66,[(.sl (.u 0)),(.sl I6),I6,.bool],[.bool]),(67,[(.u 2),(.sl I6),.bool],[.bool]),(68,[.ptr,(.sl I6)],[I6,I6]),(70,[(.u 9),I6],[(.sl (.sl I6))]),(72,[.ptr,I6,I6],[.bool,I6]),(73,[I6,I6],[.bool,I6]),(76,[.ptr,(.u 4),(.u 3)],[(.sl (.u 10)),I6]),(79,[(.sl (.u 0))],[I6]),(81,[I6,I6],[.ptr,I6]),(83,[(.sl (.u 0))],[I6,I6]),(84,[(.sl I6),I6],[.bool]),(85,[I6,I6,(.sl (.u 1))],[I6]),(89,[(.sl (.u 0))],[(.u 4),I6]),(90,[.ptr,(.sl I6)],[.bool]),(91,[(.sl (.u 1))],[I6]),(94,[.ptr,(.u 4)],[.ptr,I6]),(96,[(.sl (.u 0)),(.u 3),.bool],[(.u 5),I6]),(97,[(.u 3)],[I6]),(98,[(.sl I6)],[I6]),(104,[.bool,I6],[(.sl .bool)]),(107,[(.u 3)],[(.sl .str),(.sl .str)]),(109,[(.sl (.u 0)),(.sl I6),(.sl .bool),(.sl .str)],[(.sl I6),.bool]),(110,[(.sl (.u 0)),(.u 3),(.sl I6),(.sl I6)],[I6,.bool]),(111,[I6,I6],[.bool]),(112,[I6,(.sl .bool)],[.bool,I6]),(113,[I6],[(.sl I6)]),(117,[I6,I6],[I6]),(118,[I6],[I6,I6]),(120,[.ptr,I6,I6],[I6,I6]),(121,[.bool],[I6]),(123,[(.u 3)],[.mref]),(128,[I6,I6,.bool],[I6]),(129,[I6],[I6]),(130,[(.u 0)],[I6]),(132,[(.sl I6)],[(.sl .bool),I6]),(133,[],[(.sl I6)]),(137,[.ptr,(.sl (.u 11))],[I6,I6]),(138,[(.sl .bool)],[.bool]),(141,[.ptr,I6,I6],[I6]),(142,[(.u 9)],[I6,.bool]),(145,[(.u 9)],[I6]),(147,[I6,I6],[.ptr,I6]),(148,[I6],[.ptr]),(149,[.str],[.bool]),(150,[I6],[.bool]),(151,[(.sl (.u 0))],[I6,I6]),(152,[I6],[I6]),(153,[(.u 3)],[I6]),(158,[.str],[I6]),(159,[I6,I6,I6],[I6,I6]),(161,[(.u 3)],[.bool]),(162,[(.u 3),I6,I6],[I6,I6]),(163,[I6,I6],[(.u 5),I6]),(164,[(.sl (.u 0)),.str],[I6]),(166,[(.u 3),(.sl (.u 5))],[(.u 5),I6]),(167,[(.u 3),I6,(.sl .str)],[(.sl .str)]),(168,[(.sl (.u 0)),(.sl .str),I6],[.bool]),(170,[I6],[I6,I6,I6,.bool]),(173,[I6,I6,I6],[I6]),(174,[.ptr],[I6]),(175,[(.sl I6)],[]),(177,[(.u 0)],[I6,I6]),(179,[.mref,I6,I6],[]),(181,[I6,I6,I6],[]),(182,[(.sl I6)],[]),(185,[(.u 4),I6],[(.sl I6)]),(186,[.ptr,(.sl (.u 11))],[I6]),(187,[.ptr,I6,I6],[I6]),(188,[I6],[I6]),(189,[I6,I6,I6],[I6]),(191,[.ptr],[]),(194,[I6],[.ptr,I6]),(202,[],[.ptr]),(206,[(.int .u8)],[.bool]),(207,[.str,I6,.bool],[I6]),(208,[(.sl .str),.str],[.bool]),(209,[],[(.sl .str)]),(210,[(.u 0)],[.bool]),(213,[(.u 3),I6],[.bool]),(215,[I6],[I6]),(216,[],[I6]),(217,[(.sl I6),I6],[I6]),(218,[I6],[I6]),(219,[(.sl (.u 5))],[.bool]),(220,[(.u 5),(.u 5)],[I6,I6]),(221,[(.sl .str),.str],[(.sl .str)]),(225,[I6],[(.u 13),.bool]),(226,[.bool],[I6]),(227,[I6],[.bool]),(233,[I6,I6,I6],[I6,I6]),(235,[(.sl I6),I6,I6,I6],[]),(236,[(.int .u64)],[I6]),(239,[I6,I6,I6],[I6,I6,I6,.bool,I6,.bool]),(240,[I6,I6,I6,I6],[I6,.bool]),(241,[(.sl I6)],[I6]),(243,[I6,I6],[I6,I6]),(244,[I6,I6,I6,I6,I6],[]),(255,[I6,I6],[(.sl (.u 16))]),(256,[I6,(.sl (.u 16))],[I6]),(257,[I6],[]),(260,[I6,I6],[I6]),(261,[I6],[]),(262,[(.u 13)],[I6]),(263,[I6,I6,I6],[I6]),(264,[I6],[I6,I6]),(265,[I6,I6],[(.u 5),I6]),(266,[(.sl (.u 5))],[(.u 5),I6]),(267,[I6,(.u 5),(.u 5)],[(.u 5),I6]),(270,[(.u 1)],[]),(271,[I6,I6],[.bool]),(273,[I6,I6],[I6,I6,.bool]),(274,[I6,I6],[I6,.bool]),(275,[I6,I6,I6],[I6,I6]),(276,[I6,.bool],[I6]),(277,[(.sl I6),I6,I6],[]),(280,[(.sl I6),I6,I6],[I6,I6]),(281,[(.sl I6),I6,I6],[.bool]),(282,[(.sl I6),I6,I6,I6],[I6]),(283,[(.sl I6),I6,I6,I6],[I6,.bool]),(284,[(.int .u32)],[I6]),(286,[(.int .u64)],[I6]),(287,[I6],[I6]),(293,[(.u 19)],[.ptr]),(297,[(.sl .str),.str],[I6]),(307,[(.sl I6),(.sl I6)],[(.sl I6),I6]),(308,[(.sl I6)],[(.sl I6)]),(309,[(.u 13)],[I6,I6]),(311,[I6],[(.int .u64)]),(312,[],[(.int .u64)]),(313,[(.sl I6),I6,.ptr],[I6]),(315,[(.sl I6),I6,I6,I6,.ptr],[I6]),(316,[(.u 13)],[.bool]),(318,[(.u 17),I6],[.bool]),(320,[(.sl I6)],[I6]),(321,[I6,I6],[I6]),(322,[I6,I6],[I6]),(323,[(.u 17),(.u 17)],[I6]),(324,[(.sl I6)],[.bool]),(326,[(.sl I6),I6,I6,.ptr],[I6,I6]),(337,[],[.str])]
def lkT:List (TypeId×(List Ty×List Ty))->TypeId->Option (List Ty×List Ty)
 | [],_=>none
 |p::l,i=>if p.1=i then some p.2 else lkT l i
def Adt:TypeId->Option (List Ty×List Ty):=lkT A9s
end Go.Proofs.YtcbkbpjlbmalmaaGreatDoor
namespace Go.Proofs.YtcbkbpjlbmalmaaGreatDoor
open Go Go.X Go.Y Go.RowKit Go.ChangeShapes Go.WideShapes Go.ChangeAt Go.Deep
section
def Aib(w:World):Reg:=λb=>b<w.heap.size
theorem Aib.st(w:World):St (Aib w) w []:=⟨λ_ h=>h,λ_ h=>by simp at h,List.nodup_nil⟩
theorem A6z{I':Reg}{w w':World}(h:Ext (Aib w) w I' w'):Below w.heap.size w w':=⟨h.os,h.tape,h.output,h.size,λk hk=>h.Cq k hk⟩
theorem Auj{w:World}{base:Nat}{a:Addr}{n:Nat}{v:Value}(ha:a.spot=none)(h:w.cells? base a n=some v.cells.toList):E3 w a v:=by
 obtain⟨_,hn,h1⟩:=World.cells?_some h;refine⟨ha,λj hj=>?_⟩;have h2:=h1 j (by rw[<-hn];simpa using hj);rw[Array.getElem?_toList]at h2;rw[<-h2];obtain⟨b,o,s⟩:=a;obtain rfl:s=none:=ha;by_cases hj0:j=0
 .subst hj0;rfl
 .simp [Addr.add,hj0]
theorem Azf{α:Type}{n:Nat}{p:Nat->α->Prop}(h:∀i,i<n->∃x,p i x):∃xs:List α,xs.length=n/\∀i(hi:i<xs.length),p i xs[i]:=by
 induction n with
 |zero=>exact⟨[],rfl,λi hi=>by simp at hi⟩
 |succ n ih=>
  obtain⟨xs,hl,hp⟩:=ih (λi hi=>h i (by omega));obtain⟨x,hx⟩:=h n (by omega);refine⟨xs++[x],by simp [hl],λi hi=>?_⟩;by_cases hk:i<xs.length
  .rw[List.getElem_append_left hk];exact hp i hk
  .have:i=n:=by simp at hi;omega
   subst this;rw[List.getElem_append_right (by omega)];simpa [hl] using hx
set_option maxRecDepth 100000
noncomputable abbrev US0:US:=Y0.toUS
def RdF(n:Nat)(t:TypeId)(T:Ty):Prop:=∀{H:Type}{enc:TypeId×Value->H}{w:World}{base:Nat}{sp:Nat->Bool}{held:Bool}{cs:List Value}{x:DataW H×List MemPlace},DataW.trod enc Tryz.prog w base sp held n t cs=some x->∃v,∃y:den US0.D T,cs=v.cells.toList/\rp US0 T (Aib w) w v y
theorem Wn{n:Nat}{t:TypeId}(ht:Tryz.prog.underlying t=some (.int .i64)):RdF n t (.int .i64):=λh=>by obtain⟨m,rfl,_,hw⟩:=DataW.trod_int ht h;refine⟨_,m,rfl,Bq.2 ⟨rfl,?_⟩⟩;simp [Lit.wf,IntKind.min,IntKind.max,IntKind.signed,IntKind.bits]at hw;exact Bk.2 (by omega)
theorem A0t{n:Nat}{t:TypeId}(ht:Tryz.prog.underlying t=some .bool):RdF n t .bool:=λh=>by obtain⟨m,rfl,_⟩:=DataW.trod_bool ht h;exact⟨_,m,rfl,Nt.2 rfl⟩
theorem Awt{n:Nat}{t:TypeId}(ht:Tryz.prog.underlying t=some .string):RdF n t .str:=λh=>by obtain⟨m,rfl,_,hw⟩:=DataW.trod_string ht h;exact⟨_,m,rfl,Ta.2 ⟨rfl,by simp only[maxLen]at hw;unfold Vw;omega⟩⟩
theorem Anv{n:Nat}{t e:TypeId}{T:Ty}(ht:Tryz.prog.underlying t=some (.slice e))(hc:Tryz.prog.cellsOf e=sz US0 T)(he:∀m,m<n->RdF m e T){H:Type}{enc:TypeId×Value->H}{w:World}{base:Nat}{sp:Nat->Bool}{held:Bool}{cs:List Value}{x:DataW H×List MemPlace}(h:DataW.trod enc Tryz.prog w base sp held n t cs=some x):∃v,∃y:List (den US0.D T),cs=v.cells.toList/\rp US0 (.sl T) (Aib w) w v y/\(y=[]∨∃es rs,x.1=.slice es rs/\es.length=y.length):=by
 rcases DataW.trod_slice ht h with ⟨rfl,_⟩|⟨a,len,cap,elems,rest,m,rfl,rfl,rfl,hb,hl,hm,hlen,hel,_,_⟩
 .exact⟨.slice none 0 0,[],rfl,Abg.2 ⟨none,0,rfl,Nat.le_refl _,by decide,.inl rfl⟩,.inl rfl⟩
 .have key:∀i,i<len->∃y:den US0.D T,(a.add (i*sz US0 T)).spot=none/\a.block<w.heap.size/\∃v,rp US0 T (Aib w) w v y/\E3 w ⟨a.block,a.off+i*sz US0 T,none⟩ v:=by
   intro i hi;have hh:=hel i hi;rw[List.getElem?_eq_getElem (by omega)]at hh;obtain⟨cs',h1,h2⟩:=Option.bind_eq_some_iff.1 hh;obtain⟨v,y,rfl,r⟩:=he m (Nat.lt_succ_self _) h2;rw[hc]at h1;obtain⟨hbb,hn,h3⟩:=World.cells?_some h1;have hp:=Awf (S:=US0) T;obtain⟨c0,h4⟩:∃c0,v.cells.toList[0]?=some c0:=⟨_,List.getElem?_eq_getElem (by omega)⟩
   have h5:=(h3 0 hp).trans h4;have h6:(a.add (i*sz US0 T)).spot=none:=by have:=World.cell?_spot h5;simpa [Addr.add] using this
   have hblk:a.block<w.heap.size:=by have:=World.cells?_block h1 hp;unfold Addr.add at this;split at this<;>exact this
   have h7:(⟨a.block,a.off+i*sz US0 T,none⟩:Addr)=a.add (i*sz US0 T):=by
    obtain⟨b,o,s⟩:=a;by_cases hz:i*sz US0 T=0
    .rw[hz]at h6 ⊢;simp [Addr.add]at h6 ⊢;exact h6.symm
    .simp [Addr.add,hz]
   exact⟨y,h6,hblk,v,r,h7▸Auj h6 h1⟩
  obtain⟨xs,hn,hp⟩:=Azf key;refine⟨.slice (some a) len cap,xs,rfl,Abg.2 ⟨some a,cap,by rw[hn],by omega,by simp only[maxLen]at hm;unfold Vw;omega,?_⟩,.inr ⟨_,_,rfl,by rw[List.length_map,hlen,hn]⟩⟩;by_cases h0:xs=[]
  .exact .inl h0
  .have hl0:0<xs.length:=List.length_pos_iff.2 h0;obtain⟨hs,hk,_⟩:=hp 0 hl0;refine .inr ⟨a.block,a.off,?_,hk,λj hj=>(hp j hj).2.2⟩;rw[Nat.zero_mul]at hs;obtain⟨b,o,s⟩:=a;exact congrArg some (by rw[show s=none from hs])
theorem Alh{n:Nat}{t e:TypeId}{T:Ty}(ht:Tryz.prog.underlying t=some (.slice e))(hc:Tryz.prog.cellsOf e=sz US0 T)(he:∀m,m<n->RdF m e T):RdF n t (.sl T):=λh=>by obtain⟨v,y,h1,h2,_⟩:=Anv ht hc he h;exact⟨v,y,h1,h2⟩
theorem Au2{α:Type}{l:List α}(h:l.length=4):∃a b c d,l=[a,b,c,d]:=by
 match l,h with
 | [a,b,c,d],_=>exact⟨a,b,c,d,rfl⟩
theorem A5k{α:Type}{l:List α}(h:l.length=3):∃a b c,l=[a,b,c]:=by
 match l,h with
 | [a,b,c],_=>exact⟨a,b,c,rfl⟩
section
variable {H:Type} {enc:TypeId×Value->H} {w:World} {base:Nat} {sp:Nat->Bool} {held:Bool} {n:Nat} {t:TypeId} {fs:Array Field} {cs:List Value} {x:DataW H×List MemPlace} {t0 t1 t2 t3:TypeId}
theorem Ajw(ht:Tryz.prog.underlying t=some (.struct fs))(hc:Tryz.prog.cellsOf t=4)(hs:fs.toList.map (λf=>(f.offset,f.type))=[(0,t0),(1,t1),(2,t2),(3,t3)])(c0:Tryz.prog.cellsOf t0=1)(c1:Tryz.prog.cellsOf t1=1)(c2:Tryz.prog.cellsOf t2=1)(c3:Tryz.prog.cellsOf t3=1)(h:DataW.trod enc Tryz.prog w base sp held n t cs=some x):∃m a b c d x0 x1 x2 x3,n=m+1/\cs=[a,b,c,d]/\x.1=.agg [x0.1,x1.1,x2.1,x3.1]/\DataW.trod enc Tryz.prog w base sp held m t0 [a]=some x0/\DataW.trod enc Tryz.prog w base sp held m t1 [b]=some x1/\DataW.trod enc Tryz.prog w base sp held m t2 [c]=some x2/\DataW.trod enc Tryz.prog w base sp held m t3 [d]=some x3:=by obtain⟨xs,m,rfl,rfl,hl,hx,key⟩:=DataW.trod_struct ht h;obtain⟨l⟩:=fs;obtain⟨f0,f1,f2,f3,rfl⟩:=Au2 (show l.length=4 by simpa using congrArg List.length hs);simp only[List.map_cons,List.map_nil,List.cons.injEq,Prod.mk.injEq,and_true]at hs;obtain⟨⟨o0,rfl⟩,⟨o1,rfl⟩,⟨o2,rfl⟩,⟨o3,rfl⟩⟩:=hs;rw[hc]at hl;obtain⟨x0,x1,x2,x3,rfl⟩:=Au2 (show xs.length=4 from hx);obtain⟨a,b,c,d,rfl⟩:=Au2 hl;have k0:=key 0 f0 rfl;have k1:=key 1 f1 rfl;have k2:=key 2 f2 rfl;have k3:=key 3 f3 rfl;rw[o0,c0]at k0;rw[o1,c1]at k1;rw[o2,c2]at k2;rw[o3,c3]at k3;exact⟨m,a,b,c,d,x0,x1,x2,x3,rfl,rfl,rfl,k0,k1,k2,k3⟩
theorem Ajx(ht:Tryz.prog.underlying t=some (.struct fs))(hc:Tryz.prog.cellsOf t=3)(hs:fs.toList.map (λf=>(f.offset,f.type))=[(0,t0),(1,t1),(2,t2)])(c0:Tryz.prog.cellsOf t0=1)(c1:Tryz.prog.cellsOf t1=1)(c2:Tryz.prog.cellsOf t2=1)(h:DataW.trod enc Tryz.prog w base sp held n t cs=some x):∃m a b c x0 x1 x2,n=m+1/\cs=[a,b,c]/\x.1=.agg [x0.1,x1.1,x2.1]/\DataW.trod enc Tryz.prog w base sp held m t0 [a]=some x0/\DataW.trod enc Tryz.prog w base sp held m t1 [b]=some x1/\DataW.trod enc Tryz.prog w base sp held m t2 [c]=some x2:=by obtain⟨xs,m,rfl,rfl,hl,hx,key⟩:=DataW.trod_struct ht h;obtain⟨l⟩:=fs;obtain⟨f0,f1,f2,rfl⟩:=A5k (show l.length=3 by simpa using congrArg List.length hs);simp only[List.map_cons,List.map_nil,List.cons.injEq,Prod.mk.injEq,and_true]at hs;obtain⟨⟨o0,rfl⟩,⟨o1,rfl⟩,⟨o2,rfl⟩⟩:=hs;rw[hc]at hl;obtain⟨x0,x1,x2,rfl⟩:=A5k (show xs.length=3 from hx);obtain⟨a,b,c,rfl⟩:=A5k hl;have k0:=key 0 f0 rfl;have k1:=key 1 f1 rfl;have k2:=key 2 f2 rfl;rw[o0,c0]at k0;rw[o1,c1]at k1;rw[o2,c2]at k2;exact⟨m,a,b,c,x0,x1,x2,rfl,rfl,rfl,k0,k1,k2⟩
end
variable {v:Value}
theorem one_cell{T:Ty}(hT:T.leaf=true){I:Reg}{w:World}{a:Value}{y:den US0.D T}(h:[a]=v.cells.toList)(r:rp US0 T I w v y):rp US0 T I w a y:=by have:=(Ph hT r).1;rw[this]at h;have h:[a]=[v]:=h;cases h;exact r
theorem A39{n:Nat}:RdF n 53 (.u 0):=λh=>by obtain⟨m,a,b,c,d,x0,x1,x2,x3,rfl,rfl,_,h0,h1,h2,h3⟩:=Ajw Tryz.underlying53 (by kernel_rfl) rfl (by kernel_rfl) (by kernel_rfl) (by kernel_rfl) (by kernel_rfl) h;obtain⟨v0,y0,e0,r0⟩:=Awt Tryz.underlying9 h0;obtain⟨v1,y1,e1,r1⟩:=A0t Tryz.underlying4 h1;obtain⟨v2,y2,e2,r2⟩:=Wn Tryz.underlying3 h2;obtain⟨v3,y3,e3,r3⟩:=Wn Tryz.underlying3 h3;exact⟨.agg ⟨[a,b,c,d]⟩,(⟨y0,y1,y2,y3⟩:Bi),rfl,Lc.2 ⟨[a,b,c,d],rfl,F2.cons (one_cell rfl e0 r0) (F2.cons (one_cell rfl e1 r1) (F2.cons (one_cell rfl e2 r2) (F2.cons (one_cell rfl e3 r3) F2.nil)))⟩⟩
theorem Awu{n:Nat}:RdF n 87 (.u 1):=λh=>by obtain⟨m,a,b,c,x0,x1,x2,rfl,rfl,_,h0,h1,h2⟩:=Ajx Tryz.underlying87 (by kernel_rfl) rfl (by kernel_rfl) (by kernel_rfl) (by kernel_rfl) h;obtain⟨v0,y0,e0,r0⟩:=Wn Tryz.underlying3 h0;obtain⟨v1,y1,e1,r1⟩:=Wn Tryz.underlying3 h1;obtain⟨v2,y2,e2,r2⟩:=Wn Tryz.underlying3 h2;exact⟨.agg ⟨[a,b,c]⟩,(⟨y0,y1,y2⟩:Ch),rfl,Lc.2 ⟨[a,b,c],rfl,F2.cons (one_cell rfl e0 r0) (F2.cons (one_cell rfl e1 r1) (F2.cons (one_cell rfl e2 r2) F2.nil))⟩⟩
theorem A0u:∀n:Nat,RdF n 29 (.u 3):=by
 intro n;induction n using Nat.strongRecOn with
 |_ n ih=>
  intro H enc w base sp held cs x h;obtain⟨m,a,b,c,d,x0,x1,x2,x3,rfl,rfl,_,h0,h1,h2,h3⟩:=Ajw Tryz.underlying29 (by kernel_rfl) rfl (by kernel_rfl) (by kernel_rfl) (by kernel_rfl) (by kernel_rfl) h;obtain⟨v0,y0,e0,r0⟩:=Wn Tryz.underlying3 h0;obtain⟨v1,y1,e1,r1⟩:=Wn Tryz.underlying3 h1;obtain⟨v2,y2,e2,r2⟩:=Awt Tryz.underlying9 h2;obtain⟨v3,y3,e3,r3⟩:=Alh Tryz.underlying27 (by kernel_rfl) (λk hk=>ih k (by omega)) h3;exact⟨.agg ⟨[a,b,c,d]⟩,(⟨y0,y1,y2,y3⟩:A6),rfl,Lc.2 ⟨[a,b,c,d],rfl,F2.cons (one_cell rfl e0 r0) (F2.cons (one_cell rfl e1 r1) (F2.cons (one_cell rfl e2 r2) (F2.cons (one_cell rfl e3 r3) F2.nil)))⟩⟩
theorem A4a{n:Nat}{H:Type}{enc:TypeId×Value->H}{w:World}{base:Nat}{sp:Nat->Bool}{held:Bool}{x:DataW H×List MemPlace}(hv:∃cs,v=.agg cs)(h:DataW.trod enc Tryz.prog w base sp held n 26 v.cells.toList=some x):∃y:B0,rp US0 (.u 2) (Aib w) w v y/\(y.Ag=[]∨∃es rs ds,x.1=.agg (.slice es rs::ds)/\es.length=y.Ag.length):=by
 obtain⟨⟨l⟩,rfl⟩:=hv;obtain⟨m,a,b,c,x0,x1,x2,rfl,e,hx,h0,h1,h2⟩:=Ajx Tryz.underlying26 (by kernel_rfl) rfl (by kernel_rfl) (by kernel_rfl) (by kernel_rfl) h;have e:l=[a,b,c]:=e;subst e;obtain⟨v0,y0,e0,r0,hl⟩:=Anv Tryz.underlying22 (by kernel_rfl) (λk _=>A39) h0;obtain⟨v1,y1,e1,r1⟩:=Alh Tryz.underlying23 (by kernel_rfl) (λk _=>Wn Tryz.underlying3) h1;obtain⟨v2,y2,e2,r2⟩:=Alh Tryz.underlying24 (by kernel_rfl) (λk _=>Awu) h2;refine⟨(⟨y0,y1,y2⟩:B0),Lc.2 ⟨[a,b,c],rfl,F2.cons (one_cell rfl e0 r0) (F2.cons (one_cell rfl e1 r1) (F2.cons (one_cell rfl e2 r2) F2.nil))⟩,?_⟩;rcases hl with hl|⟨es,rs,hs,hn⟩
 .exact .inl hl
 .exact .inr ⟨es,rs,[x1.1,x2.1],by rw[hx,hs],hn⟩
theorem A7j{n:Nat}{H:Type}{enc:TypeId×Value->H}{w:World}{base:Nat}{sp:Nat->Bool}{held:Bool}{x:DataW H×List MemPlace}(hv:∃cs,v=.agg cs)(h:DataW.trod enc Tryz.prog w base sp held n 29 v.cells.toList=some x):∃y:A6,rp US0 (.u 3) (Aib w) w v y:=by obtain⟨⟨l⟩,rfl⟩:=hv;obtain⟨v',y,e,r⟩:=A0u n h;obtain⟨cs,rfl,r2⟩:=Lc.1 r;have e:l=cs:=e;subst e;exact⟨y,r⟩
theorem b53:Tryz.prog.bytesOf 53=40:=by kernel_rfl
theorem A2n{H:Type}{ds:List (DataW H)}{es rs dr:List (DataW H)}{ts:List TypeId}(h:(DataW.weightsEach Tryz.prog (26::ts) (.agg (.slice es rs::dr)::ds)).all (·<=reachBytes)=true):es.length<=1000000000000000:=by
 have h1:=List.all_eq_true.1 h ((es.length+rs.length)*40) (by unfold DataW.weightsEach;refine List.mem_append_left _ ?_;unfold DataW.weights;rw[Tryz.underlying26];simp only[List.map_cons,List.map_nil];unfold DataW.weightsEach;refine List.mem_append_left _ ?_;unfold DataW.weights;rw[Tryz.underlying22];simp only[b53];exact List.mem_cons_self)
 have h2:(es.length+rs.length)*40<=reachBytes:=by simpa using h1
 unfold reachBytes at h2;omega
end
end Go.Proofs.YtcbkbpjlbmalmaaGreatDoor
namespace Go.Proofs.YtcbkbpjlbmalmaaGreatDoor
open Go Go.X Go.Y
theorem mpP{p q:Prop}(e:p=q)(h:p):q:=Eq.mp e h
theorem wF(F:Func)(n:An Y0){q:FuncId}{σ:Sig}{a:N8 Y0 σ.args}{H:HY}{Q:R2 Y0 σ.res->U6 Y0 σ.args->HP}{X:PX}{p:Prop}(hf:Y0.P.funcs[q]?=some F)(h:p)(e:p=fnX sg Adt pfT F σ n a H Q X):Wp Y0 q σ a H Q X:=Av0 hf (mpP e h)
theorem wFS(F:Func)(n:An Y0){q:FuncId}{σ:Sig}{a:N8 Y0 σ.args}{H:HY}{Q:R2 Y0 σ.res->U6 Y0 σ.args->HP}{X:PX}{p:Prop}(hf:Y0.P.funcs[q]?=some F)(h:p)(e:p=fnS sg Adt pfT F σ n a H Q X):Wp Y0 q σ a H Q X:=At1 hf (mpP e h)
noncomputable def Ev:Inl Y0 62:=Ab4 {N:=0,fty:=Adt,sigs:=sg,pf:=pfT,X:=λ_ _ _=>False,lp:=[],jn:=[],pr:=[],im:=[1]} 62 Tryz.f62 (by kernel_rfl) (by kernel_rfl)
noncomputable def W3:Inl Y0 153:=Ab4 {N:=0,fty:=Adt,sigs:=sg,pf:=pfT,X:=λ_ _ _=>False,lp:=[],jn:=[],pr:=[(3,7)],im:=[]} 153 Tryz.f153 (by kernel_rfl) (by kernel_rfl)
noncomputable def Ee:Inl Y0 192:=Ab4 {N:=0,fty:=Adt,sigs:=sg,pf:=pfT,X:=λ_ _ _=>False,lp:=[],jn:=[],pr:=[],im:=[1]} 192 Tryz.f192 (by kernel_rfl) (by kernel_rfl)
noncomputable def Ge:Inl Y0 193:=A5u {N:=0,fty:=Adt,sigs:=sg,pf:=pfT,X:=λ_ _ _=>False,lp:=[],jn:=[],pr:=[(2,15)],im:=[],tk:=[12],tw:=[12]} 193 Tryz.f193 (by kernel_rfl) (by kernel_rfl)
noncomputable def Mg:Inl Y0 247:=Ab4 {N:=0,fty:=Adt,sigs:=sg,pf:=pfT,X:=λ_ _ _=>False,lp:=[(3,⟨[(5,.one (.dat (.int .u64))),(13,.nat)],[0,12],true⟩)],jn:=[],pr:=[],im:=[3]} 247 Tryz.f247 (by kernel_rfl) (by kernel_rfl)
noncomputable def Nw:Inl Y0 250:=Ab4 {N:=0,fty:=Adt,sigs:=sg,pf:=pfT,X:=λ_ _ _=>False,lp:=[],jn:=[],pr:=[],im:=[1]} 250 Tryz.f250 (by kernel_rfl) (by kernel_rfl)
noncomputable def Mf:Inl Y0 252:=Ab4 {N:=0,fty:=Adt,sigs:=sg,pf:=pfT,X:=λ_ _ _=>False,lp:=[],jn:=[],pr:=[],im:=[1]} 252 Tryz.f252 (by kernel_rfl) (by kernel_rfl)
noncomputable def Ow:Inl Y0 267:=Ab4 {N:=0,fty:=Adt,sigs:=sg,pf:=pfT,X:=λ_ _ _=>False,lp:=[],jn:=[],pr:=[],im:=[1]} 267 Tryz.f267 (by kernel_rfl) (by kernel_rfl)
noncomputable def A9r:(q:FuncId)->Option (Inl Y0 q)
 |62=>some Ev
 |153=>some W3
 |192=>some Ee
 |193=>some Ge
 |247=>some Mg
 |250=>some Nw
 |252=>some Mf
 |267=>some Ow
 |_=>none
noncomputable def On:Inl Y0 137:=Ab4 {N:=0,fty:=Adt,sigs:=sg,pf:=pfT,X:=λ_ _ _=>False,lp:=[],jn:=[],pr:=[],im:=[],il:=A9r} 137 Tryz.f137 (by kernel_rfl) (by kernel_rfl)
noncomputable def A9q:(q:FuncId)->Option (Inl Y0 q)
 |62=>some Ev
 |137=>some On
 |153=>some W3
 |192=>some Ee
 |193=>some Ge
 |247=>some Mg
 |250=>some Nw
 |252=>some Mf
 |267=>some Ow
 |_=>none
noncomputable def W4:Inl Y0 61:=Ab4 {N:=0,fty:=Adt,sigs:=sg,pf:=pfT,X:=λ_ _ _=>False,lp:=[],jn:=[],pr:=[],im:=[],il:=A9q} 61 Tryz.f61 (by kernel_rfl) (by kernel_rfl)
noncomputable def ilT:(q:FuncId)->Option (Inl Y0 q)
 |61=>some W4
 |62=>some Ev
 |137=>some On
 |153=>some W3
 |192=>some Ee
 |193=>some Ge
 |247=>some Mg
 |250=>some Nw
 |252=>some Mf
 |267=>some Ow
 |_=>none
end Go.Proofs.YtcbkbpjlbmalmaaGreatDoor
namespace Go.Proofs.YtcbkbpjlbmalmaaGreatDoor
open Go Go.Shelf
def Ak9:Go.Shelf.Ren:=⟨fun|6=>269|15=>195|14=>279|28=>245|29=>246|20=>281|21=>282|22=>283|23=>284|24=>285|25=>286|26=>287|27=>288|46=>289|47=>261|48=>262|49=>290|50=>291|57=>292|n=>n,fun|22=>305|24=>288|25=>323|3=>3|39=>237|0=>0|53=>285|55=>183|4=>4|46=>279|45=>278|50=>47|5=>5|9=>9|66=>310|70=>314|76=>325|77=>82|n=>n,fun|n=>n⟩
theorem Anf:Go.Proofs.SlLaysF0.n6 Tryz.prog Ak9:={
 mixed:=by kernel_rfl,
 f6:=⟨Tryz.f269.name,by decide,Tryz.func269.trans (congrArg some (by kernel_rfl))⟩,
 f14:=⟨Tryz.f279.name,by decide,Tryz.func279.trans (congrArg some (by kernel_rfl))⟩,
 f15:=Tryz.func195.trans (congrArg some (by kernel_rfl)),
 f20:=⟨Tryz.f281.name,by decide,Tryz.func281.trans (congrArg some (by kernel_rfl))⟩,
 f21:=⟨Tryz.f282.name,by decide,Tryz.func282.trans (congrArg some (by kernel_rfl))⟩,
 f22:=⟨Tryz.f283.name,by decide,Tryz.func283.trans (congrArg some (by kernel_rfl))⟩,
 f23:=⟨Tryz.f284.name,by decide,Tryz.func284.trans (congrArg some (by kernel_rfl))⟩,
 f24:=⟨Tryz.f285.name,by decide,Tryz.func285.trans (congrArg some (by kernel_rfl))⟩,
 f25:=⟨Tryz.f286.name,by decide,Tryz.func286.trans (congrArg some (by kernel_rfl))⟩,
 f26:=⟨Tryz.f287.name,by decide,Tryz.func287.trans (congrArg some (by kernel_rfl))⟩,
 f27:=⟨Tryz.f288.name,by decide,Tryz.func288.trans (congrArg some (by kernel_rfl))⟩,
 f28:=Tryz.func245.trans (congrArg some (by kernel_rfl)),
 f29:=Tryz.func246.trans (congrArg some (by kernel_rfl)),
 f46:=⟨Tryz.f289.name,by decide,Tryz.func289.trans (congrArg some (by kernel_rfl))⟩,
 f47:=Tryz.func261.trans (congrArg some (by kernel_rfl)),
 f48:=Tryz.func262.trans (congrArg some (by kernel_rfl)),
 f49:=⟨Tryz.f290.name,by decide,Tryz.func290.trans (congrArg some (by kernel_rfl))⟩,
 f50:=⟨Tryz.f291.name,by decide,Tryz.func291.trans (congrArg some (by kernel_rfl))⟩,
 f57:=⟨Tryz.f292.name,by decide,Tryz.func292.trans (congrArg some (by kernel_rfl))⟩,
 t0:=Tryz.underlying0,
 a0:=Tryz.isAgg0,
 z0:=Tryz.sizeOf0,
 v0:=Tryz.zeroValue0,
 t3:=Tryz.underlying3,
 a3:=Tryz.isAgg3,
 z3:=Tryz.sizeOf3,
 v3:=Tryz.zeroValue3,
 t4:=Tryz.underlying4,
 a4:=Tryz.isAgg4,
 z4:=Tryz.sizeOf4,
 v4:=Tryz.zeroValue4,
 t5:=Tryz.underlying5,
 a5:=Tryz.isAgg5,
 z5:=Tryz.sizeOf5,
 v5:=Tryz.zeroValue5,
 t9:=Tryz.underlying9,
 a9:=Tryz.isAgg9,
 z9:=Tryz.sizeOf9,
 v9:=Tryz.zeroValue9,
 t22:=Tryz.underlying305,
 a22:=Tryz.isAgg305,
 z22:=Tryz.sizeOf305,
 v22:=Tryz.zeroValue305,
 t25:=Tryz.underlying323,
 a25:=Tryz.isAgg323,
 z25:=Tryz.sizeOf323,
 v25:=Tryz.zeroValue323,
 t39:=Tryz.underlying237,
 a39:=Tryz.isAgg237,
 z39:=Tryz.sizeOf237,
 v39:=Tryz.zeroValue237,
 t45:=Tryz.underlying278,
 a45:=Tryz.isAgg278,
 z45:=Tryz.sizeOf278,
 v45:=Tryz.zeroValue278,
 t46:=Tryz.underlying279,
 a46:=Tryz.isAgg279,
 z46:=Tryz.sizeOf279,
 v46:=Tryz.zeroValue279,
 t50:=Tryz.underlying47,
 a50:=Tryz.isAgg47,
 z50:=Tryz.sizeOf47,
 v50:=Tryz.zeroValue47,
 t53:=Tryz.underlying285,
 a53:=Tryz.isAgg285,
 z53:=Tryz.sizeOf285,
 v53:=Tryz.zeroValue285,
 t55:=Tryz.underlying183,
 a55:=Tryz.isAgg183,
 z55:=Tryz.sizeOf183,
 v55:=Tryz.zeroValue183,
 t66:=Tryz.underlying310,
 a66:=Tryz.isAgg310,
 z66:=Tryz.sizeOf310,
 v66:=Tryz.zeroValue310,
 t70:=Tryz.underlying314,
 a70:=Tryz.isAgg314,
 z70:=Tryz.sizeOf314,
 v70:=Tryz.zeroValue314,
 t76:=Tryz.underlying325,
 a76:=Tryz.isAgg325,
 z76:=Tryz.sizeOf325,
 v76:=Tryz.zeroValue325,
 t77:=Tryz.underlying82,
 a77:=Tryz.isAgg82,
 z77:=Tryz.sizeOf82,
 v77:=Tryz.zeroValue82}
end Go.Proofs.YtcbkbpjlbmalmaaGreatDoor
