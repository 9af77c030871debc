/-
  What an operation sees: Level, Edge, Split, Top, Mk. (Merged by program out of 4 texts.)
-/
import Derived.Test.YtcbkbpjlbmalmaaGreatDoorpao
import Derived.Test.YtcbkbpjlbmalmaaGreatDoorpan
import Derived.Test.YtcbkbpjlbmalmaaGreatDoorpap
namespace Go.Proofs.YtcbkbpjlbmalmaaGreatDoor
open Go Go.X Go.Y
section
set_option maxRecDepth 100000
set_option maxHeartbeats 2000000
def Ud(m:Option Nat)(H:HY)(Q:Int×Unit->UU)(X:PX):Prop:=(m=none->Q (0,()) () H)/\(¬m=none->∃(b:Nat),m=some b/\∃(x:Au),H b=some (Ob.st Eo x)/\x.Ah.length<=9223372036854775807/\{store:=x.store,Cs:=x.Cs,Ah:=x.Ah,Az:=x.Az,waits:=x.waits,calls:=x.calls:Au}=x/\Q ((↑x.Ah.length:Int),()) () H)
theorem Adv m H Q X(hyp_:Ud m H Q X):Wp Y0 Oz K9 (m,()) H Q X:=wF Tryz.f14 {} (by kernel_rfl) hyp_ (by kernel_rfl)
def Zf(m:Option Nat)(f g:Int)(H:HY)(Q:Bool×Int×Unit->UU)(X:PX):Prop:=(m=none->Q (false,5,()) () H)/\(¬m=none->∃(b:Nat),m=some b/\∃(x:Au),H b=some (Ob.st Eo x)/\(¬(Ac x.Ah f).isSome=true->{store:=x.store,Cs:=x.Cs,Ah:=x.Ah,Az:=x.Az,waits:=x.waits,calls:=x.calls:Au}=x/\Q (false,8,()) () H)/\(¬¬(Ac x.Ah f).isSome=true->(¬(Ac x.Ah g).isSome=true->{store:=x.store,Cs:=x.Cs,Ah:=x.Ah,Az:=x.Az,waits:=x.waits,calls:=x.calls:Au}=x/\Q (false,8,()) () H)/\(¬¬(Ac x.Ah g).isSome=true->{store:=x.store,Cs:=x.Cs,Ah:=x.Ah,Az:=x.Az,waits:=x.waits,calls:=x.calls:Au}=x/\Q (decide ((Ac x.Ah f).getD (0:Int)=(Ac x.Ah g).getD 0),0,()) () H)))
theorem Aiy m f g H Q X(hyp_:Zf m f g H Q X):Wp Y0 Er D8 (m,f,g,()) H Q X:=wF Tryz.f29 {} (by kernel_rfl) hyp_ (by kernel_rfl)
def Apa(vars room:Int)(H:HY)(Q:Option Nat×Int×Unit->UU)(X:PX):Prop:=Wp Y0 W7 Sb (vars,room,()) H (λ(b:Option Nat×Int×Unit)_ G=>(¬b.2.1=(0:Int)->Q (none,b.2.1,()) () G)/\(¬¬b.2.1=(0:Int)->Wp Y0 Ahh Zx (4096,()) G (λ(b1:Option Nat×Unit)_ G=>∀(b2:Nat),G b2=none->Q (some b2,0,()) () (Ab G b2 (Ob.st Eo {store:=b.1,Cs:=b1.1,Ah:=C4 (C4 [] 0 1) 1 0,Az:=(2:Int),waits:=[],calls:=(0:Int):Au}))) X)) X
theorem Ay5 vars room H Q X(hyp_:Apa vars room H Q X):Wp Y0 W9 Tx (vars,room,()) H Q X:=wF Tryz.f33 {pr:=[(23,0)]} (by kernel_rfl) hyp_ (by kernel_rfl)
def Zg(m:Option Nat)(l:List Ch)(H:HY)(Q:Int×Unit->UU)(X:PX):Prop:=(m=none->Q (5,()) () H)/\(¬m=none->l.length<=9223372036854775807->∃(b:Nat),m=some b/\∃(x:Au),H b=some (Ob.st Eo x)/\(x.waits.length<=9223372036854775807->x.waits.length<=9223372036854775807->InK .i64 (256-(↑x.waits.length:Int))/\(256-(↑x.waits.length:Int)<(↑l.length:Int)->{store:=x.store,Cs:=x.Cs,Ah:=x.Ah,Az:=x.Az,waits:=x.waits,calls:=x.calls:Au}=x/\Q (18,()) () H)/\(¬256-(↑x.waits.length:Int)<(↑l.length:Int)->l.length<=9223372036854775807->{store:=x.store,Cs:=x.Cs,Ah:=x.Ah,Az:=x.Az,waits:=x.waits,calls:=x.calls:Au}=x/\∃(V:Nat->Nat×Unit->HP),(∃(n:Nat),V n (0,()) H)/\∀(n:Nat)(x:Nat×Unit)(H:HY),V n x H->(x.1<l.length->x.1<=9223372036854775807->∃(h:x.1<l.length),(l[x.1].Kind<1->Q (11,()) () H)/\(¬l[x.1].Kind<1->((3:Int)<l[x.1].Kind->Q (11,()) () H)/\(¬(3:Int)<l[x.1].Kind->(l[x.1].Gx<1->Q (2,()) () H/\Q (2,()) () H)/\(¬l[x.1].Gx<1->(l[x.1].Kind=(2:Int)->(l[x.1].Level<0->Q (2,()) () H/\Q (2,()) () H)/\(¬l[x.1].Level<0->Wp Y0 Gj Fl (m,()) H (λ(b:Int×Unit)_ G=>InK .i64 b.1->InK .i64 (b.1-1)/\(b.1-(1:Int)<=l[x.1].Level->Q (2,()) () G)/\(¬b.1-(1:Int)<=l[x.1].Level->x.1+1<=9223372036854775807/\∃(m:Nat),m<n/\V m (x.1+1,()) G)) X/\Wp Y0 Gj Fl (m,()) H (λ(b:Int×Unit)_ G=>InK .i64 b.1->InK .i64 (b.1-1)/\(b.1-(1:Int)<=l[x.1].Level->Q (2,()) () G)/\(¬b.1-(1:Int)<=l[x.1].Level->x.1+1<=9223372036854775807/\∃(m:Nat),m<n/\V m (x.1+1,()) G)) X))/\(¬l[x.1].Kind=(2:Int)->(x.1+1<=9223372036854775807/\∃(m:Nat),m<n/\V m (x.1+1,()) H)/\x.1+1<=9223372036854775807/\∃(m:Nat),m<n/\V m (x.1+1,()) H)))))/\(¬x.1<l.length->∃(x:Au),H b=some (Ob.st Eo x)/\(x.waits.length<=9223372036854775807->(x.waits.length=0->(x.waits.length+l.length)*24<=140737488355328/\Q (0,()) () (Ab H b (Ob.st Eo {x with waits:=x.waits++l,calls:=(0:Int)})))/\(¬x.waits.length=0->(x.waits.length+l.length)*24<=140737488355328/\Q (0,()) () (Ab H b (Ob.st Eo {x with waits:=x.waits++l}))))))))
theorem Aiz m l H Q X(hyp_:Zg m l H Q X):Wp Y0 Ti Pb (m,l,()) H Q X:=wF Tryz.f39 {lp:=[(6,⟨[(20,.nat)],[0,1,18,19],true⟩)]} (by kernel_rfl) hyp_ (by kernel_rfl)
def Zd(m:Option Nat)(H:HY)(Q:Int×Unit->UU)(X:PX):Prop:=(m=none->Q (0,()) () H)/\(¬m=none->∃(b:Nat),m=some b/\∃(x:Au),H b=some (Ob.st Eo x)/\{store:=x.store,Cs:=x.Cs,Ah:=x.Ah,Az:=x.Az,waits:=x.waits,calls:=x.calls:Au}=x/\Wp Y0 Ml I5 (x.store,()) H (λ(b:Int×Unit)_ G=>Q (b.1,()) () G) X)
theorem Aiw m H Q X(hyp_:Zd m H Q X):Wp Y0 Gj Fl (m,()) H Q X:=wF Tryz.f50 {} (by kernel_rfl) hyp_ (by kernel_rfl)
def Xe(m:Option Nat)(H:HY)(Q:List Int×Unit->UU)(X:PX):Prop:=(m=none->Q ([],()) () H)/\(¬m=none->∃(b:Nat),m=some b/\∃(x:Au),H b=some (Ob.st Eo x)/\{store:=x.store,Cs:=x.Cs,Ah:=x.Ah,Az:=x.Az,waits:=x.waits,calls:=x.calls:Au}=x/\Wp Y0 F7 Ey (x.store,()) H (λ(b:List Int×Unit)_ G=>Q (b.1,()) () G) X)
theorem Ahn m H Q X(hyp_:Xe m H Q X):Wp Y0 Rt Ns (m,()) H Q X:=wF Tryz.f87 {} (by kernel_rfl) hyp_ (by kernel_rfl)
def Zj(m:Option Nat)(l:List Int)(H:HY)(Q:Int×Unit->UU)(X:PX):Prop:=(m=none->Q (5,()) () H)/\(¬m=none->l.length<=9223372036854775807->∃(V:Nat->Nat×Unit->HP),(∃(n:Nat),V n (0,()) H)/\∀(n:Nat)(x:Nat×Unit)(H:HY),V n x H->(x.1<l.length->x.1<=9223372036854775807->∃(h:x.1<l.length),∃(b:Nat),m=some b/\∃(x1:Au),H b=some (Ob.st Eo x1)/\(¬(Ac x1.Ah l[x.1]).isSome=true->{store:=x1.store,Cs:=x1.Cs,Ah:=x1.Ah,Az:=x1.Az,waits:=x1.waits,calls:=x1.calls:Au}=x1/\Q (8,()) () H)/\(¬¬(Ac x1.Ah l[x.1]).isSome=true->((1:Int)<l[x.1]->{store:=x1.store,Cs:=x1.Cs,Ah:=x1.Ah,Az:=x1.Az,waits:=x1.waits,calls:=x1.calls:Au}=x1/\Wp Y0 Mp I9 (x1.store,(Ac x1.Ah l[x.1]).getD 0,()) H (λ(b1:Int×Unit)_ G=>∃(x2:Au),G b=some (Ob.st Eo x2)/\x.1+1<=9223372036854775807/\∃(m:Nat),m<n/\V m (x.1+1,()) (Ab G b (Ob.st Eo {x2 with Ah:=Ez x2.Ah l[x.1]}))) X)/\(¬(1:Int)<l[x.1]->x.1+1<=9223372036854775807/\∃(m:Nat),m<n/\{store:=x1.store,Cs:=x1.Cs,Ah:=x1.Ah,Az:=x1.Az,waits:=x1.waits,calls:=x1.calls:Au}=x1/\V m (x.1+1,()) H)))/\(¬x.1<l.length->Q (0,()) () H))
theorem Ai2 m l H Q X(hyp_:Zj m l H Q X):Wp Y0 Ht Gg (m,l,()) H Q X:=wF Tryz.f110 {lp:=[(4,⟨[(13,.nat)],[0,11,12],true⟩)]} (by kernel_rfl) hyp_ (by kernel_rfl)
def Aek(m:Option Nat)(op:Option Nat×Unit->HY->(Int×Unit->HP)->PX->Prop)(H:HY)(Q:Int×Int×Unit->UU)(X:PX):Prop:=(m=none->Q (0,5,()) () H)/\(¬m=none->∀(b:Nat),H b=none->Wp Y0 Q3 Nr (m,λ(a:Option Nat×Unit)(H:HY)(Q:Unit->HP)(X:Nat->Lf Y0.D->HP)=>Wp Y0 Zb S8 (a.1,op,some b,()) H (λ(b x:Unit)(G:HY)=>Q () G) X,()) (Ab H b (Ob.st Dk (0:Int))) (λ(b1:Int×Unit)_ G=>(¬b1.1=(0:Int)->Q (0,b1.1,()) () G)/\(¬¬b1.1=(0:Int)->∃(b2:Nat),m=some b2/\∃(x:Au),G b2=some (Ob.st Eo x)/\{store:=x.store,Cs:=x.Cs,Ah:=x.Ah,Az:=x.Az,waits:=x.waits,calls:=x.calls:Au}=x/\∃(x1:Int),G b=some (Ob.st Dk x1)/\x1=x1/\Wp Y0 Fg Ei (x.store,x1,()) G (λ(b3:Bool×Unit)_ G=>(¬b3.1=true->Q (0,8,()) () G)/\(¬¬b3.1=true->∃(x:Int),G b=some (Ob.st Dk x)/\x=x/\Wp Y0 Pp Ly (m,x,()) G (λ(b:Int×Unit)_ G=>Q (b.1,0,()) () G) X)) X)) X)
theorem Apb m op H Q X(hyp_:Aek m op H Q X):Wp Y0 Sj P3 (m,op,()) H Q X:=wF Tryz.f125 {pr:=[(6,8)],im:=[3]} (by kernel_rfl) hyp_ (by kernel_rfl)
def Ael(x:Option Nat)(v lo hi:Int)(H:HY)(Q:Int×Unit->UU)(X:PX):Prop:=∃(b:Nat),x=some b/\∃(x:Fk),H b=some (Ob.st Gr x)/\∃(b:Nat),x.m=some b/\{m:=x.m:Fk}=x/\∃(x:Au),H b=some (Ob.st Eo x)/\(x.waits.length<=9223372036854775807->(0<x.waits.length->(True->(0:Int)<=0)/\∃(h:Int.toNat (0:Int)<x.waits.length),∃(h:Int.toNat (0:Int)<x.waits.length),(x.waits[Int.toNat (0:Int)].Gx<=Go.IntKind.wrap .i64 (x.calls+1)->(True->(0:Int)<=0)/\∃(h:Int.toNat (0:Int)<x.waits.length),∃(h:Int.toNat (0:Int)<x.waits.length),(0:Int)<=1/\Int.toNat (1:Int)<=x.waits.length/\X 231 {t:=Ty.u 15,x:={err:=(0:Int),event:=true,ev:={Gx:=x.waits[Int.toNat (0:Int)].Gx,Kind:=x.waits[Int.toNat (0:Int)].Kind,Level:=x.waits[Int.toNat (0:Int)].Level:Ch}:Ik}  :Lf Y0.D} (Ab H b (Ob.st Eo {x with waits:=List.drop (Int.toNat (1:Int)) x.waits,calls:=(0:Int)})))/\(¬x.waits[Int.toNat (0:Int)].Gx<=Go.IntKind.wrap .i64 (x.calls+1)->Wp Y0 Iu Gl (x.store,v,lo,hi,()) (Ab H b (Ob.st Eo {x with calls:=Go.IntKind.wrap .i64 (x.calls+1)})) (λ(b:Int×Int×Unit)_ G=>(¬b.2.1=(0:Int)->X 231 {t:=Ty.u 15,x:={err:=b.2.1,event:=false,ev:={Gx:=(0:Int),Kind:=(0:Int),Level:=(0:Int):Ch}:Ik}  :Lf Y0.D} G)/\(¬¬b.2.1=(0:Int)->Q (b.1,()) () G)) X))/\(¬0<x.waits.length->Wp Y0 Iu Gl (x.store,v,lo,hi,()) (Ab H b (Ob.st Eo {x with calls:=Go.IntKind.wrap .i64 (x.calls+1)})) (λ(b:Int×Int×Unit)_ G=>(¬b.2.1=(0:Int)->X 231 {t:=Ty.u 15,x:={err:=b.2.1,event:=false,ev:={Gx:=(0:Int),Kind:=(0:Int),Level:=(0:Int):Ch}:Ik}  :Lf Y0.D} G)/\(¬¬b.2.1=(0:Int)->Q (b.1,()) () G)) X))
theorem Apc x v lo hi H Q X(hyp_:Ael x v lo hi H Q X):Wp Y0 Hm Gh (x,v,lo,hi,()) H Q X:=wF Tryz.f127 {wr:=[21]} (by kernel_rfl) hyp_ (by kernel_rfl)
def Zl(m:Option Nat)(h:Int)(H:HY)(Q:Int×Int×Unit->UU)(X:PX):Prop:=(m=none->Q (0,5,()) () H)/\(¬m=none->∃(b:Nat),m=some b/\∃(x:Au),H b=some (Ob.st Eo x)/\(¬(Ac x.Ah h).isSome=true->{store:=x.store,Cs:=x.Cs,Ah:=x.Ah,Az:=x.Az,waits:=x.waits,calls:=x.calls:Au}=x/\Q (0,8,()) () H)/\(¬¬(Ac x.Ah h).isSome=true->{store:=x.store,Cs:=x.Cs,Ah:=x.Ah,Az:=x.Az,waits:=x.waits,calls:=x.calls:Au}=x/\Wp Y0 Pp Ly (m,(Ac x.Ah h).getD 0,()) H (λ(b:Int×Unit)_ G=>Q (b.1,0,()) () G) X))
theorem Ai4 m h H Q X(hyp_:Zl m h H Q X):Wp Y0 Jw Hq (m,h,()) H Q X:=wF Tryz.f131 {} (by kernel_rfl) hyp_ (by kernel_rfl)
def Xf(m:Option Nat)(yes:Bool)(H:HY)(Q:Int×Unit->UU)(X:PX):Prop:=(m=none->Q (0,()) () H)/\(¬m=none->(¬yes=true->Q (0,()) () H)/\(¬¬yes=true->Q (1,()) () H))
theorem Aho m yes H Q X(hyp_:Xf m yes H Q X):Wp Y0 N3 Kg (m,yes,()) H Q X:=wF Tryz.f132 {} (by kernel_rfl) hyp_ (by kernel_rfl)
def Ahs(x:Option Nat)(v:Int)(H:HY)(Q:Int×Unit->UU)(X:PX):Prop:=∃(b:Nat),x=some b/\∃(x:Fk),H b=some (Ob.st Gr x)/\∃(b:Nat),x.m=some b/\{m:=x.m:Fk}=x/\∃(x:Au),H b=some (Ob.st Eo x)/\{store:=x.store,Cs:=x.Cs,Ah:=x.Ah,Az:=x.Az,waits:=x.waits,calls:=x.calls:Au}=x/\Wp Y0 Cl Cb (x.store,v,()) H (λ(b:Int×Unit)_ G=>Q (b.1,()) () G) X
theorem Ahr x v H Q X(hyp_:Ahs x v H Q X):Wp Y0 Ew D9 (x,v,()) H Q X:=wF Tryz.f145 {} (by kernel_rfl) hyp_ (by kernel_rfl)
def Ai6(x:Option Nat)(h:Int)(H:HY)(Q:Int×Unit->UU)(X:PX):Prop:=∃(b:Nat),x=some b/\∃(x:Fk),H b=some (Ob.st Gr x)/\∃(b:Nat),x.m=some b/\{m:=x.m:Fk}=x/\∃(x:Au),H b=some (Ob.st Eo x)/\(¬(Ac x.Ah h).isSome=true->{store:=x.store,Cs:=x.Cs,Ah:=x.Ah,Az:=x.Az,waits:=x.waits,calls:=x.calls:Au}=x/\X 231 {t:=Ty.u 15,x:={err:=(8:Int),event:=false,ev:={Gx:=(0:Int),Kind:=(0:Int),Level:=(0:Int):Ch}:Ik}  :Lf Y0.D} H)/\(¬¬(Ac x.Ah h).isSome=true->{store:=x.store,Cs:=x.Cs,Ah:=x.Ah,Az:=x.Az,waits:=x.waits,calls:=x.calls:Au}=x/\Q ((Ac x.Ah h).getD 0,()) () H)
theorem Ai5 x h H Q X(hyp_:Ai6 x h H Q X):Wp Y0 Jx Hr (x,h,()) H Q X:=wF Tryz.f147 {} (by kernel_rfl) hyp_ (by kernel_rfl)
def Acp(x:Option Nat)(f g h:Int)(H:HY)(Q:Int×Unit->UU)(X:PX):Prop:=∃(V:Nat->Int×Int×Int×Bool×Nat×Unit->HP),(∃(n:Nat),V n (f,g,h,false,0,()) H)/\∀(n:Nat)(x1:Int×Int×Int×Bool×Nat×Unit)(H:HY),V n x1 H->(x1.2.2.2.2.1<3->Wp Y0 Aaj Uv (x1.1,x1.2.1,x1.2.2.1,()) H (λ(b:Int×Int×Int×Bool×Int×Bool×Unit)_ G=>(b.2.2.2.2.2.1=true->Q (A7 b.2.2.2.2.1 x1.2.2.2.1,()) () G)/\(¬b.2.2.2.2.2.1=true->(b.1=x1.1->(b.2.1=x1.2.1->(b.2.2.1=x1.2.2.1->∃(b1:Nat),x=some b1/\∃(x2:Fk),G b1=some (Ob.st Gr x2)/\∃(b2:Nat),x2.m=some b2/\{m:=x2.m:Fk}=x2/\∃(x3:Au),G b2=some (Ob.st Eo x3)/\{store:=x3.store,Cs:=x3.Cs,Ah:=x3.Ah,Az:=x3.Az,waits:=x3.waits,calls:=x3.calls:Au}=x3/\Wp Y0 Jn G8 (x3.Cs,1,x1.1,x1.2.1,x1.2.2.1,()) G (λ(b3:Int×Bool×Unit)_ G=>(b3.2.1=true->Q (A7 b3.1 (not (decide (x1.2.2.2.1=true)==decide (b.2.2.2.1=true))),()) () G)/\(¬b3.2.1=true->Wp Y0 N4 Lb (x,[x1.1,x1.2.1,x1.2.2.1],()) G (λ(b4:Int×Unit)_ G=>Wp Y0 Dr Db (x,x1.1,b4.1,()) G (λ(b5:Int×Int×Unit)_ G=>Wp Y0 Dr Db (x,x1.2.1,b4.1,()) G (λ(b6:Int×Int×Unit)_ G=>Wp Y0 Dr Db (x,x1.2.2.1,b4.1,()) G (λ(b7:Int×Int×Unit)_ G=>Wp Y0 Ec Dv (x,b5.1,b6.1,b7.1,()) G (λ(b8:Int×Unit)_ G=>Wp Y0 Ec Dv (x,b5.2.1,b6.2.1,b7.2.1,()) G (λ(b9:Int×Unit)_ G=>Wp Y0 Hm Gh (x,b4.1,b8.1,b9.1,()) G (λ(b10:Int×Unit)_ G=>∃(x:Fk),G b1=some (Ob.st Gr x)/\∃(b11:Nat),x.m=some b11/\{m:=x.m:Fk}=x/\∃(x:Au),G b11=some (Ob.st Eo x)/\{store:=x.store,Cs:=x.Cs,Ah:=x.Ah,Az:=x.Az,waits:=x.waits,calls:=x.calls:Au}=x/\Wp Y0 Jm G7 (x.Cs,1,x1.1,x1.2.1,x1.2.2.1,b10.1,()) G (λ(b12 io:Unit)(G:HY)=>Q (A7 b10.1 (not (decide (x1.2.2.2.1=true)==decide (b.2.2.2.1=true))),()) () G) X) X) X) X) X) X) X) X)) X)/\(¬b.2.2.1=x1.2.2.1->x1.2.2.2.2.1+1<=9223372036854775807/\∃(m:Nat),m<n/\V m (b.1,b.2.1,b.2.2.1,not (decide (x1.2.2.2.1=true)==decide (b.2.2.2.1=true)),x1.2.2.2.2.1+1,()) G))/\(¬b.2.1=x1.2.1->x1.2.2.2.2.1+1<=9223372036854775807/\∃(m:Nat),m<n/\V m (b.1,b.2.1,b.2.2.1,not (decide (x1.2.2.2.1=true)==decide (b.2.2.2.1=true)),x1.2.2.2.2.1+1,()) G))/\(¬b.1=x1.1->x1.2.2.2.2.1+1<=9223372036854775807/\∃(m:Nat),m<n/\V m (b.1,b.2.1,b.2.2.1,not (decide (x1.2.2.2.1=true)==decide (b.2.2.2.1=true)),x1.2.2.2.2.1+1,()) G))) X)/\(¬x1.2.2.2.2.1<3->∃(b:Nat),x=some b/\∃(x2:Fk),H b=some (Ob.st Gr x2)/\∃(b1:Nat),x2.m=some b1/\{m:=x2.m:Fk}=x2/\∃(x3:Au),H b1=some (Ob.st Eo x3)/\{store:=x3.store,Cs:=x3.Cs,Ah:=x3.Ah,Az:=x3.Az,waits:=x3.waits,calls:=x3.calls:Au}=x3/\Wp Y0 Jn G8 (x3.Cs,1,x1.1,x1.2.1,x1.2.2.1,()) H (λ(b2:Int×Bool×Unit)_ G=>(b2.2.1=true->Q (A7 b2.1 x1.2.2.2.1,()) () G)/\(¬b2.2.1=true->Wp Y0 N4 Lb (x,[x1.1,x1.2.1,x1.2.2.1],()) G (λ(b3:Int×Unit)_ G=>Wp Y0 Dr Db (x,x1.1,b3.1,()) G (λ(b4:Int×Int×Unit)_ G=>Wp Y0 Dr Db (x,x1.2.1,b3.1,()) G (λ(b5:Int×Int×Unit)_ G=>Wp Y0 Dr Db (x,x1.2.2.1,b3.1,()) G (λ(b6:Int×Int×Unit)_ G=>Wp Y0 Ec Dv (x,b4.1,b5.1,b6.1,()) G (λ(b7:Int×Unit)_ G=>Wp Y0 Ec Dv (x,b4.2.1,b5.2.1,b6.2.1,()) G (λ(b8:Int×Unit)_ G=>Wp Y0 Hm Gh (x,b3.1,b7.1,b8.1,()) G (λ(b9:Int×Unit)_ G=>∃(x:Fk),G b=some (Ob.st Gr x)/\∃(b:Nat),x.m=some b/\{m:=x.m:Fk}=x/\∃(x:Au),G b=some (Ob.st Eo x)/\{store:=x.store,Cs:=x.Cs,Ah:=x.Ah,Az:=x.Az,waits:=x.waits,calls:=x.calls:Au}=x/\Wp Y0 Jm G7 (x.Cs,1,x1.1,x1.2.1,x1.2.2.1,b9.1,()) G (λ(b io:Unit)(G:HY)=>Q (A7 b9.1 x1.2.2.2.1,()) () G) X) X) X) X) X) X) X) X)) X)
theorem Amm x f g h H Q X(hyp_:Acp x f g h H Q X):Wp Y0 Ec Dv (x,f,g,h,()) H Q X:=wF Tryz.f148 {lp:=[(3,⟨[(1,.one (.dat I6)),(2,.one (.dat I6)),(3,.one (.dat I6)),(9,.one (.dat .bool)),(27,.nat)],[0],true⟩)]} (by kernel_rfl) hyp_ (by kernel_rfl)
def Zh(m:Option Nat)(op:Option Nat×Unit->HY->(Unit->HP)->PX->Prop)(H:HY)(Q:Int×Unit->UU)(X:PX):Prop:=(m=none->Q (5,()) () H)/\(¬m=none->Wp Y0 Q3 Nr (m,op,()) H (λ(b:Int×Unit)_ G=>Q (b.1,()) () G) X)
theorem Ai0 m op H Q X(hyp_:Zh m op H Q X):Wp Y0 Za Sz (m,op,()) H Q X:=wF Tryz.f149 {} (by kernel_rfl) hyp_ (by kernel_rfl)
def Zc(m:Option Nat)(f:Int)(H:HY)(Q:Int×Unit->UU)(X:PX):Prop:=∃(b:Nat),m=some b/\∃(x:Au),H b=some (Ob.st Eo x)/\{store:=x.store,Cs:=x.Cs,Ah:=x.Ah,Az:=x.Az,waits:=x.waits,calls:=x.calls:Au}=x/\Wp Y0 Mo I8 (x.store,f,()) H (λ(b1:Int×Unit)_ G=>∃(x:Au),G b=some (Ob.st Eo x)/\(InK .i64 x.Az->InK .i64 (x.Az+1)/\Q (x.Az,()) () (Ab G b (Ob.st Eo {x with Ah:=C4 x.Ah x.Az f,Az:=x.Az+1})))) X
theorem Aiv m f H Q X(hyp_:Zc m f H Q X):Wp Y0 Pp Ly (m,f,()) H Q X:=wF Tryz.f168 {} (by kernel_rfl) hyp_ (by kernel_rfl)
def Aco(m:Option Nat)(op:Option Nat×Unit->HY->(Unit->HP)->PX->Prop)(H:HY)(Q:Int×Unit->UU)(X:PX):Prop:=∃(V:Nat->Bool×Unit->HP),(∃(n:Nat),V n (false,()) H)/\∀(n:Nat)(x:Bool×Unit)(H:HY),V n x H->Wp Y0 Aci Nq (m,op,()) H (λ(b:Ik×Bool×Unit)_ G=>(b.2.1=true->Q (0,()) () G)/\(¬b.2.1=true->(b.1.event=true->Wp Y0 Qi L7 (m,{Gx:=b.1.ev.Gx,Kind:=b.1.ev.Kind,Level:=b.1.ev.Level:Ch},()) G (λ(b io:Unit)(G:HY)=>∃(m:Nat),m<n/\V m (false,()) G) X)/\(¬b.1.event=true->(b.1.err=(7:Int)->(¬x.1=true->Wp Y0 O0 La (m,()) G (λ(b:Int×Unit)_ G=>∃(m:Nat),m<n/\V m (true,()) G) X)/\(¬¬x.1=true->Q (b.1.err,()) () G))/\(¬b.1.err=(7:Int)->Q (b.1.err,()) () G)))) X
theorem Amj m op H Q X(hyp_:Aco m op H Q X):Wp Y0 Q3 Nr (m,op,()) H Q X:=wF Tryz.f187 {lp:=[(2,⟨[(5,.one (.dat .bool))],[0,1],true⟩)]} (by kernel_rfl) hyp_ (by kernel_rfl)
def Zk(x:Option Nat)(p1:Option Nat×Unit->HY->(Int×Unit->HP)->PX->Prop)(p2:Option Nat)(H:HY)(Q:Unit->UU)(X:PX):Prop:=p1 (x,()) H (λ(b:Int×Unit)(G:HY)=>∃(b1:Nat),p2=some b1/\∃(x:Int),G b1=some (Ob.st Dk x)/\Q () () (Ab G b1 (Ob.st Dk b.1))) X
theorem Ai3 x p1 p2 H Q X(hyp_:Zk x p1 p2 H Q X):Wp Y0 Zb S8 (x,p1,p2,()) H Q X:=wF Tryz.f188 {} (by kernel_rfl) hyp_ (by kernel_rfl)
def Aml(x:Option Nat)(l:List Int)(H:HY)(Q:Int×Unit->UU)(X:PX):Prop:=l.length<=9223372036854775807->∃(V:Nat->Int×Int×Nat×Unit->HP),(∃(n:Nat),V n (-1,0,0,()) H)/\∀(n:Nat)(x1:Int×Int×Nat×Unit)(H:HY),V n x1 H->(x1.2.2.1<l.length->x1.2.2.1<=9223372036854775807->∃(h:x1.2.2.1<l.length),∃(b:Nat),x=some b/\∃(x2:Fk),H b=some (Ob.st Gr x2)/\∃(b:Nat),x2.m=some b/\{m:=x2.m:Fk}=x2/\∃(x3:Au),H b=some (Ob.st Eo x3)/\{store:=x3.store,Cs:=x3.Cs,Ah:=x3.Ah,Az:=x3.Az,waits:=x3.waits,calls:=x3.calls:Au}=x3/\Wp Y0 Fh Ej (x3.store,l[x1.2.2.1],()) H (λ(b:Int×Int×Int×Bool×Unit)_ G=>(b.2.2.2.1=true->(x1.1<0->Wp Y0 Ew D9 (x,b.1,()) G (λ(b1:Int×Unit)_ G=>x1.2.2.1+1<=9223372036854775807/\∃(m:Nat),m<n/\V m (b.1,b1.1,x1.2.2.1+1,()) G) X)/\(¬x1.1<0->Wp Y0 Ew D9 (x,b.1,()) G (λ(b1:Int×Unit)_ G=>(b1.1<x1.2.1->Wp Y0 Ew D9 (x,b.1,()) G (λ(b2:Int×Unit)_ G=>x1.2.2.1+1<=9223372036854775807/\∃(m:Nat),m<n/\V m (b.1,b2.1,x1.2.2.1+1,()) G) X)/\(¬b1.1<x1.2.1->x1.2.2.1+1<=9223372036854775807/\∃(m:Nat),m<n/\V m (x1.1,x1.2.1,x1.2.2.1+1,()) G)) X))/\(¬b.2.2.2.1=true->x1.2.2.1+1<=9223372036854775807/\∃(m:Nat),m<n/\V m (x1.1,x1.2.1,x1.2.2.1+1,()) G)) X)/\(¬x1.2.2.1<l.length->Q (x1.1,()) () H)
theorem Amk x l H Q X(hyp_:Aml x l H Q X):Wp Y0 N4 Lb (x,l,()) H Q X:=wF Tryz.f198 {lp:=[(3,⟨[(5,.one (.dat I6)),(6,.one (.dat I6)),(15,.nat)],[0,13,14],true⟩)]} (by kernel_rfl) hyp_ (by kernel_rfl)
def Ahq(x:Option Nat)(f v:Int)(H:HY)(Q:Int×Int×Unit->UU)(X:PX):Prop:=∃(b:Nat),x=some b/\∃(x:Fk),H b=some (Ob.st Gr x)/\∃(b:Nat),x.m=some b/\{m:=x.m:Fk}=x/\∃(x:Au),H b=some (Ob.st Eo x)/\{store:=x.store,Cs:=x.Cs,Ah:=x.Ah,Az:=x.Az,waits:=x.waits,calls:=x.calls:Au}=x/\Wp Y0 Fh Ej (x.store,f,()) H (λ(b:Int×Int×Int×Bool×Unit)_ G=>(¬b.2.2.2.1=true->Q (f,f,()) () G)/\(¬¬b.2.2.2.1=true->(¬b.1=v->Q (f,f,()) () G)/\(¬¬b.1=v->Q (b.2.1,b.2.2.1,()) () G))) X
theorem Ahp x f v H Q X(hyp_:Ahq x f v H Q X):Wp Y0 Dr Db (x,f,v,()) H Q X:=wF Tryz.f199 {} (by kernel_rfl) hyp_ (by kernel_rfl)
def Vk(m:Option Nat)(ev:Ch)(H:HY)(Q:Unit->UU)(X:PX):Prop:=∃(b:Nat),m=some b/\∃(x:Au),H b=some (Ob.st Eo x)/\{store:=x.store,Cs:=x.Cs,Ah:=x.Ah,Az:=x.Az,waits:=x.waits,calls:=x.calls:Au}=x/\Wp Y0 Hl Fx (x.Cs,()) H (λ(b1 io:Unit)(G:HY)=>(ev.Kind=(1:Int)->∃(x:Au),G b=some (Ob.st Eo x)/\{store:=x.store,Cs:=x.Cs,Ah:=x.Ah,Az:=x.Az,waits:=x.waits,calls:=x.calls:Au}=x/\Wp Y0 D7 Dg (x.store,()) G (λ(b:Int×Unit)_ G=>Q () () G) X)/\(¬ev.Kind=(1:Int)->(ev.Kind=(2:Int)->∃(x:Au),G b=some (Ob.st Eo x)/\{store:=x.store,Cs:=x.Cs,Ah:=x.Ah,Az:=x.Az,waits:=x.waits,calls:=x.calls:Au}=x/\Wp Y0 Ff Ed (x.store,ev.Level,()) G (λ(b:Int×Unit)_ G=>Q () () G) X)/\(¬ev.Kind=(2:Int)->∃(x:Au),G b=some (Ob.st Eo x)/\{store:=x.store,Cs:=x.Cs,Ah:=x.Ah,Az:=x.Az,waits:=x.waits,calls:=x.calls:Au}=x/\Wp Y0 F7 Ey (x.store,()) G (λ(b2:List Int×Unit)_ G=>Wp Y0 Aej Wh (b2.1,()) G (λ(b3:List Int×Unit)_ G=>Wp Y0 Acf Ur (b2.1,b3.1,()) G (λ(b4:List Int×Int×Unit)_ G=>b4.1.length<=9223372036854775807->∃(V:Nat->List Int×Nat×Unit->HP),(∃(n:Nat),V n (b4.1,0,()) G)/\∀(n:Nat)(x:List Int×Nat×Unit)(H:HY),V n x H->(x.2.1<b4.1.length->x.2.1<=9223372036854775807->∃(h:x.2.1<x.1.length),∃(h:x.2.1<x.1.length),∃(x1:Au),H b=some (Ob.st Eo x1)/\{store:=x1.store,Cs:=x1.Cs,Ah:=x1.Ah,Az:=x1.Az,waits:=x1.waits,calls:=x1.calls:Au}=x1/\Wp Y0 Ff Ed (x1.store,x.1[x.2.1],()) H (λ(b:Int×Unit)_ G=>x.2.1+1<=9223372036854775807/\∃(m:Nat),m<n/\V m (x.1,x.2.1+1,()) G) X)/\(¬x.2.1<b4.1.length->Q () () H)) X) X) X))) X
theorem Ae7 m ev H Q X(hyp_:Vk m ev H Q X):Wp Y0 Qi L7 (m,ev,()) H Q X:=wF Tryz.f228 {lp:=[(6,⟨[(28,.one (.own I6)),(30,.nat)],[0,28,29],true⟩)],im:=[3]} (by kernel_rfl) hyp_ (by kernel_rfl)
def Ze(m:Option Nat)(level:Int)(H:HY)(Q:Int×Unit->UU)(X:PX):Prop:=(m=none->Q (5,()) () H)/\(¬m=none->∃(b:Nat),m=some b/\∃(x:Au),H b=some (Ob.st Eo x)/\{store:=x.store,Cs:=x.Cs,Ah:=x.Ah,Az:=x.Az,waits:=x.waits,calls:=x.calls:Au}=x/\Wp Y0 Hl Fx (x.Cs,()) H (λ(b1 io:Unit)(G:HY)=>∃(x:Au),G b=some (Ob.st Eo x)/\{store:=x.store,Cs:=x.Cs,Ah:=x.Ah,Az:=x.Az,waits:=x.waits,calls:=x.calls:Au}=x/\Wp Y0 Ff Ed (x.store,level,()) G (λ(b:Int×Unit)_ G=>Q (b.1,()) () G) X) X)
theorem Aix m level H Q X(hyp_:Ze m level H Q X):Wp Y0 L3 Jr (m,level,()) H Q X:=wF Tryz.f88 {} (by kernel_rfl) hyp_ (by kernel_rfl)
def Ue(m:Option Nat)(H:HY)(Q:Int×Unit->UU)(X:PX):Prop:=(m=none->Q (0,()) () H)/\(¬m=none->∃(b:Nat),m=some b/\∃(x:Au),H b=some (Ob.st Eo x)/\{store:=x.store,Cs:=x.Cs,Ah:=x.Ah,Az:=x.Az,waits:=x.waits,calls:=x.calls:Au}=x/\Wp Y0 Hl Fx (x.Cs,()) H (λ(b1 io:Unit)(G:HY)=>∃(x:Au),G b=some (Ob.st Eo x)/\{store:=x.store,Cs:=x.Cs,Ah:=x.Ah,Az:=x.Az,waits:=x.waits,calls:=x.calls:Au}=x/\Wp Y0 D7 Dg (x.store,()) G (λ(b:Int×Unit)_ G=>Q (b.1,()) () G) X) X)
theorem Adw m H Q X(hyp_:Ue m H Q X):Wp Y0 O0 La (m,()) H Q X:=wF Tryz.f229 {} (by kernel_rfl) hyp_ (by kernel_rfl)
def Zi(m:Option Nat)(f:Int)(l:List Bool)(H:HY)(Q:Bool×Int×Unit->UU)(X:PX):Prop:=(m=none->Q (false,5,()) () H)/\(¬m=none->∃(b:Nat),m=some b/\∃(x:Au),H b=some (Ob.st Eo x)/\(¬(Ac x.Ah f).isSome=true->{store:=x.store,Cs:=x.Cs,Ah:=x.Ah,Az:=x.Az,waits:=x.waits,calls:=x.calls:Au}=x/\Q (false,8,()) () H)/\(¬¬(Ac x.Ah f).isSome=true->{store:=x.store,Cs:=x.Cs,Ah:=x.Ah,Az:=x.Az,waits:=x.waits,calls:=x.calls:Au}=x/\∃(V:Nat->Int×Unit->HP),(∃(n:Nat),V n ((Ac x.Ah f).getD 0,()) H)/\∀(n:Nat)(x:Int×Unit)(H:HY),V n x H->(¬decide (Aw x.1=(0:Int))=true->∃(x1:Au),H b=some (Ob.st Eo x1)/\{store:=x1.store,Cs:=x1.Cs,Ah:=x1.Ah,Az:=x1.Az,waits:=x1.waits,calls:=x1.calls:Au}=x1/\Wp Y0 Fh Ej (x1.store,x.1,()) H (λ(b:Int×Int×Int×Bool×Unit)_ G=>l.length<=9223372036854775807->(b.1<(↑l.length:Int)->InK .i64 b.1->(InK .i64 b.1->(0:Int)<=b.1)/\∃(h:b.1.toNat<l.length),(l[b.1.toNat]=true->∃(m:Nat),m<n/\V m (b.2.2.1,()) G)/\(¬l[b.1.toNat]=true->∃(m:Nat),m<n/\V m (b.2.1,()) G))/\(¬b.1<(↑l.length:Int)->∃(m:Nat),m<n/\V m (b.2.1,()) G)) X)/\(¬¬decide (Aw x.1=(0:Int))=true->Q (decide (x.1=(0:Int)),0,()) () H)))
theorem Ai1 m f l H Q X(hyp_:Zi m f l H Q X):Wp Y0 Tj Pc (m,f,l,()) H Q X:=wF Tryz.f52 {lp:=[(6,⟨[(8,.one (.dat I6))],[0,2],true⟩)]} (by kernel_rfl) hyp_ (by kernel_rfl)
end
section
variable {H H':HY} {b:Nat} {S:Sto}
theorem Dc.Cq{c m:Nat}{x:Y0.O m}(h:Dc H b S)(hc:H c=some (.st m x))(h1:m≠A8)(h2:m≠Eb)(h3:m≠Ek)(h4:m≠Ct)(f:FrE b S H H'):H' c=some (.st m x):=by
 rw[f c (By hc h.st h1) (By hc h.lv h2) (By hc h.po h3) (λhm=>?_)]
 .exact hc
 .obtain⟨v,hv,e⟩:=List.mem_iff_getElem.1 hm;exact By hc (h.ta v hv) h4 e.symm
theorem Dc.other{c m:Nat}{x:Y0.O m}{y:Ob Y0}(h:Dc H b S)(hc:H c=some (.st m x))(h1:m≠A8)(h2:m≠Eb)(h3:m≠Ek)(h4:m≠Ct):Dc (Ab H c y) b S:=by
 refine⟨?_,?_,?_,h.nd,λv hv=>?_⟩
 .rw[Ad _ _ (By hc h.st h1).symm];exact h.st
 .rw[Ad _ _ (By hc h.lv h2).symm];exact h.lv
 .rw[Ad _ _ (By hc h.po h3).symm];exact h.po
 .rw[Ad _ _ (By hc (h.ta v hv) h4).symm];exact h.ta v hv
structure Mn where
 sb:Nat
 S:Sto
 mb:Nat
 me:Ce
 hs:List (Int×Int)
 nx:Int
 ws:List Ch
 ca:Int
def Mn.ob(M:Mn):Au:={store:=some M.sb,Cs:=some M.mb,Ah:=M.hs,Az:=M.nx,waits:=M.ws,calls:=M.ca}
structure MnH(H:HY)(b:Nat)(M:Mn):Prop where
 ob:H b=some (.st Eo M.ob)
 st:Dc H M.sb M.S
 me:H M.mb=some (.st Da M.me)
def FrM(b:Nat)(M:Mn)(H H':HY):Prop:=∀c,c≠b->c≠M.mb->c≠M.sb->c≠M.S.bl->c≠M.S.bp->c∉M.S.tb->H' c=H c
variable {M:Mn}
theorem FrM.refl:FrM b M H H:=λ_ _ _ _ _ _ _=>rfl
structure F8(M M':Mn):Prop where
 sb:M'.sb=M.sb
 mb:M'.mb=M.mb
 bl:M'.S.bl=M.S.bl
 bp:M'.S.bp=M.S.bp
 tb:M'.S.tb=M.S.tb
theorem FrM.trans{M':Mn}{H'':HY}(h:FrM b M H H')(k:FrM b M' H' H'')(e:F8 M M'):FrM b M H H'':=λc a1 a2 a3 a4 a5 a6=>by rw[k c a1 (by rw[e.mb];exact a2) (by rw[e.sb];exact a3) (by rw[e.bl];exact a4) (by rw[e.bp];exact a5) (by rw[e.tb];exact a6),h c a1 a2 a3 a4 a5 a6]
theorem FrE.frm(f:FrE M.sb M.S H H'):FrM b M H H':=λc _ _ a3 a4 a5 a6=>f c a3 a4 a5 a6
theorem FrM.set{o:Ob Y0}:FrM b M H (Ab H b o):=λc a1 _ _ _ _ _=>Ad _ _ a1
def Qg:List (Int×Int)->Int->Int
 | [],_=>0
 |p::m,i=>B.dl p.2 i+Qg m i
theorem X5{i:Int}:∀{m:List (Int×Int)},0<=Qg m i/\Qg m i<=m.length
 | []=>by simp [Qg]
 |p::m=>by have:=X5 (i:=i) (m:=m);have:=@B.Ku p.2 i;simp only[Qg,List.length_cons];omega
theorem Ab5{k v i:Int}:∀{m:List (Int×Int)},Ac m k=none->Qg (C4 m k v) i=Qg m i+B.dl v i/\(C4 m k v).length=m.length+1
 | [],_=>by simp [Qg,C4]
 |p::m,h=>by
  unfold Ac at h;split at h
  .cases h
  .rename_i hp;have:=Ab5 (v:=v) (i:=i) h;unfold C4;rw[if_neg hp];simp only[Qg,List.length_cons];omega
theorem Ab6{k v i:Int}:∀{m:List (Int×Int)},Ac m k=some v->Qg (Ez m k) i=Qg m i-B.dl v i/\(Ez m k).length+1=m.length
 |p::m,h=>by
  unfold Ac at h;unfold Ez;split at h
  .rename_i hp;rw[if_pos hp];cases h;refine⟨?_,by simp⟩;simp only[Qg];omega
  .rename_i hp;have:=Ab6 (i:=i) h;rw[if_neg hp];simp only[Qg,List.length_cons];omega
structure MI(M:Mn):Prop where
 si:SI M.S
 nd:mnd M.hs
 ok:∀h e,Ac M.hs h=some e->B.Ok (tbl M.S.po) e/\0<=h/\h<M.nx
 k0:Ac M.hs 0=some 1
 k1:Ac M.hs 1=some 0
 nx:2<=M.nx
 rf:∀i,i≠0->rfA M.S.po i=Qg M.hs i
 ln:M.hs.length<=M.nx
theorem MI.hb(h:MI M)(hn:M.nx<576460752303423488)(i:Int):rfA M.S.po i<1152921504606846976:=by
 by_cases e:i=0
 .rw[e,Ar7 h.si.sc.po];omega
 .rw[h.rf i e];have:=@X5 i M.hs;have:=h.ln;omega
def Mn.Ba(M:Mn)(h:Int):Option B.Fn:=(Ac M.hs h).map (B.den (tbl M.S.po))
theorem MI.Ax1(h:MI M):M.Ba 0=some (λ_=>false):=by unfold Mn.Ba;rw[h.k0];simp [B.Jo]
theorem MI.A3c(h:MI M):M.Ba 1=some (λ_=>true):=by unfold Mn.Ba;rw[h.k1];simp [B.Pq]
theorem Mn.Ju{h:Int}{F:B.Fn}(k:M.Ba h=some F):∃e,Ac M.hs h=some e/\B.den (tbl M.S.po) e=F:=by
 unfold Mn.Ba at k;cases he:Ac M.hs h with
 |none=>rw[he]at k;cases k
 |some e=>rw[he]at k;cases k;exact⟨e,rfl,rfl⟩
theorem Mn.X2{h:Int}:M.Ba h=none↔Ac M.hs h=none:=by unfold Mn.Ba;cases Ac M.hs h<;>simp
structure MHs(M M':Mn):Prop where
 bs:F8 M M'
 tbl:tbl M'.S.po=tbl M.S.po
 lv:M'.S.lv=M.S.lv
 room:M'.S.po.room=M.S.po.room
 many:M'.S.po.many=M.S.po.many
 me:M'.me=M.me
 ws:M'.ws=M.ws
 ca:M'.ca=M.ca
theorem MHs.refl:MHs M M:=⟨⟨rfl,rfl,rfl,rfl,rfl⟩,rfl,rfl,rfl,rfl,rfl,rfl,rfl⟩
theorem MHs.trans{M' M'':Mn}(h:MHs M M')(k:MHs M' M''):MHs M M'':=⟨⟨k.bs.sb.trans h.bs.sb,k.bs.mb.trans h.bs.mb,k.bs.bl.trans h.bs.bl,k.bs.bp.trans h.bs.bp,k.bs.tb.trans h.bs.tb⟩,k.tbl.trans h.tbl,k.lv.trans h.lv,k.room.trans h.room,k.many.trans h.many,k.me.trans h.me,k.ws.trans h.ws,k.ca.trans h.ca⟩
def Mn.wh(M:Mn)(S:Sto)(hs:List (Int×Int))(nx:Int):Mn:={M with S:=S,hs:=hs,nx:=nx}
theorem MnH.A7i(h:MnH H b M)(hS:Dc H' M.sb S)(f:FrE M.sb M.S H H')(hs:List (Int×Int))(nx:Int):H' b=some (.st Eo M.ob)/\MnH (Ab H' b (.st Eo (M.wh S hs nx).ob)) b (M.wh S hs nx)/\FrM b M H (Ab H' b (.st Eo (M.wh S hs nx).ob)):=by
 have hb:=h.st.Cq h.ob (by decide) (by decide) (by decide) (by decide) f;have hm:=h.st.Cq h.me (by decide) (by decide) (by decide) (by decide) f;refine⟨hb,⟨Aj _ _ _,hS.other hb (by decide) (by decide) (by decide) (by decide),?_⟩,λc a1 a2 a3 a4 a5 a6=>?_⟩
 .show Ab H' b _ M.mb=some (.st Da M.me);rw[Ad _ _ (By h.me h.ob (by decide))];exact hm
 .rw[Ad _ _ a1];exact f c a3 a4 a5 a6
variable {X:PX}
theorem Aee{f:Int}{Q:Int×Unit->UU}(hM:MnH H b M)(hI:MI M)(hn:M.nx<576460752303423488)(hf:B.Ok (tbl M.S.po) f)(h:∀M' H',MnH H' b M'->MI M'->MHs M M'->M'.nx=M.nx+1->M'.hs.length=M.hs.length+1->(∀g,M'.Ba g=if g=M.nx then some (B.den (tbl M.S.po) f) else M.Ba g)->FrM b M H H'->Q (M.nx,()) () H'):Wp Y0 Pp Ly (some b,f,()) H Q X:=by
 refine Aiv _ _ _ _ _ ?_;unfold Zc;refine⟨b,rfl,M.ob,hM.ob,rfl,Ain hM.st hI.si (hI.hb hn) (λh=>absurd hf h) λS' H' _ hS' hI' hr fr=>?_⟩;obtain⟨q1,q2,q3⟩:=hM.A7i hS' fr (C4 M.hs M.nx f) (M.nx+1);have h2:=hI.nx;have hnew:Ac M.hs M.nx=none:=by
  cases e:Ac M.hs M.nx with
  |none=>rfl
  |some x=>have:=(hI.ok _ _ e).2.2;omega
 refine⟨M.ob,q1,λ_=>⟨Bk.2 (by show _<=M.nx+1/\M.nx+1<=_;omega),h _ _ q2 ⟨hI',?_,?_,?_,?_,?_,?_,?_⟩ ⟨⟨rfl,rfl,hr.bl,hr.bp,hr.tb⟩,hr.tbl,hr.lv,hr.room,hr.many,rfl,rfl,rfl⟩ rfl (Ab5 (i:=0) hnew).2 (λg=>?_) q3⟩⟩
 .exact Pm hI.nd _ _
 .intro g e he;have he':Ac (C4 M.hs M.nx f) g=some e:=he;rw[D4]at he';show B.Ok (tbl S'.po) e/\0<=g/\g<M.nx+1;rw[hr.tbl];split at he'
  .rename_i eg;cases he';exact⟨hf,by omega,by omega⟩
  .have:=hI.ok g e he';exact⟨this.1,this.2.1,by omega⟩
 .show Ac (C4 M.hs M.nx f) 0=_;rw[D4,if_neg (by omega)];exact hI.k0
 .show Ac (C4 M.hs M.nx f) 1=_;rw[D4,if_neg (by omega)];exact hI.k1
 .show 2<=M.nx+1;omega
 .intro i hi;show rfA S'.po i=Qg (C4 M.hs M.nx f) i;rw[hr.rf i hi,(Ab5 hnew).1,hI.rf i hi]
 .show ((C4 M.hs M.nx f).length:Int)<=M.nx+1;have:=(Ab5 (i:=0) (v:=f) hnew).2;have:=hI.ln;omega
 .show (Ac (C4 M.hs M.nx f) g).map (B.den (tbl S'.po))=_;rw[D4,hr.tbl];by_cases e:g=M.nx
  .rw[if_pos e,if_pos e];rfl
  .rw[if_neg e,if_neg e];rfl
theorem Aok{g:Int}{Q:Int×Int×Unit->UU}(hM:MnH H b M)(hI:MI M)(hn:M.nx<576460752303423488)(h8:M.Ba g=none->Q (0,8,()) () H)(h:∀F M' H',M.Ba g=some F->MnH H' b M'->MI M'->MHs M M'->M'.nx=M.nx+1->M'.hs.length=M.hs.length+1->(∀k,M'.Ba k=if k=M.nx then some F else M.Ba k)->FrM b M H H'->Q (M.nx,0,()) () H'):Wp Y0 Jw Hq (some b,g,()) H Q X:=by
 refine Ai4 _ _ _ _ _ ?_;unfold Zl;refine⟨λh=>absurd h (by simp),λ_=>⟨b,rfl,M.ob,hM.ob,λhs=>⟨rfl,h8 (Mn.X2.2 ?_)⟩,λhs=>⟨rfl,?_⟩⟩⟩
 .have hs':¬(Ac M.hs g).isSome=true:=hs;simpa using hs'
 .have hs':¬¬(Ac M.hs g).isSome=true:=hs;obtain⟨e,he⟩:=Option.isSome_iff_exists.1 (Classical.not_not.1 hs');have hx:(Ac M.ob.Ah g).getD 0=e:=by show (Ac M.hs g).getD 0=e;rw[he];rfl
  rw[hx];have hF:M.Ba g=some (B.den (tbl M.S.po) e):=by unfold Mn.Ba;rw[he];rfl
  exact Aee hM hI hn (hI.ok _ _ he).1 λM' H' a1 a2 a3 a4 a5 a6 a7=>h _ M' H' hF a1 a2 a3 a4 a5 a6 a7
theorem Aog{f g:Int}{Q:Bool×Int×Unit->UU}(hM:MnH H b M)(hI:MI M)(h8:M.Ba f=none∨M.Ba g=none->Q (false,8,()) () H)(h:∀F G,M.Ba f=some F->M.Ba g=some G->∀t:Bool,(t=true↔F=G)->Q (t,0,()) () H):Wp Y0 Er D8 (some b,f,g,()) H Q X:=by
 refine Aiy _ _ _ _ _ _ ?_;unfold Zf;refine⟨λh=>absurd h (by simp),λ_=>⟨b,rfl,M.ob,hM.ob,λhs=>⟨rfl,h8 (.inl (Mn.X2.2 ?_))⟩,λhs=>⟨λht=>⟨rfl,h8 (.inr (Mn.X2.2 ?_))⟩,λht=>⟨rfl,?_⟩⟩⟩⟩
 .have hs':¬(Ac M.hs f).isSome=true:=hs;simpa using hs'
 .have hs':¬(Ac M.hs g).isSome=true:=ht;simpa using hs'
 .have hs':¬¬(Ac M.hs f).isSome=true:=hs;have ht':¬¬(Ac M.hs g).isSome=true:=ht;obtain⟨e,he⟩:=Option.isSome_iff_exists.1 (Classical.not_not.1 hs');obtain⟨d,hd⟩:=Option.isSome_iff_exists.1 (Classical.not_not.1 ht');refine h _ _ (by unfold Mn.Ba;rw[he];rfl) (by unfold Mn.Ba;rw[hd];rfl) _ ?_;have h1:(Ac M.ob.Ah f).getD 0=e:=by show (Ac M.hs f).getD 0=e;rw[he];rfl
  have h2:(Ac M.ob.Ah g).getD 0=d:=by show (Ac M.hs g).getD 0=d;rw[hd];rfl
  rw[h1,h2,decide_eq_true_iff];exact hI.si.C6.eq_iff Sto.P4 (hI.ok _ _ he).1 (hI.ok _ _ hd).1
end
section
def Ub:List Int->List (Int×Int)->List (Int×Int)×Int
 | [],hs=>(hs,0)
 |g::l,hs=>if (Ac hs g).isSome=true then Ub l (if 1<g then Ez hs g else hs) else (hs,8)
theorem Aoj{b:Nat}{M:Mn}{l:List Int}{H:HY}{X:PX}{Q:Int×Unit->UU}(hM:MnH H b M)(hI:MI M)(hn:M.nx<576460752303423488)(h:∀M' H',MnH H' b M'->MI M'->MHs M M'->M'.nx=M.nx->M'.hs=(Ub l M.hs).1->FrM b M H H'->Q ((Ub l M.hs).2,()) () H'):Wp Y0 Ht Gg (some b,l,()) H Q X:=by
 refine Ai2 _ _ _ _ _ ?_;unfold Zj;refine⟨λh=>absurd h (by simp),λ_ hlen=>⟨λn x H'=>n=l.length-x.1/\x.1<=l.length/\∃M',MnH H' b M'/\MI M'/\MHs M M'/\M'.nx=M.nx/\Ub (l.drop x.1) M'.hs=Ub l M.hs/\FrM b M H H',⟨_,rfl,Nat.zero_le _,M,hM,hI,MHs.refl,rfl,rfl,FrM.refl⟩,?_⟩⟩;rintro n ⟨k,_⟩ H' ⟨hnk,hk,M',hM',hI',hh,hnx,hd,fr⟩;refine⟨λhkl _=>?_,λhkl=>?_⟩
 .have hkl':k<l.length:=hkl;refine⟨hkl,b,rfl,M'.ob,hM'.ob,?_⟩;have hcons:l.drop k=l[k]::l.drop (k+1):=List.drop_eq_getElem_cons hkl';rw[hcons,Ub]at hd;refine⟨λhs=>⟨rfl,?_⟩,λhs=>?_⟩
  .have hs':¬(Ac M'.hs l[k]).isSome=true:=hs;rw[if_neg hs']at hd;have:=h M' H' hM' hI' hh hnx (by rw[<-hd]) fr;rw[<-hd]at this;exact this
  .have hs':¬¬(Ac M'.hs l[k]).isSome=true:=hs;have hs2:=Classical.not_not.1 hs';rw[if_pos hs2]at hd;obtain⟨e,he⟩:=Option.isSome_iff_exists.1 hs2;refine⟨λhg=>⟨rfl,?_⟩,λhg=>?_⟩
   .have hg':1<l[k]:=hg;rw[if_pos hg']at hd;have hx:(Ac M'.ob.Ah l[k]).getD 0=e:=by show (Ac M'.hs l[k]).getD 0=e;rw[he];rfl
    have hok:=(hI'.ok _ _ he).1;obtain⟨d1,d2⟩:=λi=>(Ab6 (i:=i) he).1,(Ab6 (i:=0) he).2;have hn':M'.nx<576460752303423488:=by rw[hnx];exact hn
    have go:∀S' H2,Dc H2 M'.sb S'->SI S'->Amx M'.S S' (λi=>rfA M'.S.po i-B.dl e i)->FrE M'.sb M'.S H' H2->
      ∃(x_2:Au),H2 b=some (Ob.st Eo x_2)/\k+1<=9223372036854775807/\∃(m:Nat),m<n/\(m=l.length-(k+1)/\k+1<=l.length/\∃M2,MnH (Ab H2 b (Ob.st Eo {x_2 with Ah:=Ez x_2.Ah l[k]})) b M2/\MI M2/\MHs M M2/\M2.nx=M.nx/\Ub (l.drop (k+1)) M2.hs=Ub l M.hs/\FrM b M H (Ab H2 b (Ob.st Eo {x_2 with Ah:=Ez x_2.Ah l[k]}))):=by
     intro S' H2 hS' hSI hr hfr
     obtain⟨q1,q2,q3⟩:=hM'.A7i hS' hfr (Ez M'.hs l[k]) M'.nx
     refine⟨M'.ob,q1,by show k+1<=_;omega,l.length-(k+1),by omega,rfl,by omega,M'.wh S' (Ez M'.hs l[k]) M'.nx,q2,?_,hh.trans ⟨⟨rfl,rfl,hr.bl,hr.bp,hr.tb⟩,hr.tbl,hr.lv,hr.room,hr.many,rfl,rfl,rfl⟩,hnx,hd,fr.trans q3 hh.bs⟩
     have hmg:∀j,Ac (Ez M'.hs l[k]) j=if j=l[k] then none else Ac M'.hs j:=λj=>Nc hI'.nd _ _
     refine⟨hSI,Abx hI'.nd _,λg e' hg2=>?_,?_,?_,hI'.nx,λi hi=>?_,?_⟩
     .have hg3:Ac (Ez M'.hs l[k]) g=some e':=hg2
      rw[hmg]at hg3
      split at hg3
      .cases hg3
      .show B.Ok (tbl S'.po) e'/\_
       rw[hr.tbl];exact hI'.ok g e' hg3
     .show Ac (Ez M'.hs l[k]) 0=_
      rw[hmg,if_neg (by omega)];exact hI'.k0
     .show Ac (Ez M'.hs l[k]) 1=_
      rw[hmg,if_neg (by omega)];exact hI'.k1
     .show rfA S'.po i=Qg (Ez M'.hs l[k]) i
      rw[hr.rf i hi,d1,hI'.rf i hi]
     .show ((Ez M'.hs l[k]).length:Int)<=M'.nx
      have:=hI'.ln;omega
    rw[hx];refine Aio hM'.st hI'.si (hI'.hb hn') (λh=>absurd hok h) (λ_ h0=>?_) (λ_ h0 h5=>?_) λS' H2 _ _ _ hS' hSI hr hfr=>go S' H2 hS' hSI hr hfr
    .exact go M'.S H' hM'.st hI'.si ⟨rfl,λj hj=>by rw[B.Qw (by omega)];omega,rfl,rfl,rfl,rfl,rfl,rfl,rfl⟩ FrE.refl
    .exfalso;rw[hI'.rf _ h0]at h5;have h6:=d1 (e/2);rw[B.Lj,h5]at h6;have:=@X5 (e/2) (Ez M'.hs l[k]);omega
   .have hg':¬1<l[k]:=hg;rw[if_neg hg']at hd;exact⟨by show k+1<=_;omega,l.length-(k+1),by omega,rfl,rfl,by show k+1<=_;omega,M',hM',hI',hh,hnx,hd,fr⟩
 .have hkl':¬k<l.length:=hkl;have hd':Ub (l.drop k) M'.hs=Ub l M.hs:=hd;rw[List.drop_eq_nil_of_le (by omega),Ub]at hd';have:=h M' H' hM' hI' hh hnx (by rw[<-hd']) fr;rw[<-hd']at this;exact this
section
variable {b:Nat} {M:Mn} {H:HY} {X:PX}
variable {Q:Int×Unit->UU}
theorem Agw(hM:MnH H b M)(hI:MI M)(hn:M.nx<576460752303423488)(h:Q (M.hs.length,()) () H):Wp Y0 Oz K9 (some b,()) H Q X:=by refine Adv _ _ _ _ ?_;unfold Ud;refine⟨λh=>absurd h (by simp),λ_=>⟨b,rfl,M.ob,hM.ob,?_⟩⟩;have:=hI.ln;exact⟨by show M.hs.length<=_;omega,rfl,h⟩
theorem Ab0{yes:Bool}(h:Q ((if yes=true then 1 else 0),()) () H):Wp Y0 N3 Kg (some b,yes,()) H Q X:=by
 refine Aho _ _ _ _ _ ?_;unfold Xf;refine⟨λh=>absurd h (by simp),λ_=>⟨λhy=>?_,λhy=>?_⟩⟩
 .rw[if_neg hy]at h;exact h
 .rw[if_pos (Classical.not_not.1 hy)]at h;exact h
theorem P5(hM:MnH H b M)(hI:MI M)(h:Q (M.S.n,()) () H):Wp Y0 Gj Fl (some b,()) H Q X:=by
 refine Aiw _ _ _ _ ?_;unfold Zd;refine⟨λh=>absurd h (by simp),λ_=>⟨b,rfl,M.ob,hM.ob,rfl,Ail hM.st ?_⟩⟩;have e:(M.S.lv.vars.length:Int)=M.S.n:=by rw[hI.si.vl];rfl
 show Q ((M.S.lv.vars.length:Int),()) () H;rw[e];exact h
end
end
section
structure CxH(H:HY)(c b:Nat)(M:Mn):Prop where
 cx:H c=some (Ob.st (Y:=Y0) Gr (⟨some b⟩:Fk))
 man:MnH H b M
def A0z(e:Int):Lf Y0.D:={t:=Ty.u 15,x:=({err:=e,event:=false,ev:={Gx:=(0:Int),Kind:=(0:Int),Level:=(0:Int):Ch}}:Ik)}
theorem MnH.Cq{H H':HY}{b c m:Nat}{M:Mn}{x:Y0.O m}(h:MnH H b M)(hc:H c=some (.st m x))(h0:m≠Eo)(h5:m≠Da)(h1:m≠A8)(h2:m≠Eb)(h3:m≠Ek)(h4:m≠Ct)(f:FrM b M H H'):H' c=some (.st m x):=by
 rw[f c (By hc h.ob h0) (By hc h.me h5) (By hc h.st.st h1) (By hc h.st.lv h2) (By hc h.st.po h3) (λhm=>?_)]
 .exact hc
 .obtain⟨v,hv,e⟩:=List.mem_iff_getElem.1 hm;exact By hc (h.st.ta v hv) h4 e.symm
variable {M':Mn}
theorem A8r{M:Mn}(h:MI M)(e:Ni M.S M'.S)(g x:Int)(hx:Ac M.hs g=some x):B.den (tbl M'.S.po) x=B.den (tbl M.S.po) x:=e.den h.si (h.ok _ _ hx).1
theorem A3h{F G:Int->B.Fn}{o:Option Int}(key:∀x,o=some x->F x=G x):o.map F=o.map G:=by
 cases o with
 |none=>rfl
 |some x=>exact congrArg some (key x rfl)
theorem A8q{M:Mn}(hs:M'.hs=M.hs)(g:Int)(key:∀x,Ac M.hs g=some x->B.den (tbl M'.S.po) x=B.den (tbl M.S.po) x):M'.Ba g=M.Ba g:=by have:=A3h key;unfold Mn.Ba;rw[hs];exact this
theorem MI.A8s{M:Mn}(h:MI M)(hs:M'.hs=M.hs)(hn:M'.nx=M.nx)(hS:SI M'.S)(e:Ni M.S M'.S):MI M':=by
 constructor
 .exact hS
 .rw[hs];exact h.nd
 .intro g x hg;rw[hs]at hg;have:=h.ok g x hg;exact⟨this.1.ext e.tbl,this.2.1,by rw[hn];exact this.2.2⟩
 .rw[hs];exact h.k0
 .rw[hs];exact h.k1
 .rw[hn];exact h.nx
 .intro i hi;rw[hs,<-h.rf i hi];exact e.rf i
 .rw[hs,hn];exact h.ln
theorem MI.ext{M:Mn}(h:MI M)(hs:M'.hs=M.hs)(hn:M'.nx=M.nx)(hS:SI M'.S)(e:Ni M.S M'.S):MI M'/\∀g,M'.Ba g=M.Ba g:=⟨h.A8s hs hn hS e,λg=>A8q hs g (A8r h e g)⟩
section
variable {c b:Nat} {M:Mn} {H:HY} {X:PX} {f v:Int}
variable {Q:Int×Unit->UU}
theorem Kv(hC:CxH H c b M)(h:Q (lvA M.S.lv v,()) () H):Wp Y0 Ew D9 (some c,v,()) H Q X:=by refine Ahr _ _ _ _ _ ?_;exact⟨c,rfl,⟨some b⟩,hC.cx,b,rfl,rfl,M.ob,hC.man.ob,rfl,Ke hC.man.st h⟩
theorem Aq5{g:Int}(hC:CxH H c b M)(h0:Ac M.hs g=none->X 231 (A0z 8) H)(h:∀e,Ac M.hs g=some e->Q (e,()) () H):Wp Y0 Jx Hr (some c,g,()) H Q X:=by
 refine Ai5 _ _ _ _ _ ?_;refine⟨c,rfl,⟨some b⟩,hC.cx,b,rfl,rfl,M.ob,hC.man.ob,λhs=>⟨rfl,h0 ?_⟩,λhs=>⟨rfl,?_⟩⟩
 .have hs':¬(Ac M.hs g).isSome=true:=hs;simpa using hs'
 .have hs':¬¬(Ac M.hs g).isSome=true:=hs;obtain⟨e,he⟩:=Option.isSome_iff_exists.1 (Classical.not_not.1 hs');have hx:(Ac M.ob.Ah g).getD 0=e:=by show (Ac M.hs g).getD 0=e;rw[he];rfl
  rw[hx];exact h e he
theorem Xg{Q:Int×Int×Unit->UU}(hC:CxH H c b M)(hI:SI M.S)(hf:B.Ok (tbl M.S.po) f)(h:Q ((B.sp (tbl M.S.po) v f).1,(B.sp (tbl M.S.po) v f).2,()) () H):Wp Y0 Dr Db (some c,f,v,()) H Q X:=by
 refine Ahp _ _ _ _ _ _ ?_;have hP:=hI.sc.po;refine⟨c,rfl,⟨some b⟩,hC.cx,b,rfl,rfl,M.ob,hC.man.ob,rfl,R8 hC.man.st hP hf (λh0=>⟨λ_=>?_,λh=>absurd (by simp) h⟩) λd h0 hd=>⟨λh=>absurd rfl h,λ_=>⟨λhv=>?_,λhv=>?_⟩⟩⟩
 .have:B.sp (tbl M.S.po) v f=(f,f):=by unfold B.sp;rw[h0,A2z hP]
  rw[this]at h;exact h
 .have:B.sp (tbl M.S.po) v f=(f,f):=by unfold B.sp;rw[hd];exact if_neg hv
  rw[this]at h;exact h
 .have:B.sp (tbl M.S.po) v f=(B.fl d.lo f,B.fl d.hi f):=by unfold B.sp;rw[hd];exact if_pos (by simpa using hv)
  rw[this]at h;exact h
def Azw(S:Sto)(l:List Int)(k:Nat)(v w:Int):Prop:=(v=-1/\∀j(_:j<l.length),j<k->l[j]/2=0)∨(0<=v/\v<S.n/\w=lvA S.lv v/\(∀j(_:j<l.length),j<k->lvA S.lv v<=B.el S.n (lvA S.lv) (tbl S.po) l[j])/\∃j,∃(_:j<l.length),j<k/\B.el S.n (lvA S.lv) (tbl S.po) l[j]=lvA S.lv v)
theorem Avd{l:List Int}(hC:CxH H c b M)(hI:SI M.S)(hl:∀f∈l,B.Ok (tbl M.S.po) f)(h:∀v w,Azw M.S l l.length v w->Q (v,()) () H):Wp Y0 N4 Lb (some c,l,()) H Q X:=by
 refine Amk _ _ _ _ _ λhlen=>?_;refine⟨λn x H'=>H'=H/\n=l.length-x.2.2.1/\x.2.2.1<=l.length/\Azw M.S l x.2.2.1 x.1 x.2.1,⟨_,rfl,rfl,Nat.zero_le _,.inl ⟨rfl,λj _ hj=>absurd hj (Nat.not_lt_zero j)⟩⟩,?_⟩;rintro n ⟨v,w,k,_⟩ H' ⟨rfl,hn0,hk0,hT0⟩;have hn:n=l.length-k:=hn0;have hk:k<=l.length:=hk0;have hT:Azw M.S l k v w:=hT0;clear hn0 hk0 hT0;refine⟨λhkl _=>?_,λhkl=>?_⟩
 .have hkl':k<l.length:=hkl;have hf:B.Ok (tbl M.S.po) l[k]:=hl _ (List.getElem_mem hkl');refine⟨hkl,c,rfl,⟨some b⟩,hC.cx,b,rfl,rfl,M.ob,hC.man.ob,rfl,?_⟩;have stp:∀v' w',Azw M.S l (k+1) v' w'->k+1<=9223372036854775807/\∃m,m<n/\(H'=H'/\m=l.length-(k+1)/\k+1<=l.length/\Azw M.S l (k+1) v' w'):=λv' w' ht=>⟨by show k+1<=_;omega,l.length-(k+1),by omega,rfl,rfl,by omega,ht⟩
  refine R8 hC.man.st hI.sc.po hf (λh0=>⟨λh=>(by cases h),λ_=>stp v w ?_⟩) λd h0 hd=>⟨λ_=>⟨λhneg=>Kv hC (stp _ _ ?_),λhneg=>Kv hC ⟨λhlt=>Kv hC (stp _ _ ?_),λhlt=>stp v w ?_⟩⟩,λh=>absurd rfl h⟩
  .rcases hT with ⟨e,ht⟩|⟨a1,a2,a3,ht,jx,jx1,jx2,jx3⟩
   .refine .inl ⟨e,λj hj hjk=>?_⟩;by_cases ej:j=k
    .subst ej;exact h0
    .exact ht j hj (by omega)
   .refine .inr ⟨a1,a2,a3,λj hj hjk=>?_,jx,jx1,by omega,jx3⟩;by_cases ej:j=k
    .subst ej;rw[B.Dt h0];have:=(hI.C6.od.rng v a1 a2).2;omega
    .exact ht j hj (by omega)
  .have hneg':v<0:=hneg;rcases hT with ⟨e,ht⟩|⟨a1,a2,a3,ht,jx,jx1,jx2,jx3⟩
   .have hv:=hI.C6.var hd;refine .inr ⟨hv.2.1,hv.2.2,rfl,λj hj hjk=>?_,k,hkl',by omega,B.Bz h0 hd⟩;by_cases ej:j=k
    .subst ej;rw[B.Bz h0 hd];exact Int.le_refl _
    .rw[B.Dt (ht j hj (by omega))];have:=(hI.C6.od.rng d.v hv.2.1 hv.2.2).2;show lvA M.S.lv d.v<=_;omega
   .omega
  .have hneg':¬v<0:=hneg;have hlt':lvA M.S.lv d.v<w:=hlt;rcases hT with ⟨e,ht⟩|⟨a1,a2,a3,ht,jx,jx1,jx2,jx3⟩
   .omega
   .have hv:=hI.C6.var hd;refine .inr ⟨hv.2.1,hv.2.2,rfl,λj hj hjk=>?_,k,hkl',by omega,B.Bz h0 hd⟩;by_cases ej:j=k
    .subst ej;rw[B.Bz h0 hd];exact Int.le_refl _
    .have:=ht j hj (by omega);show lvA M.S.lv d.v<=_;omega
  .have hneg':¬v<0:=hneg;have hlt':¬lvA M.S.lv d.v<w:=hlt;rcases hT with ⟨e,ht⟩|⟨a1,a2,a3,ht,jx,jx1,jx2,jx3⟩
   .omega
   .refine .inr ⟨a1,a2,a3,λj hj hjk=>?_,jx,jx1,by omega,jx3⟩;by_cases ej:j=k
    .subst ej;rw[B.Bz h0 hd];omega
    .exact ht j hj (by omega)
 .have hkl':¬k<l.length:=hkl;have:k=l.length:=by omega
  subst this;exact h v w hT
end
def Mn.wk(M:Mn)(S:Sto):Mn:={M with S:=S,ca:=Go.IntKind.wrap .i64 (M.ca+1)}
def Mn.we(M:Mn)(ws:List Ch):Mn:={M with ws:=ws,ca:=0}
def pEv(ev:Ch):Lf Y0.D:={t:=Ty.u 15,x:=({err:=(0:Int),event:=true,ev:=ev}:Ik)}
theorem CxH.set{H:HY}{c b:Nat}{M M':Mn}(hC:CxH H c b M)(e:F8 M M')(hS:M'.S=M.S)(hm:M'.me=M.me):CxH (Ab H b (.st Eo M'.ob)) c b M'/\FrM b M H (Ab H b (.st Eo M'.ob)):=by
 have f0:FrM b M H (Ab H b (.st Eo M'.ob)):=FrM.set;refine⟨⟨hC.man.Cq hC.cx (by decide) (by decide) (by decide) (by decide) (by decide) (by decide) f0,Aj _ _ _,?_,?_⟩,f0⟩
 .rw[e.sb,hS];exact hC.man.st.other hC.man.ob (by decide) (by decide) (by decide) (by decide)
 .rw[e.mb,hm,Ad _ _ (By hC.man.me hC.man.ob (by decide))];exact hC.man.me
theorem Ay7{c b:Nat}{M:Mn}{v lo hi:Int}{H:HY}{X:PX}{Q:Int×Unit->UU}(hC:CxH H c b M)(hI:SI M.S)(hv:0<=v/\v<M.S.n)(hlo:B.Ok (tbl M.S.po) lo)(hhi:B.Ok (tbl M.S.po) hi)(hl1:lvA M.S.lv v<B.el M.S.n (lvA M.S.lv) (tbl M.S.po) lo)(hl2:lvA M.S.lv v<B.el M.S.n (lvA M.S.lv) (tbl M.S.po) hi)(hev:∀ev ws H',M.ws=ev::ws->CxH H' c b (M.we ws)->FrM b M H H'->X 231 (pEv ev) H')(h7:∀H',M.S.po.many=M.S.po.room->CxH H' c b (M.wk M.S)->FrM b M H H'->X 231 (A0z 7) H')(h:∀e S' H',CxH H' c b (M.wk S')->SI S'->Ni M.S S'->FrM b M H H'->B.Ok (tbl S'.po) e->B.den (tbl S'.po) e=(λa=>if a v=true then B.den (tbl M.S.po) hi a else B.den (tbl M.S.po) lo a)->lvA M.S.lv v<=B.el M.S.n (lvA M.S.lv) (tbl S'.po) e->
   (∀i d,tbl S'.po i=some d->tbl M.S.po i=some d∨(i=e/2/\d.v=v))->Q (e,()) () H') :
  Wp Y0 Hm Gh (some c,v,lo,hi,()) H Q X:=by
 refine Apc _ _ _ _ _ _ _ ?_
 unfold Ael
 have main:Wp Y0 Iu Gl (some M.sb,v,lo,hi,()) (Ab H b (.st Eo (M.wk M.S).ob)) (λ(b:Int×Int×Unit)_ H'=>(¬b.2.1=(0:Int)->X 231 (A0z b.2.1) H')/\(¬¬b.2.1=(0:Int)->Q (b.1,()) () H')) X:=by
  obtain⟨c0,f0⟩:=hC.set (M':=M.wk M.S) ⟨rfl,rfl,rfl,rfl,rfl⟩ rfl rfl;refine Ane (S:=M.S) c0.man.st hI (λh=>absurd hv h) (λh=>absurd ⟨hlo,hhi⟩ h) (λ_ _ _ _ h=>absurd ⟨hl1,hl2⟩ h) (λhm=>⟨λ_=>h7 _ hm c0 f0,λh=>absurd (by simp) h⟩) λe S' H' _ _ _ _ _ _ s1 hI' hE f1 ho hd hle hnew=>⟨λh=>absurd rfl h,λ_=>?_⟩
  have f1':FrM b (M.wk M.S) (Ab H b (.st Eo (M.wk M.S).ob)) H':=FrE.frm (M:=M.wk M.S) f1;refine h e S' H' ⟨c0.man.Cq c0.cx (by decide) (by decide) (by decide) (by decide) (by decide) (by decide) f1',?_,s1,?_⟩ hI' hE (f0.trans f1' ⟨rfl,rfl,rfl,rfl,rfl⟩) ho hd hle hnew
  .exact c0.man.st.Cq c0.man.ob (by decide) (by decide) (by decide) (by decide) f1
  .exact c0.man.st.Cq c0.man.me (by decide) (by decide) (by decide) (by decide) f1
 refine⟨c,rfl,⟨some b⟩,hC.cx,b,rfl,rfl,M.ob,hC.man.ob,λ_=>⟨λhw=>?_,λ_=>main⟩⟩
 have hw':0<M.ws.length:=hw
 refine⟨λ_=>by decide,hw,hw,λ_=>⟨λ_=>by decide,hw,hw,by decide,by show 1<=M.ws.length;omega,?_⟩,λ_=>main⟩
 cases hws:M.ws with
 |nil=>rw[hws]at hw';simp at hw'
 |cons ev ws=>
  obtain⟨c0,f0⟩:=hC.set (M':=M.we ws) ⟨rfl,rfl,rfl,rfl,rfl⟩ rfl rfl;have hx:=hev ev ws _ hws c0 f0;have e1:M.ob.waits[(0:Int).toNat]'hw=ev:=by
   have:∀(l:List Ch)(hl:(0:Int).toNat<l.length),l=ev::ws->l[(0:Int).toNat]=ev:=λl hl e=>by subst e;rfl
   exact this _ _ hws
  have e2:List.drop (Int.toNat 1) M.ob.waits=ws:=by show List.drop 1 M.ws=ws;rw[hws];rfl
  rw[e1,e2];exact hx
end
end Go.Proofs.YtcbkbpjlbmalmaaGreatDoor
