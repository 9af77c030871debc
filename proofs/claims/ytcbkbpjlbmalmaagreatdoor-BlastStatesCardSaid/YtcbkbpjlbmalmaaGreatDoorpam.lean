/-
  What is to be shown of functions, as computed from their code; and that it suffices. (Merged by program out of 8 texts.)
-/
import Derived.Test.YtcbkbpjlbmalmaaGreatDoorpal
open Go.IntKind (u64)
namespace Go.Proofs.YtcbkbpjlbmalmaaGreatDoor
open Go Go.X Go.Y
section
set_option maxRecDepth 100000
set_option maxHeartbeats 2000000
def Wr(m:Option Nat)(l:List B0)(H:HY)(Q:Int×Int×Unit->UU)(X:PX):=(m=none->Q (0,5,()) () H)/\(¬m=none->Wp Y0 Mg Jy (m,l,()) H (λ(b:Int×Unit)_ G=>(¬b.1=0->Q (0,b.1,()) () G)/\(¬¬b.1=0->Wp Y0 L8 JN (m,λ(a:Option Nat×Unit)(H:HY)(Q:Int×Unit->HP)(X:Nat->Lf Y0.D->HP)=>Wp Y0 Ss Nl (a.1,l,()) H (λ(b:Int×Unit)(x:Unit)(G:HY)=>Q (b.1,()) G) X,()) G (λ(b:Int×Int×Unit)_ G=>Q (b.1,b.2.1,()) () G) X)) X)
theorem Ae3 m l H Q X(h_:Wr m l H Q X):Wp Y0 HW Gv (m,l,()) H Q X:=wF Tryz.f71 {im:=[3]} h_
def SA(x:Option Nat)(p1:List B0)(H:HY)(Q:Int×Unit->UU)(X:PX):=(0+p1.length)*16<=140737488355328/\(([]++p1).length<=9223372036854775807->∃(V:Nat->List B0×Int×Unit->HP),(∃(n:Nat),V n ([]++p1,0,()) H)/\∀n x1 H,V n x1 H->(x1.2.1<(↑([]++p1).length:Int)->∃(V1:Nat->List B0×Int×Unit->HP),(∃(n:Nat),V1 n (x1.1,x1.2.1,()) H)/\∀n1 x2 H,V1 n1 x2 H->((0:Int)<x2.2.1->Ag .i64 x2.2.1->Ag .i64 (x2.2.1-1)/\(Ag .i64 (x2.2.1-1)->(Ag .i64 (x2.2.1-1)->0<=x2.2.1-1)/\∃(h:(x2.2.1-1).toNat<x2.1.length),∃(h:(x2.2.1-1).toNat<x2.1.length),Ag .i64 x2.2.1->(Ag .i64 x2.2.1->0<=x2.2.1)/\∃(h1:x2.2.1.toNat<x2.1.length),Wp Y0 Db CD (x,x2.1[(x2.2.1-1).toNat].Var,()) H (λ(b:Int×Unit)_ G=>∃(h:x2.2.1.toNat<x2.1.length),Wp Y0 Db CD (x,x2.1[x2.2.1.toNat].Var,()) G (λ(b1:Int×Unit)_ G=>(b.1<b1.1->Ag .i64 x2.2.1->Ag .i64 (x2.2.1-1)/\(Ag .i64 x2.2.1->(Ag .i64 x2.2.1->0<=x2.2.1)/\∃(h:x2.2.1.toNat<x2.1.length),∃(h:x2.2.1.toNat<x2.1.length),Ag .i64 x2.2.1->Ag .i64 (x2.2.1-1)/\(Ag .i64 (x2.2.1-1)->(Ag .i64 (x2.2.1-1)->0<=x2.2.1-1)/\∃(h2:(x2.2.1-1).toNat<x2.1.length),∃(h3:(x2.2.1-1).toNat<x2.1.length),Ag .i64 (x2.2.1-1)->(Ag .i64 (x2.2.1-1)->0<=x2.2.1-1)/\∃(h4:(x2.2.1-1).toNat<x2.1.length),(x2.2.1-1).toNat<x2.1.length/\(Ag .i64 x2.2.1->(Ag .i64 x2.2.1->0<=x2.2.1)/\∃(h5:x2.2.1.toNat<(x2.1.set (x2.2.1-1).toNat x2.1[x2.2.1.toNat]).length),x2.2.1.toNat<(x2.1.set (x2.2.1-1).toNat x2.1[x2.2.1.toNat]).length/\(Ag .i64 x2.2.1->Ag .i64 (x2.2.1-1)/\∃m,m<n1/\V1 m ((x2.1.set (x2.2.1-1).toNat x2.1[x2.2.1.toNat]).set x2.2.1.toNat x2.1[(x2.2.1-1).toNat],x2.2.1-1,()) G)))))/\(¬b.1<b1.1->Ag .i64 x1.2.1->Ag .i64 (x1.2.1+1)/\∃m,m<n/\V m (x2.1,x1.2.1+1,()) G)) X) X/\∃(h2:x2.2.1.toNat<x2.1.length),Wp Y0 Db CD (x,x2.1[(x2.2.1-1).toNat].Var,()) H (λ(b:Int×Unit)_ G=>Wp Y0 Db CD (x,x2.1[x2.2.1.toNat].Var,()) G (λ(b1:Int×Unit)_ G=>(b.1<b1.1->Ag .i64 x2.2.1->Ag .i64 (x2.2.1-1)/\(Ag .i64 x2.2.1->(Ag .i64 x2.2.1->0<=x2.2.1)/\∃(h:x2.2.1.toNat<x2.1.length),∃(h:x2.2.1.toNat<x2.1.length),Ag .i64 x2.2.1->Ag .i64 (x2.2.1-1)/\(Ag .i64 (x2.2.1-1)->(Ag .i64 (x2.2.1-1)->0<=x2.2.1-1)/\∃(h3:(x2.2.1-1).toNat<x2.1.length),∃(h4:(x2.2.1-1).toNat<x2.1.length),Ag .i64 (x2.2.1-1)->(Ag .i64 (x2.2.1-1)->0<=x2.2.1-1)/\∃(h5:(x2.2.1-1).toNat<x2.1.length),(x2.2.1-1).toNat<x2.1.length/\(Ag .i64 x2.2.1->(Ag .i64 x2.2.1->0<=x2.2.1)/\∃(h6:x2.2.1.toNat<(x2.1.set (x2.2.1-1).toNat x2.1[x2.2.1.toNat]).length),x2.2.1.toNat<(x2.1.set (x2.2.1-1).toNat x2.1[x2.2.1.toNat]).length/\(Ag .i64 x2.2.1->Ag .i64 (x2.2.1-1)/\∃m,m<n1/\V1 m ((x2.1.set (x2.2.1-1).toNat x2.1[x2.2.1.toNat]).set x2.2.1.toNat x2.1[(x2.2.1-1).toNat],x2.2.1-1,()) G)))))/\(¬b.1<b1.1->Ag .i64 x1.2.1->Ag .i64 (x1.2.1+1)/\∃m,m<n/\V m (x2.1,x1.2.1+1,()) G)) X) X))/\(¬(0:Int)<x2.2.1->dup (Ag .i64 x1.2.1->Ag .i64 (x1.2.1+1)/\∃m,m<n/\V m (x2.1,x1.2.1+1,()) H)))/\(¬x1.2.1<(↑([]++p1).length:Int)->x1.1.length<=9223372036854775807->∃(V:Nat->Int×List B0×Nat×Unit->HP),(∃(n:Nat),V n (0,x1.1,0,()) H)/\∀n x2 H,V n x2 H->(x2.2.2.1<x1.1.length->x2.2.2.1<=9223372036854775807->∃(h:x2.2.2.1<x2.2.1.length),∃(h:x2.2.2.1<x2.2.1.length),(x2.2.1[x2.2.2.1].Rg=true->Wp Y0 EE DX (x,x2.2.1[x2.2.2.1].Var,1,x2.1,()) H (λ(b:Int×Unit)_ G=>x2.2.2.1+1<=9223372036854775807/\∃m,m<n/\V m (b.1,x2.2.1,x2.2.2.1+1,()) G) X)/\(¬x2.2.1[x2.2.2.1].Rg=true->Wp Y0 EE DX (x,x2.2.1[x2.2.2.1].Var,x2.1,1,()) H (λ(b:Int×Unit)_ G=>x2.2.2.1+1<=9223372036854775807/\∃m,m<n/\V m (b.1,x2.2.1,x2.2.2.1+1,()) G) X))/\(¬x2.2.2.1<x1.1.length->Q (x2.1,()) () H)))
theorem ZI x p1 H Q X(h_:SA x p1 H Q X):Wp Y0 Ss Nl (x,p1,()) H Q X:=wF Tryz.f144 {lp:=[(12,⟨[(7,.one (.dat I6)),(58,.one (.own (.u 11))),(60,.nat)],[0,58,59],true⟩),(6,⟨[(4,.one (.own (.u 11))),(6,.one (.dat I6))],[0,4,14,15],true⟩),(3,⟨[(4,.one (.own (.u 11))),(15,.one (.dat I6))],[0,4,14],true⟩)]} h_
def Qs(m:Option Nat)(l:List B0)(H:HY)(Q:Int×Unit->UU)(X:PX):=l.length<=9223372036854775807->∃(V:Nat->Nat×Unit->HP),(∃(n:Nat),V n (0,()) H)/\∀n x H,V n x H->(x.1<l.length->x.1<=9223372036854775807->∃(h:x.1<l.length),(l[x.1].Var<0->dup (Q (9,()) () H))/\(¬l[x.1].Var<0->Wp Y0 DZ D7 (m,()) H (λ(b:Int×Unit)_ G=>(b.1<=l[x.1].Var->Q (9,()) () G)/\(¬b.1<=l[x.1].Var->x.1+1<=9223372036854775807/\∃m,m<n/\V m (x.1+1,()) G)) X))/\(¬x.1<l.length->l.length<=9223372036854775807->∃(V:Nat->Bool×Nat×Unit->HP),(∃(n:Nat),V n (false,0,()) H)/\∀n x H,V n x H->(x.2.1<l.length->x.2.1<=9223372036854775807->∃(h:x.2.1<l.length),0<=x.2.1/\x.2.1<=l.length/\((List.take (x.2.1-0) (List.drop 0 l)).length<=9223372036854775807->∃(V1:Nat->Bool×(Int×Bool×Unit)×Nat×Unit->HP),(∃(n:Nat),V1 n (x.1,(l[x.2.1].Var,l[x.2.1].Rg,()),0,()) H)/\∀n1 x1 H,V1 n1 x1 H->(x1.2.2.1<(List.take (x.2.1-0) (List.drop 0 l)).length->x1.2.2.1<=9223372036854775807->∃(h:x1.2.2.1<(List.take (x.2.1-0) (List.drop 0 l)).length),(x1.2.1.1=(List.take (x.2.1-0) (List.drop 0 l))[x1.2.2.1].Var->(x1.2.1.1=(List.take (x.2.1-0) (List.drop 0 l))[x1.2.2.1].Var->Q (6,()) () H)/\(¬x1.2.1.1=(List.take (x.2.1-0) (List.drop 0 l))[x1.2.2.1].Var->Q (0,()) () H))/\(¬x1.2.1.1=(List.take (x.2.1-0) (List.drop 0 l))[x1.2.2.1].Var->x1.2.2.1+1<=9223372036854775807/\∃m1,m1<n1/\V1 m1 (decide (x1.2.1.1=(List.take (x.2.1-0) (List.drop 0 l))[x1.2.2.1].Var),(x1.2.1.1,x1.2.1.2.1,()),x1.2.2.1+1,()) H))/\(¬x1.2.2.1<(List.take (x.2.1-0) (List.drop 0 l)).length->x.2.1+1<=9223372036854775807/\∃m,m<n/\V m (x1.1,x.2.1+1,()) H)))/\(¬x.2.1<l.length->(x.1=true->Q (6,()) () H)/\(¬x.1=true->Q (0,()) () H)))
theorem Xx m l H Q X(h_:Qs m l H Q X):Wp Y0 Mg Jy (m,l,()) H Q X:=wF Tryz.f143 {lp:=[(12,⟨[(7,.one (.dat .bool)),(9,.blk [.dat I6,.dat .bool]),(40,.nat)],[1,29,30,31,38,39],true⟩),(9,⟨[(7,.one (.dat .bool)),(31,.nat)],[1,29,30],true⟩),(2,⟨[(14,.nat)],[0,1,12,13],true⟩)],hd:=[(4,[6])]} h_
def Lg(l:Ad)(H:HY)(Q:Int×Unit->UU)(X:PX):=l.Bits.length<=9223372036854775807->∃(V:Nat->Int×Nat×Unit->Prop),(∃(n:Nat),H=H/\V n (0,0,()))/\∀n x,V n x->(x.2.1<l.Bits.length->x.2.1<=9223372036854775807->∃(h:x.2.1<l.Bits.length),Ag .i64 x.1->Ag .i64 l.Bits[x.2.1]->Ag .i64 (x.1+l.Bits[x.2.1])/\x.2.1+1<=9223372036854775807/\∃m,m<n/\H=H/\V m (x.1+l.Bits[x.2.1],x.2.1+1,()))/\(¬x.2.1<l.Bits.length->Q (x.1,()) () H)
theorem Rb l H Q X(h_:Lg l H Q X):Wp Y0 FA Ee (l,()) H Q X:=wF Tryz.f89 {lp:=[(3,⟨[(3,.one (.dat I6)),(9,.nat)],[7,8],false⟩)],im:=[1]} h_
def Lh(l:Ad)(name:ByteArray)(H:HY)(Q:Int×Unit->UU)(X:PX):=l.Ab.length<=9223372036854775807->∃(V:Nat->Int×Unit->Prop),(∃(n:Nat),H=H/\V n (0,()))/\∀n x,V n x->(x.1<(↑l.Ab.length:Int)->Ag .i64 x.1->(Ag .i64 x.1->0<=x.1)/\∃(h:x.1.toNat<l.Ab.length),(l.Ab[x.1.toNat].Name=name->Q (x.1,()) () H)/\(¬l.Ab[x.1.toNat].Name=name->Ag .i64 x.1->Ag .i64 (x.1+1)/\∃m,m<n/\H=H/\V m (x.1+1,())))/\(¬x.1<(↑l.Ab.length:Int)->Q (-1,()) () H)
theorem Rc l name H Q X(h_:Lh l name H Q X):Wp Y0 FB Ef (l,name,()) H Q X:=wF Tryz.f96 {lp:=[(2,⟨[(10,.one (.dat I6))],[1,8,9],false⟩)],im:=[2]} h_
def MJ(l:Ad)(i:Int)(H:HY)(Q:List Int×Unit->UU)(X:PX):=(i<0->Q ([],()) () H)/\(¬i<0->l.Bits.length<=9223372036854775807->((↑l.Bits.length:Int)<=i->Q ([],()) () H)/\(¬(↑l.Bits.length:Int)<=i->Ag .i64 i->(Ag .i64 i->0<=i)/\∃(h:i.toNat<l.Bits.length),∃(V:Nat->List Int×Nat×Unit->Prop),(∃(n:Nat),H=H/\V n ([],0,()))/\∀n x,V n x->((↑x.2.1:Int)<l.Bits[i.toNat]->Ag .i64 i->(Ag .i64 i->0<=i)/\∃(h:i.toNat<l.At.length),Ag .i64 l.At[i.toNat]->x.2.1<=9223372036854775807->Ag .i64 (l.At[i.toNat]+(↑x.2.1:Int))/\(Ag .i64 (l.At[i.toNat]+(↑x.2.1:Int))->Ag .i64 (2*(l.At[i.toNat]+(↑x.2.1:Int)))/\(x.1.length+[(2:Int)*(l.At[i.toNat]+(↑x.2.1:Int))].length)*8<=140737488355328/\x.2.1+1<=9223372036854775807/\∃m,m<n/\H=H/\V m (x.1++[(2:Int)*(l.At[i.toNat]+(↑x.2.1:Int))],x.2.1+1,())))/\(¬(↑x.2.1:Int)<l.Bits[i.toNat]->Q (x.1,()) () H)))
theorem T3 l i H Q X(h_:MJ l i H Q X):Wp Y0 Ft Ec (l,i,()) H Q X:=wF Tryz.f123 {lp:=[(5,⟨[(5,.one (.own I6)),(21,.nat)],[1,2,20],false⟩)],im:=[2]} h_
def LB(l:Ad)(i:Int)(H:HY)(Q:List Int×Unit->UU)(X:PX):=Wp Y0 Ft Ec (l,i,()) H (λ(b:List Int×Unit)_ G=>b.1.length<=9223372036854775807->∃(V:Nat->List Int×Nat×Unit->Prop),(∃(n:Nat),G=G/\V n ([],0,()))/\∀n x,V n x->(x.2.1<b.1.length->x.2.1<=9223372036854775807->∃(h:x.2.1<b.1.length),Ag .i64 b.1[x.2.1]->Ag .i64 (b.1[x.2.1]+1)/\(x.1.length+[b.1[x.2.1]+1].length)*8<=140737488355328/\x.2.1+1<=9223372036854775807/\∃m,m<n/\G=G/\V m (x.1++[b.1[x.2.1]+1],x.2.1+1,()))/\(¬x.2.1<b.1.length->Q (x.1,()) () G)) X
theorem Sw l i H Q X(h_:LB l i H Q X):Wp Y0 Gm E8 (l,i,()) H Q X:=wF Tryz.f53 {lp:=[(3,⟨[(5,.one (.own I6)),(12,.nat)],[10,11],false⟩)],im:=[2]} h_
def MH(l:Ad)(one:Ad×Int×Unit->HY->(List Int×Unit->HP)->PX->Prop)(H:HY)(Q:List Int×Unit->UU)(X:PX):=Wp Y0 FA Ee (l,()) H (λ(b:Int×Unit)_ G=>Ag .i64 b.1->Ag .i64 b.1->0<=b.1/\b.1=b.1/\b.1.toNat*8<=281474976710656/\(l.Ab.length<=9223372036854775807->∃(V:Nat->List Int×Nat×Unit->HP),(∃(n:Nat),V n (List.replicate b.1.toNat (0:Int),0,()) G)/\∀n x H,V n x H->(x.2.1<l.Ab.length->x.2.1<=9223372036854775807->∃(h:x.2.1<l.At.length),(Ag .i64 l.At[x.2.1]->0<=l.At[x.2.1]/\l.At[x.2.1].toNat<=x.1.length/\one (l,(↑x.2.1:Int),()) H (λ(b:List Int×Unit)(G:HY)=>l.At[x.2.1].toNat<=x.1.length/\x.2.1+1<=9223372036854775807/\∃m,m<n/\V m (List.take l.At[x.2.1].toNat x.1++(List.take (min b.1.length (x.1.length-l.At[x.2.1].toNat)) b.1++List.drop (l.At[x.2.1].toNat+min b.1.length (x.1.length-l.At[x.2.1].toNat)) x.1),x.2.1+1,()) G) X)/\one (l,(↑x.2.1:Int),()) H (λ(b:List Int×Unit)(G:HY)=>Ag .i64 l.At[x.2.1]->0<=l.At[x.2.1]/\l.At[x.2.1].toNat<=x.1.length/\l.At[x.2.1].toNat<=x.1.length/\x.2.1+1<=9223372036854775807/\∃m,m<n/\V m (List.take l.At[x.2.1].toNat x.1++(List.take (min b.1.length (x.1.length-l.At[x.2.1].toNat)) b.1++List.drop (l.At[x.2.1].toNat+min b.1.length (x.1.length-l.At[x.2.1].toNat)) x.1),x.2.1+1,()) G) X)/\(¬x.2.1<l.Ab.length->Q (x.1,()) () H))) X
theorem T2 l one H Q X(h_:MH l one H Q X):Wp Y0 GR Fi (l,one,()) H Q X:=wF Tryz.f142 {lp:=[(3,⟨[(5,.one (.own I6)),(13,.nat)],[1,2,5,12],true⟩)],im:=[2]} h_
def Kr(l:Ad)(H:HY)(Q:List Int×Unit->UU)(X:PX):=Wp Y0 GR Fi (l,λ(a:Ad×Int×Unit)(H:HY)(Q:List Int×Unit->HP)(X:Nat->Lf Y0.D->HP)=>Wp Y0 Ft Ec (a.1,a.2.1,()) H (λ(b:List Int×Unit)(x:Unit)(G:HY)=>Q (b.1,()) G) X,()) H (λ(b:List Int×Unit)_ G=>Q (b.1,()) () G) X
theorem PI l H Q X(h_:Kr l H Q X):Wp Y0 Hj EW (l,()) H Q X:=wF Tryz.f69 {im:=[1]} h_
def JT(l:Ad)(H:HY)(Q:List Int×Unit->UU)(X:PX):=Wp Y0 GR Fi (l,λ(a:Ad×Int×Unit)(H:HY)(Q:List Int×Unit->HP)(X:Nat->Lf Y0.D->HP)=>Wp Y0 Gm E8 (a.1,a.2.1,()) H (λ(b:List Int×Unit)(x:Unit)(G:HY)=>Q (b.1,()) G) X,()) H (λ(b:List Int×Unit)_ G=>Q (b.1,()) () G) X
theorem ON l H Q X(h_:JT l H Q X):Wp Y0 G5 E9 (l,()) H Q X:=wF Tryz.f70 {im:=[1]} h_
def LC(l:Ad)(s:List Int)(H:HY)(Q:List Bool×Int×Unit->UU)(X:PX):=Wp Y0 OG L0 ({l with Defs:=[],Init:=[],Ade:=[],Next:=[],Trans:=[],Fair:=[],Ac7:=[]},s,()) H (λ(b:Bool×Unit)_ G=>(¬b.1=true->Q ([],21,()) () G)/\(¬¬b.1=true->l.Ab.length<=9223372036854775807->∃(V:Nat->List Bool×Nat×Unit->Prop),(∃(n:Nat),G=G/\V n ([],0,()))/\∀n x,V n x->(x.2.1<l.Ab.length->x.2.1<=9223372036854775807->∃(h:x.2.1<l.Ab.length),x.2.1<=9223372036854775807->∃(h1:x.2.1<s.length),Wp Y0 Wa R5 (l.Ab[x.2.1],()) G (λ(b:Int×Unit)(io:Unit)(H'_1:HY)=>Ag .i64 s[x.2.1]->Ag .i64 b.1->Ag .i64 (s[x.2.1]-b.1)/\(x.2.1<=9223372036854775807->∃(h:x.2.1<l.Bits.length),∃(V1:Nat->List Bool×Int×Nat×Unit->Prop),(∃(n:Nat),H'_1=H'_1/\V1 n (x.1,s[x.2.1]-b.1,0,()))/\∀n1 x1,V1 n1 x1->((↑x1.2.2.1:Int)<l.Bits[x.2.1]->Ag .i64 x1.2.1->¬(2:Int)=0/\Ag .i64 (x1.2.1.tmod 2)/\(x1.1.length+[decide (x1.2.1.tmod (2:Int)=1)].length)*1<=140737488355328/\(Ag .i64 x1.2.1->¬(2:Int)=0/\Ag .i64 (x1.2.1.tdiv 2)/\x1.2.2.1+1<=9223372036854775807/\∃m,m<n1/\H'_1=H'_1/\V1 m (x1.1++[decide (x1.2.1.tmod (2:Int)=1)],x1.2.1.tdiv 2,x1.2.2.1+1,())))/\(¬(↑x1.2.2.1:Int)<l.Bits[x.2.1]->x.2.1+1<=9223372036854775807/\∃m,m<n/\H'_1=G/\V m (x1.1,x.2.1+1,())))) X)/\(¬x.2.1<l.Ab.length->Q (x.1,0,()) () G))) X
theorem Sy l s H Q X(h_:LC l s H Q X):Wp Y0 IH Gh (l,s,()) H Q X:=wF Tryz.f68 {lp:=[(8,⟨[(4,.one (.own .bool)),(8,.one (.dat I6)),(35,.nat)],[1,2,16,17,18,34],false⟩),(4,⟨[(4,.one (.own .bool)),(18,.nat)],[1,2,16,17],false⟩)],im:=[2]} h_
def Acj(v:A7)(H:HY)(Q:Int×Unit->UU)(X:PX):=(v.Bool=true->Q (0,()) () H)/\(¬v.Bool=true->Q (v.Lo,()) () H)
theorem Ans v H Q X(h_:Acj v H Q X):Wp Y0 Wa R5 (v,()) H Q X:=wF Tryz.f141 {im:=[1]} h_
def Vy(n:Int)(H:HY)(Q:Int×Unit->UU)(X:PX):=∃(V:Nat->Nat×Unit->Prop),(∃(n:Nat),H=H/\V n (0,()))/\∀n1 x,V n1 x->(x.1<63->x.1<=9223372036854775807->(BinOp.shl=BinOp.shr->Ag .i64 1)/\(0:Int)<=(↑x.1:Int)/\(n<=Go.IntKind.wrap .i64 (1*2^min (↑x.1:Int).toNat 64)->Q ((↑x.1:Int),()) () H)/\(¬n<=Go.IntKind.wrap .i64 (1*2^min (↑x.1:Int).toNat 64)->x.1+1<=9223372036854775807/\∃m,m<n1/\H=H/\V m (x.1+1,())))/\(¬x.1<63->Q (63,()) () H)
theorem Aej n H Q X(h_:Vy n H Q X):Wp Y0 QW Ni (n,()) H Q X:=wF Tryz.f85 {lp:=[(2,⟨[(4,.nat)],[0],false⟩)]} h_
def PN(v:A7)(H:HY)(Q:Int×Unit->UU)(X:PX):=(v.Bool=true->Q (2,()) () H)/\(¬v.Bool=true->(v.Hi<v.Lo->Q (0,()) () H)/\(¬v.Hi<v.Lo->Ag .i64 v.Hi->Ag .i64 v.Lo->Ag u64 (u64.wrap v.Hi)->Ag u64 (u64.wrap v.Lo)->(u64.wrap (u64.wrap v.Hi-u64.wrap v.Lo)<1073741824->Ag u64 (u64.wrap (u64.wrap v.Hi-u64.wrap v.Lo))->Ag .i64 (Go.IntKind.wrap .i64 (u64.wrap (u64.wrap v.Hi-u64.wrap v.Lo)))->Ag .i64 (Go.IntKind.wrap .i64 (u64.wrap (u64.wrap v.Hi-u64.wrap v.Lo))+1)/\Q (Go.IntKind.wrap .i64 (u64.wrap (u64.wrap v.Hi-u64.wrap v.Lo))+1,()) () H)/\(¬u64.wrap (u64.wrap v.Hi-u64.wrap v.Lo)<1073741824->Q (1073741825,()) () H)))
theorem WU v H Q X(h_:PN v H Q X):Wp Y0 LY Js (v,()) H Q X:=wF Tryz.f86 {im:=[1]} h_
def TL(m:GF)(s:List Int)(H:HY)(Q:Bool×Unit->UU)(X:PX):=s.length<=9223372036854775807->m.Ab.length<=9223372036854775807->(¬s.length=m.Ab.length->Q (false,()) () H)/\(¬¬s.length=m.Ab.length->m.Ab.length<=9223372036854775807->∃(V:Nat->Nat×Unit->Prop),(∃(n:Nat),H=H/\V n (0,()))/\∀n x,V n x->(x.1<m.Ab.length->x.1<=9223372036854775807->∃(h:x.1<m.Ab.length),(m.Ab[x.1].Bool=true->x.1<=9223372036854775807->∃(h:x.1<s.length),(s[x.1]<0->Q (false,()) () H)/\(¬s[x.1]<0->x.1<=9223372036854775807->∃(h:x.1<s.length),((1:Int)<s[x.1]->Q (false,()) () H)/\(¬(1:Int)<s[x.1]->x.1+1<=9223372036854775807/\∃m,m<n/\H=H/\V m (x.1+1,()))))/\(¬m.Ab[x.1].Bool=true->x.1<=9223372036854775807->∃(h1:x.1<s.length),(s[x.1]<m.Ab[x.1].Lo->Q (false,()) () H)/\(¬s[x.1]<m.Ab[x.1].Lo->x.1<=9223372036854775807->∃(h2:x.1<s.length),(m.Ab[x.1].Hi<s[x.1]->Q (false,()) () H)/\(¬m.Ab[x.1].Hi<s[x.1]->x.1+1<=9223372036854775807/\∃m,m<n/\H=H/\V m (x.1+1,())))))/\(¬x.1<m.Ab.length->Q (true,()) () H))
theorem Aai m s H Q X(h_:TL m s H Q X):Wp Y0 OG L0 (m,s,()) H Q X:=wF Tryz.f140 {lp:=[(4,⟨[(18,.nat)],[1,16,17],false⟩)],im:=[2]} h_
end
section
def Et(l:List B0):B.Fn:=λa=>l.all λt=>a t.Var==t.Rg
variable {l:List B0}
theorem GV{a:B.As}:Et l a=true↔∀t∈l,a t.Var=t.Rg:=by unfold Et;rw[List.all_eq_true];simp
theorem Ae5{m:List B0}(h:l.Perm m):Et l=Et m:=by funext a;rw[Bool.eq_iff_iff,GV,GV];exact⟨λh1 t ht=>h1 t (h.mem_iff.2 ht),λh1 t ht=>h1 t (h.mem_iff.1 ht)⟩
theorem Wq{b:Nat}{M:Mn}{H:HY}{X:PX}{Q:Int×Unit->UU}(hM:JC H b M)(hI:MI M)(hv:∀t∈l,0<=t.Var/\t.Var<M.S.n)(hd:(l.map (·.Var)).Nodup)(h:Q (0,()) () H):Wp Y0 Mg Jy (some b,l,()) H Q X:=by
 apply Xx;unfold Qs;refine λ_=>⟨λn z H'=>H'=H/\n=l.length-z.1/\z.1<=l.length,⟨_,rfl,rfl,Nat.zero_le _⟩,?_⟩
 rintro n ⟨k,_⟩ H' ⟨rfl,hn0,hk0⟩;have hn:n=l.length-k:=hn0;have hk:k<=l.length:=hk0;clear hn0 hk0;refine⟨λhkl hb=>?_,λhkl _=>?_⟩
 .have hkl':k<l.length:=hkl;have hb:k<=9223372036854775807:=hb;have hv':=hv l[k] (List.getElem_mem hkl');refine⟨hkl',λhneg=>?_,λ_=>L5 hM hI ⟨λhge=>?_,λ_=>⟨by show k+1<=_;omega,l.length-(k+1),by omega,rfl,rfl,by show k+1<=_;omega⟩⟩⟩
  .have hneg:l[k].Var<0:=hneg;omega
  .have hge:M.S.n<=l[k].Var:=hge;omega
 .refine⟨λn z H''=>H''=H'/\n=l.length-z.2.1/\z.2.1<=l.length/\z.1=false,⟨_,rfl,rfl,Nat.zero_le _,rfl⟩,?_⟩;rintro n2 ⟨tw,q,_⟩ H'' ⟨rfl,hn2,hq0,htw⟩;have hn2:n2=l.length-q:=hn2;have hq:q<=l.length:=hq0;have htw:tw=false:=htw;subst htw;refine⟨λhql hb=>?_,λ_=>⟨λh'=>(by cases h'),λ_=>h⟩⟩;have hql':q<l.length:=hql;have hb:q<=9223372036854775807:=hb;refine⟨hql',Nat.zero_le _,hq,λ_=>⟨λn z H3=>H3=H''/\n=q-z.2.2.1/\z.2.2.1<=q/\z.1=false/\z.2.1.1=l[q].Var,⟨_,rfl,rfl,Nat.zero_le _,rfl,rfl⟩,?_⟩⟩;rintro n3 ⟨tw,⟨xv,xy,_⟩,j,_⟩ H3 ⟨rfl,hn3,hj0,htw,hxv⟩;have hn3:n3=q-j:=hn3;have hj:j<=q:=hj0;have htw:tw=false:=htw;have hxv:xv=l[q].Var:=hxv;subst htw hxv;have hlen:(List.take (q-0) (List.drop 0 l)).length=q:=by simp;omega
  refine⟨λhjl hbj=>?_,λhjl=>?_⟩
  .have hjq:j<q:=by have hjl:j<(List.take (q-0) (List.drop 0 l)).length:=hjl;omega
   have hbj:j<=9223372036854775807:=hbj;have hne:l[q].Var≠l[j].Var:=λe=>by
    have h1:(l.map (·.Var))[q]'(by simpa using hql')=(l.map (·.Var))[j]'(by simp;omega):=by simpa using e
    have:=(List.getElem_inj hd).1 h1;omega
   have hget:(List.take (q-0) (List.drop 0 l))[j]'(by omega)=l[j]:=by simp
   refine⟨hjl,λe=>?_,λ_=>⟨by show j+1<=_;omega,q-(j+1),by omega,rfl,rfl,by show j+1<=_;omega,?_,rfl⟩⟩
   .have e:l[q].Var=((List.take (q-0) (List.drop 0 l))[j]'(by omega)).Var:=e;rw[hget]at e;exact absurd e hne
   .show decide (l[q].Var=((List.take (q-0) (List.drop 0 l))[j]'(by omega)).Var)=false;rw[hget];simpa using hne
  .exact⟨by show q+1<=_;omega,l.length-(q+1),by omega,rfl,rfl,by show q+1<=_;omega,rfl⟩
def QQ(lv:Int->Int)(s:List B0)(j:Nat):Int:=match s[j]? with
 |some t=>lv t.Var
 |none=>0
variable {lv:Int->Int} {s:List B0}
theorem Gj{j:Nat}(h:j<s.length):QQ lv s j=lv s[j].Var:=by unfold QQ;rw[List.getElem?_eq_getElem h]
variable {k:Nat}
theorem Amu(h0:0<k)(h:k<s.length)(j:Nat):QQ lv ((s.set (k-1) s[k]).set k (s[k-1]'(by omega))) j=if j=k then QQ lv s (k-1) else if j=k-1 then QQ lv s k else QQ lv s j:=by
 unfold QQ;by_cases e:j=k
 .subst e;rw[if_pos rfl,List.getElem?_set_self (by simpa using h),List.getElem?_eq_getElem (by omega:j-1<s.length)]
 .rw[if_neg e,List.getElem?_set_ne (Ne.symm e)];by_cases e2:j=k-1
  .subst e2;rw[if_pos rfl,List.getElem?_set_self (by omega),List.getElem?_eq_getElem h]
  .rw[if_neg e2,List.getElem?_set_ne (Ne.symm e2)]
def Srt(lv:Int->Int)(s:List B0)(i:Nat)(k:Nat):Prop:=(∀a b,a<b->b<i->a≠k->b≠k->QQ lv s b<=QQ lv s a)/\∀b,k<b->b<i->QQ lv s b<=QQ lv s k
theorem Srt.done{i:Nat}(h:Srt lv s (i+1) k)(hk:k<=i)(h0:k=0∨QQ lv s k<=QQ lv s (k-1)):∀a b,a<b->b<i+1->QQ lv s b<=QQ lv s a:=λa b hab hb=>by
 by_cases ha:a=k
 .subst ha;exact h.2 b hab hb
 .by_cases hbk:b=k
  .subst hbk;rcases h0 with h0|h0
   .omega
   .by_cases e:a=b-1
    .rw[e];exact h0
    .exact Int.le_trans h0 (h.1 a (b-1) (by omega) (by omega) ha (by omega))
  .exact h.1 a b hab hb ha hbk
theorem Srt.step{i:Nat}(h:Srt lv s (i+1) k)(h0:0<k)(hk:k<=i)(hl:i<s.length)(hlt:QQ lv s (k-1)<QQ lv s k):Srt lv ((s.set (k-1) (s[k]'(by omega))).set k (s[k-1]'(by omega))) (i+1) (k-1):=by
 have sw:=Amu (lv:=lv) (s:=s) h0 (by omega:k<s.length);refine⟨λa b hab hb ha hbk=>?_,λb hb1 hb=>?_⟩
 .rw[sw,sw];by_cases e1:b=k
  .rw[if_pos e1,if_neg (by omega),if_neg ha];exact h.1 a (k-1) (by omega) (by omega) (by omega) (by omega)
  .rw[if_neg e1,if_neg hbk];by_cases e2:a=k
   .rw[if_pos e2];exact h.1 (k-1) b (by omega) hb (by omega) e1
   .rw[if_neg e2,if_neg ha];exact h.1 a b hab hb e2 e1
 .rw[sw,sw,if_neg (by omega:k-1≠k),if_pos rfl];by_cases e1:b=k
  .rw[if_pos e1];exact Int.le_of_lt hlt
  .rw[if_neg e1,if_neg (by omega)];exact h.2 b (by omega) hb
end
theorem An5{n:Int}{l:List B0}(hv:∀t∈l,0<=t.Var/\t.Var<n):B.RD n (Et l):=λa b hab=>by rw[Bool.eq_iff_iff,GV,GV];exact⟨λh t ht=>by rw[<-hab _ (hv t ht).1 (hv t ht).2];exact h t ht,λh t ht=>by rw[hab _ (hv t ht).1 (hv t ht).2];exact h t ht⟩
theorem Ajm{lv:Int->Int}{s:List B0}{j:Nat}(hd:(s.map (·.Var)).Nodup)(hj:j<s.length)(h1:∀a b,a<b->b<s.length->QQ lv s b<QQ lv s a):B.SO lv (lv s[j].Var) (Et s) (Et (s.take (j+1))):=by
 classical
 let b:B.As:=λv=>decide (∃t∈s,t.Var=v/\t.Rg=true);have hb:∀t∈s,b t.Var=t.Rg:=λt ht=>by
  show decide _=t.Rg;cases hy:t.Rg with
  |true=>exact decide_eq_true ⟨t,ht,rfl,hy⟩
  |false=>
   refine decide_eq_false λ⟨t',ht',e,hy'⟩=>?_;obtain⟨p,hp,rfl⟩:=List.mem_iff_getElem.1 ht;obtain⟨q,hq,rfl⟩:=List.mem_iff_getElem.1 ht';have:(s.map (·.Var))[q]'(by simpa using hq)=(s.map (·.Var))[p]'(by simpa using hp):=by simpa using e
   have:=(List.getElem_inj hd).1 this;subst this;rw[hy]at hy';cases hy'
 refine⟨false,b,λa=>?_⟩;rw[Bool.false_xor,Bool.eq_iff_iff,GV,GV];constructor
 .intro h t ht;obtain⟨q,hq,rfl⟩:=List.mem_iff_getElem.1 ht;unfold B.mix;by_cases hqj:q<j+1
  .rw[if_neg]
   .exact h _ (List.mem_take_iff_getElem.2 ⟨q,by omega,rfl⟩)
   .by_cases e:q=j
    .subst e;omega
    .have:=h1 q j (by omega) hj;rw[Gj hq,Gj hj]at this;omega
  .rw[if_pos]
   .exact hb _ (List.getElem_mem hq)
   .have:=h1 j q (by omega) hq;rw[Gj hq,Gj hj]at this;exact this
 .intro h t ht;obtain⟨q,hq,rfl⟩:=List.mem_take_iff_getElem.1 ht;have hq':q<s.length:=by omega
  have:=h s[q] (List.getElem_mem hq');unfold B.mix at this;rw[if_neg]at this
  .exact this
  .by_cases e:q=j
   .subst e;omega
   .have:=h1 q j (by omega) hj;rw[Gj hq',Gj hj]at this;omega
theorem Ae4{s:List B0}{j:Nat}(hj:j<s.length){F:B.Fn}(hF:F=Et (s.take j)):(λa:B.As=>if a s[j].Var=true then (if s[j].Rg=true then F a else false) else (if s[j].Rg=true then false else F a))=Et (s.take (j+1)):=by subst hF;funext a;rw[List.take_succ_eq_append_getElem hj];unfold Et;rw[List.all_append];simp only[List.all_cons,List.all_nil,Bool.and_true];cases a s[j].Var<;>cases s[j].Rg<;>simp
theorem Ub{b:Nat}{M:Mn}{l:List B0}{H:HY}{X:PX}{Q:Int×Int×Unit->UU}(hM:MG H b M)(hn:M.nx<576460752303423487)(hl:M.hs.length<=60000)(hlen:l.length<=1000)(hv:∀t∈l,0<=t.Var/\t.Var<M.S.n)(hd:(l.map (·.Var)).Nodup)(hq:∀M' H',MG H' b M'->New M M' (Et l)->Kd b M H H'->Q (M.nx,0,()) () H'):Wp Y0 HW Gv (some b,l,()) H Q X:=by
 apply Ae3;unfold Wr;refine⟨λh=>absurd h (by simp),λ_=>Wq hM.h hM.i hv hd ⟨λh=>absurd rfl h,λ_=>?_⟩⟩;refine Ya (Fs:=[Et l]) (F:=Et l) hM hn hl (by simp) (λF hF=>?_) ?_ hq
 .rw[List.mem_singleton]at hF;subst hF;exact An5 hv
 intro M1 H1 c X' Q' cx iI iV kp fr hpan hfin;apply ZI;unfold SA;have nn:M1.S.n=M.S.n:=kp.n;have e0:([]++l:List B0)=l:=rfl;refine⟨by omega,λ_=>⟨λn z H'=>H'=H1/\z.1.Perm l/\∃i:Nat,z.2.1=i/\i<=l.length/\n=l.length-i/\∀a b,a<b->b<i->QQ M1.lv z.1 b<=QQ M1.lv z.1 a,⟨_,rfl,List.Perm.refl _,0,rfl,Nat.zero_le _,rfl,λa b _ hb=>absurd hb (Nat.not_lt_zero b)⟩,?_⟩⟩;rintro n ⟨s,i0,_⟩ H' ⟨rfl,hp,i,hi0,hi,hn0,hs⟩;have hp:s.Perm l:=hp;have hi0:i0=(i:Int):=hi0;have hs:∀a b,a<b->b<i->QQ M1.lv s b<=QQ M1.lv s a:=hs;subst hi0;have hsl:s.length=l.length:=hp.length_eq;refine⟨λhil=>?_,λhil _=>?_⟩
 .have hil':i<l.length:=by have hil:(i:Int)<(l.length:Int):=hil;omega
  refine⟨λn1 z H''=>H''=H'/\z.1.Perm l/\∃k:Nat,z.2.1=k/\k<=i/\n1=k/\Srt M1.lv z.1 (i+1) k,⟨i,rfl,hp,i,rfl,Nat.le_refl _,rfl,λa b hab hb ha hbk=>hs a b hab (by omega),λb h1 h2=>by omega⟩,?_⟩;rintro n1 ⟨s1,k0,_⟩ H'' ⟨rfl,hp1,k,hk0,hk,hn1,hS⟩;have hp1:s1.Perm l:=hp1;have hk0:k0=(k:Int):=hk0;have hS:Srt M1.lv s1 (i+1) k:=hS;subst hk0;have hsl1:s1.length=l.length:=hp1.length_eq;have nxt:(k=0∨QQ M1.lv s1 k<=QQ M1.lv s1 (k-1))->Ag .i64 (i:Int)->Ag .i64 ((i:Int)+1)/\∃m,m<n/\(H''=H''/\s1.Perm l/\∃i':Nat,(i:Int)+1=i'/\i'<=l.length/\m=l.length-i'/\∀a b,a<b->b<i'->QQ M1.lv s1 b<=QQ M1.lv s1 a):=λh0 _=>
   ⟨AG.2 (by omega),l.length-(i+1),by omega,rfl,hp1,i+1,rfl,by omega,rfl,hS.done hk h0⟩
  refine⟨λhkp _=>?_,λhkp=>Wh (nxt (.inl ?_))⟩
  .have hkp':0<k:=by have hkp:(0:Int)<(k:Int):=hkp;omega
   have hk1:k<s1.length:=by omega
   have hk2:k-1<s1.length:=by omega
   have t1:((k:Int)-1).toNat=k-1:=by omega
   have t0:((k:Int)).toNat=k:=by omega
   have ik:Ag .i64 ((k:Int)-1):=AG.2 (by omega);have ek:(k:Int)-1=((k-1:Nat):Int):=by omega
   have sw:Dh M1.S.lv (s1[k-1]'hk2).Var<Dh M1.S.lv (s1[k]'hk1).Var->Ag .i64 (k:Int)->Ag .i64 ((k:Int)-1)/\∃m,m<n1/\(H''=H''/\((s1.set (k-1) (s1[k]'hk1)).set k (s1[k-1]'hk2)).Perm l/\∃k':Nat,(k:Int)-1=k'/\k'<=i/\m=k'/\Srt M1.lv ((s1.set (k-1) (s1[k]'hk1)).set k (s1[k-1]'hk2)) (i+1) k'):=λhlt _=>
    ⟨ik,k-1,by rw[hn1];omega,rfl,(List.set_set_perm hk2 hk1).trans hp1,k-1,ek,Nat.le_trans (Nat.sub_le k 1) hk,rfl,hS.step hkp' hk (by show i<s1.length;omega) (by rw[Gj hk1,Gj hk2];exact hlt)⟩
   have no:¬Dh M1.S.lv (s1[k-1]'hk2).Var<Dh M1.S.lv (s1[k]'hk1).Var->k=0∨QQ M1.lv s1 k<=QQ M1.lv s1 (k-1):=λh=>.inr (by rw[Gj hk1,Gj hk2];exact Int.not_lt.1 h);simp only[t0,t1,List.length_set];refine⟨ik,λ_=>⟨λ_=>by omega,hk2,hk2,λ_=>⟨λ_=>by omega,hk1,G9 cx ⟨hk1,G9 cx ⟨λhlt _=>⟨ik,λ_=>⟨λ_=>by omega,hk1,hk1,λ_=>⟨ik,λ_=>⟨λ_=>by omega,hk2,hk2,λ_=>⟨λ_=>by omega,hk2,hk2,λ_=>⟨λ_=>by omega,hk1,hk1,sw hlt⟩⟩⟩⟩⟩⟩,λhge=>nxt (no hge)⟩⟩,hk1,G9 cx (G9 cx ⟨λhlt _=>⟨ik,λ_=>⟨λ_=>by omega,hk1,hk1,λ_=>⟨ik,λ_=>⟨λ_=>by omega,hk2,hk2,λ_=>⟨λ_=>by omega,hk2,hk2,λ_=>⟨λ_=>by omega,hk1,hk1,sw hlt⟩⟩⟩⟩⟩⟩,λhge=>nxt (no hge)⟩)⟩⟩⟩
  .have hkp:¬(0:Int)<(k:Int):=hkp;omega
 .have hil':i=l.length:=by have hil:¬(i:Int)<(l.length:Int):=hil;omega
  subst hil';have hd':(s.map (·.Var)).Nodup:=(hp.map _).nodup_iff.2 hd;have hv':∀t∈s,0<=t.Var/\t.Var<M1.S.n:=λt ht=>by rw[nn];exact hv t (hp.mem_iff.1 ht)
  have hst:∀a b,a<b->b<s.length->QQ M1.lv s b<QQ M1.lv s a:=λa b hab hb=>by
   have h1:=hs a b hab (by omega);rw[Gj hb,Gj (by omega:a<s.length)]at h1 ⊢;have hne:M1.lv s[b].Var≠M1.lv (s[a]'(by omega)).Var:=λe=>by
    have va:=hv' _ (List.getElem_mem (by omega:a<s.length));have vb:=hv' _ (List.getElem_mem hb);have:=iI.si.BP.od.inj _ _ vb.1 vb.2 va.1 va.2 e;have h2:(s.map (·.Var))[b]'(by simpa using hb)=(s.map (·.Var))[a]'(by simp;omega):=by simpa using this
    have:=(List.getElem_inj hd').1 h2;omega
   omega
  have hF:Et s=Et l:=Ae5 hp;refine⟨λn z H''=>z.2.1=s/\n=s.length-z.2.2.1/\z.2.2.1<=s.length/\∃M2,MS H'' c b M2/\MR M1 M2/\PK M1 M2 [Et l]/\JD b M1 H' H''/\M2.ws=M1.ws/\M2.At (match s[z.2.2.1-1]? with|some t=>if z.2.2.1=0 then M2.S.n else M2.lv t.Var|none=>M2.S.n) z.1/\B.den M2.T z.1=Et (s.take z.2.2.1),⟨_,rfl,rfl,Nat.zero_le _,M1,cx,MR.refl iI.si iV,PK.refl,JD.refl,rfl,?_,?_⟩,?_⟩
  .have:(match s[0-1]? with|some t=>if (0:Nat)=0 then M1.S.n else M1.lv t.Var|none=>M1.S.n)=M1.S.n:=by split<;>rfl
   show M1.At (match s[0-1]? with|some t=>if (0:Nat)=0 then M1.S.n else M1.lv t.Var|none=>M1.S.n) 0;rw[this];exact ZO (Int.le_refl _)
  .show B.den M1.T 0=Et (s.take 0);rw[B.JA];funext a;rfl
  rintro n2 ⟨r,s2,j,_⟩ H2 ⟨e2,hn2,hj0,M2,cx2,st2,cov2,f2,w2,a2,d2⟩;have e2:s2=s:=e2;subst e2;have hn2:n2=s2.length-j:=hn2;have hj:j<=s2.length:=hj0;replace a2:M2.At (match s2[j-1]? with|some t=>if j=0 then M2.S.n else M2.lv t.Var|none=>M2.S.n) r:=a2;replace d2:B.den M2.T r=Et (s2.take j):=d2;obtain⟨i2,kp2⟩:=st2.kp iI (by rw[w2];exact Nat.le_refl _);refine⟨λhjl _=>?_,λhjl=>?_⟩
  .have hjl':j<s2.length:=hjl;have hv2:=hv' _ (List.getElem_mem hjl');have hv3:0<=s2[j].Var/\s2[j].Var<M2.S.n:=by rw[st2.n];exact hv2
   have hlvn:=(i2.si.BP.od.MT _ hv3.1 hv3.2).2;have hlow:M2.lv s2[j].Var+1<=(match s2[j-1]? with|some t=>if j=0 then M2.S.n else M2.lv t.Var|none=>M2.S.n):=by
    by_cases h0:j=0
    .subst h0;split
     .exact hlvn
     .exact hlvn
    .have hj1:j-1<s2.length:=by omega
     rw[List.getElem?_eq_getElem hj1];simp only[h0,if_false];have:=hst (j-1) j (by omega) hjl';rw[Gj hjl',Gj hj1]at this;rw[st2.lv];omega
   have hAt:M2.At (M2.lv s2[j].Var+1) r:=⟨a2.1,Int.le_trans hlow a2.2⟩
   have h1At:M2.At (M2.lv s2[j].Var+1) 1:=at_one hlvn;have key:∀lo hi:Int,((s2[j].Rg=true/\lo=1/\hi=r)∨(¬s2[j].Rg=true/\lo=r/\hi=1))->Wp Y0 EE DX (some c,s2[j].Var,lo,hi,()) H2 (λ(b_1:Int×Unit)(_:Unit)(H3:HY)=>j+1<=9223372036854775807/\∃m,m<n2/\(s2=s2/\m=s2.length-(j+1)/\j+1<=s2.length/\∃M3,MS H3 c b M3/\MR M1 M3/\PK M1 M3 [Et l]/\JD b M1 H' H3/\M3.ws=M1.ws/\M3.At (match s2[(j+1)-1]? with|some t=>if j+1=0 then M3.S.n else M3.lv t.Var|none=>M3.S.n) b_1.1/\B.den M3.T b_1.1=Et (s2.take (j+1)))) X':=λlo hi hc=>by
    have hden:(λa:B.As=>if a s2[j].Var=true then B.den M2.T hi a else B.den M2.T lo a)=Et (s2.take (j+1)):=by
     rw[<-Ae4 hjl' d2];funext a;rcases hc with ⟨hy,rfl,rfl⟩|⟨hy,rfl,rfl⟩
     .simp only[hy,if_true];rw[B.FM]
     .have hy:s2[j].Rg=false:=by simpa using hy
      simp only[hy];rw[B.FM];simp
    have hAll:M2.At (M2.lv s2[j].Var+1) lo/\M2.At (M2.lv s2[j].Var+1) hi:=by
     rcases hc with ⟨_,rfl,rfl⟩|⟨_,rfl,rfl⟩
     .exact⟨h1At,hAt⟩
     .exact⟨hAt,h1At⟩
    refine Ys (F:=Et l) cx2 i2.si st2.mv hv3 hAll.1 hAll.2 ?_ (λM3 H3 lf cx3 st3 cov3 f3 hp=>?_) λe M3 H3 cx3 st3 cov3 f3 w3 a3 d3=>⟨by show j+1<=_;omega,s2.length-(j+1),by omega,rfl,rfl,by omega,M3,cx3,st2.trans st3,cov2.trans (cov3.l (List.mem_singleton.2 rfl)),f2.trans f3 st2.bs,w3.trans w2,?_,?_⟩
    .rw[hden,<-hF,st2.lv];exact Ajm hd' hjl' hst
    .exact hpan M3 H3 lf cx3 (st2.trans st3) (cov2.trans (cov3.l (List.mem_singleton.2 rfl))) (f2.trans f3 st2.bs) (hp.step w2)
    .rw[Nat.add_sub_cancel,List.getElem?_eq_getElem hjl'];simp only[Nat.succ_ne_zero,if_false];rw[st3.lv];exact a3
    .exact d3.trans hden
   exact⟨hjl',hjl',λhy=>key 1 r (.inl ⟨hy,rfl,rfl⟩),λhy=>key r 1 (.inr ⟨hy,rfl,rfl⟩)⟩
  .have hjl':¬j<s2.length:=hjl;have:j=s2.length:=by omega
   subst this;rw[List.take_length]at d2;exact hfin r M2 H2 cx2 st2 cov2 f2 w2 a2.1 (d2.trans hF)
section
set_option maxRecDepth 100000
set_option maxHeartbeats 2000000
def Qt(m:Option Nat)(l:Ad)(H:HY)(Q:Option Nat×Int×Unit->UU)(X:PX):=(m=none->Q (none,5,()) () H)/\(¬m=none->Wp Y0 DZ D7 (m,()) H (λ(b:Int×Unit)_ G=>Wp Y0 FA Ee (l,()) G (λ(b1:Int×Unit)_ G=>Ag .i64 b1.1->Ag .i64 (2*b1.1)/\(b.1<2*b1.1->Q (none,9,()) () G)/\(¬b.1<2*b1.1->∀(b:Nat),G b=none->Q (some b,0,()) () (Ac G b (Ob.st BO {m:=m,l:={Ab:=l.Ab,Bits:=l.Bits,At:=l.At:Ad},live:=[],e:=(0:Int):Ar})))) X) X)
theorem Xz m l H Q X(h_:Qt m l H Q X):Wp Y0 Hy FP (m,l,()) H Q X:=wF Tryz.f40 {pr:=[(20,1)],im:=[3]} h_
def T9(w:Option Nat)(h e:Int)(H:HY)(Q:Int×Unit->UU)(X:PX):=∃(b:Nat),w=some b/\∃(x:Ar),H b=some (Ob.st BO x)/\(¬x.e=0->(e=0->{x with l:={Ab:=x.l.Ab,Bits:=x.l.Bits,At:=x.l.At:Ad}}=x/\Wp Y0 EK DW (x.m,[h],()) H (λ(b:Int×Unit)_ G=>Q (0,()) () G) X)/\(¬e=0->{x with l:={Ab:=x.l.Ab,Bits:=x.l.Bits,At:=x.l.At:Ad}}=x/\Q (0,()) () H))/\(¬¬x.e=0->(¬e=0->Q (0,()) () (Ac H b (Ob.st BO {x with l:={Ab:=x.l.Ab,Bits:=x.l.Bits,At:=x.l.At:Ad},e:=e})))/\(¬¬e=0->Q (h,()) () (Ac H b (Ob.st BO {x with l:={Ab:=x.l.Ab,Bits:=x.l.Bits,At:=x.l.At:Ad},live:=BL x.live h true,e:=e}))))
theorem T8 w h e H Q X(h_:T9 w h e H Q X):Wp Y0 AN AJ (w,h,e,()) H Q X:=wF Tryz.f54 {} h_
def LH(w:Option Nat)(l:List Int)(H:HY)(Q:Unit->UU)(X:PX):=l.length<=9223372036854775807->∃(V:Nat->Nat×Unit->HP),(∃(n:Nat),V n (0,()) H)/\∀n x H,V n x H->(x.1<l.length->x.1<=9223372036854775807->∃(h:x.1<l.length),∃(b:Nat),w=some b/\∃(x1:Ar),H b=some (Ob.st BO x1)/\((Ae x1.live l[x.1]).getD false=true->Wp Y0 EK DW (x1.m,[l[x.1]],()) (Ac H b (Ob.st BO {x1 with l:={Ab:=x1.l.Ab,Bits:=x1.l.Bits,At:=x1.l.At:Ad},live:=Df x1.live l[x.1]})) (λ(b:Int×Unit)_ G=>x.1+1<=9223372036854775807/\∃m,m<n/\V m (x.1+1,()) G) X)/\(¬(Ae x1.live l[x.1]).getD false=true->x.1+1<=9223372036854775807/\∃m,m<n/\{x1 with l:={Ab:=x1.l.Ab,Bits:=x1.l.Bits,At:=x1.l.At:Ad}}=x1/\V m (x.1+1,()) H))/\(¬x.1<l.length->Q () () H)
theorem SE w l H Q X(h_:LH w l H Q X):Wp Y0 Ao Am (w,l,()) H Q X:=wF Tryz.f128 {lp:=[(1,⟨[(8,.nat)],[0,6,7],true⟩)]} h_
def MO(w:Option Nat)(Li:Option Nat×List Int×Unit->HY->(Int×Int×Unit->HP)->PX->Prop)(l:List Int)(H:HY)(Q:Int×Unit->UU)(X:PX):=∃(b:Nat),w=some b/\∃(x:Ar),H b=some (Ob.st BO x)/\(¬x.e=0->{x with l:={Ab:=x.l.Ab,Bits:=x.l.Bits,At:=x.l.At:Ad}}=x/\Q (0,()) () H)/\(¬¬x.e=0->{x with l:={Ab:=x.l.Ab,Bits:=x.l.Bits,At:=x.l.At:Ad}}=x/\Li (x.m,l,()) H (λ(b:Int×Int×Unit)(G:HY)=>Wp Y0 AN AJ (w,b.1,b.2.1,()) G (λ(b:Int×Unit)_ G=>Wp Y0 Ao Am (w,l,()) G (λ(b1 io:Unit)(G:HY)=>Q (b.1,()) () G) X) X) X)
theorem T7 w Li l H Q X(h_:MO w Li l H Q X):Wp Y0 Dz CQ (w,Li,l,()) H Q X:=wF Tryz.f56 {} h_
def Jh(w:Option Nat)(yes:Bool)(H:HY)(Q:Int×Unit->UU)(X:PX):=∃(b:Nat),w=some b/\∃(x:Ar),H b=some (Ob.st BO x)/\({x with l:={Ab:=x.l.Ab,Bits:=x.l.Bits,At:=x.l.At:Ad}}=x/\Wp Y0 II Gu (x.m,yes,()) H (λ(b:Int×Unit)_ G=>Wp Y0 FR EH (x.m,b.1,()) G (λ(b:Int×Int×Unit)_ G=>Wp Y0 AN AJ (w,b.1,b.2.1,()) G (λ(b:Int×Unit)_ G=>Q (b.1,()) () G) X) X) X)/\{x with l:={Ab:=x.l.Ab,Bits:=x.l.Bits,At:=x.l.At:Ad}}=x/\Wp Y0 II Gu (x.m,yes,()) H (λ(b1:Int×Unit)_ G=>∃(x:Ar),G b=some (Ob.st BO x)/\{x with l:={Ab:=x.l.Ab,Bits:=x.l.Bits,At:=x.l.At:Ad}}=x/\Wp Y0 FR EH (x.m,b1.1,()) G (λ(b:Int×Int×Unit)_ G=>Wp Y0 AN AJ (w,b.1,b.2.1,()) G (λ(b:Int×Unit)_ G=>Q (b.1,()) () G) X) X) X
theorem NW w yes H Q X(h_:Jh w yes H Q X):Wp Y0 Ce BF (w,yes,()) H Q X:=wF Tryz.f59 {} h_
def LG(w:Option Nat)(i n:Int)(Au:Bool)(H:HY)(Q:Int×Unit->UU)(X:PX):=∃(b:Nat),w=some b/\∃(x:Ar),H b=some (Ob.st BO x)/\{x with l:={Ab:=x.l.Ab,Bits:=x.l.Bits,At:=x.l.At:Ad}}=x/\Wp Y0 Ft Ec ({Ab:=x.l.Ab,Bits:=x.l.Bits,At:=x.l.At:Ad},i,()) H (λ(b1:List Int×Unit)_ G=>∃(M:List Int×Unit->HP),(∀x H,M x H->∃(x1:Ar),H b=some (Ob.st BO x1)/\(Ag .i64 i->(Ag .i64 i->0<=i)/\∃(h:i.toNat<x1.l.Ab.length),{x1 with l:={Ab:=x1.l.Ab,Bits:=x1.l.Bits,At:=x1.l.At:Ad}}=x1/\∃(M:Int×Unit->HP),(∀x2 H,M x2 H->x.1.length<=9223372036854775807->x.1.length<=9223372036854775807->x.1.length<=9223372036854775807->(0:Int)<=(↑x.1.length:Int)/\(↑x.1.length:Int)=(↑x.1.length:Int)/\(↑x.1.length:Int).toNat*16<=281474976710656/\(x.1.length<=9223372036854775807->∃(V:Nat->List B0×Nat×Unit->HP),(∃(n:Nat),V n (List.replicate (↑x.1.length:Int).toNat {Var:=(0:Int),Rg:=false:B0},0,()) H)/\∀n x3 H,V n x3 H->(x3.2.1<x.1.length->x3.2.1<=9223372036854775807->∃(h:x3.2.1<x.1.length),Ag .i64 x2.1->x3.2.1<=9223372036854775807->(BinOp.shr=BinOp.shr->Ag .i64 x2.1)/\(0:Int)<=(↑x3.2.1:Int)/\(Ag .i64 (x2.1.fdiv (2^min (↑x3.2.1:Int).toNat 64))->x3.2.1<=9223372036854775807->∃(h1:x3.2.1<x3.1.length),x3.2.1<x3.1.length/\x3.2.1+1<=(9223372036854775807:Nat)/\∃m,m<n/\V m (x3.1.set x3.2.1 {Var:=x.1[x3.2.1],Rg:=decide (C5 BinOp.and .i64 (x2.1.fdiv (2^min (↑x3.2.1:Int).toNat 64)) (1:Int)=1):B0},x3.2.1+1,()) H))/\(¬x3.2.1<x.1.length->∃(x:Ar),H b=some (Ob.st BO x)/\{x with l:={Ab:=x.l.Ab,Bits:=x.l.Bits,At:=x.l.At:Ad}}=x/\Wp Y0 HW Gv (x.m,x3.1,()) H (λ(b:Int×Int×Unit)_ G=>Wp Y0 AN AJ (w,b.1,b.2.1,()) G (λ(b:Int×Unit)_ G=>Q (b.1,()) () G) X) X)))/\(¬x1.l.Ab[i.toNat].Bool=true->∃(x:Ar),H b=some (Ob.st BO x)/\(Ag .i64 i->(Ag .i64 i->0<=i)/\∃(h:i.toNat<x.l.Ab.length),Ag .i64 n->Ag .i64 x.l.Ab[i.toNat].Lo->Ag .i64 (n-x.l.Ab[i.toNat].Lo)/\{x with l:={Ab:=x.l.Ab,Bits:=x.l.Bits,At:=x.l.At:Ad}}=x/\M (n-x.l.Ab[i.toNat].Lo,()) H))/\(¬¬x1.l.Ab[i.toNat].Bool=true->M (n,()) H)))/\(Au=true->∃(x:Ar),G b=some (Ob.st BO x)/\{x with l:={Ab:=x.l.Ab,Bits:=x.l.Bits,At:=x.l.At:Ad}}=x/\Wp Y0 Gm E8 ({Ab:=x.l.Ab,Bits:=x.l.Bits,At:=x.l.At:Ad},i,()) G (λ(b:List Int×Unit)_ G=>M (b.1,()) G) X)/\(¬Au=true->M (b1.1,()) G)) X
theorem SD w i n Au H Q X(h_:LG w i n Au H Q X):Wp Y0 Cl BJ (w,i,n,Au,()) H Q X:=wF Tryz.f63 {lp:=[(8,⟨[(10,.one (.own (.u 11))),(52,.nat)],[0,2,10,50,51],true⟩)],jn:=[(19,⟨[(9,.one (.dat (.sl I6)))],[0,1,2,3],true⟩),(35,⟨[(2,.one (.dat I6))],[0,1,3,9],true⟩)]} h_
def MQ(w to:Option Nat)(n h:Int)(H:HY)(Q:Unit->UU)(X:PX):=∃(r:Nat),to=some r/\∃(m:List (Int×Int)),H r=some (Ob.mp (Ty.int .i64) (Ty.int .i64) m)/\((Ae m n).isSome=true->Wp Y0 Dz CQ (w,λ(a:Option Nat×List Int×Unit)(H:HY)(Q:Int×Int×Unit->HP)(X:Nat->Lf Y0.D->HP)=>Wp Y0 OI Mt (a.1,a.2.1,()) H (λ(b:Int×Int×Unit)(x:Unit)(G:HY)=>Q (b.1,b.2.1,()) G) X,[(Ae m n).getD 0,h],()) H (λ(b:Int×Unit)_ G=>∃(r:Nat),to=some r/\∃(m:List (Int×Int)),G r=some (Ob.mp (Ty.int .i64) (Ty.int .i64) m)/\Q () () (Ac G r (Ob.mp (Ty.int .i64) (Ty.int .i64) (BL m n b.1)))) X)/\(¬(Ae m n).isSome=true->∃(r:Nat),to=some r/\∃(m:List (Int×Int)),H r=some (Ob.mp (Ty.int .i64) (Ty.int .i64) m)/\Q () () (Ac H r (Ob.mp (Ty.int .i64) (Ty.int .i64) (BL m n h))))
theorem TB w to n h H Q X(h_:MQ w to n h H Q X):Wp Y0 BI B9 (w,to,n,h,()) H Q X:=wF Tryz.f134 {} h_
def OX(v:A7)(H:HY)(Q:Int×Int×Unit->UU)(X:PX):=(v.Bool=true->Q (0,1,()) () H)/\(¬v.Bool=true->Q (v.Lo,v.Hi,()) () H)
theorem Wy v H Q X(h_:OX v H Q X):Wp Y0 G6 Fk (v,()) H Q X:=wF Tryz.f133 {im:=[1]} h_
def Ll(w:Option Nat)(Au:Bool)(H:HY)(Q:Int×Unit->UU)(X:PX):=Wp Y0 Ce BF (w,true,()) H (λ(b:Int×Unit)_ G=>∃(b1:Nat),w=some b1/\∃(x:Ar),G b1=some (Ob.st BO x)/\(x.l.Ab.length<=9223372036854775807->{x with l:={Ab:=x.l.Ab,Bits:=x.l.Bits,At:=x.l.At:Ad}}=x/\∃(V:Nat->Int×Nat×Unit->HP),(∃(n:Nat),V n (b.1,0,()) G)/\∀n x1 H,V n x1 H->(x1.2.1<x.l.Ab.length->x1.2.1<=9223372036854775807->∃(h:x1.2.1<x.l.Ab.length),Wp Y0 Ce BF (w,false,()) H (λ(b:Int×Unit)_ G=>Wp Y0 G6 Fk (x.l.Ab[x1.2.1],()) G (λ(b2:Int×Int×Unit)_ G=>∃(V1:Nat->Int×Int×Unit->HP),(∃(n:Nat),V1 n (b.1,b2.1,()) G)/\∀n1 x H,V1 n1 x H->(x.2.1<=b2.2.1->Wp Y0 Cl BJ (w,(↑x1.2.1:Int),x.2.1,Au,()) H (λ(b:Int×Unit)_ G=>Wp Y0 Dz CQ (w,λ(a:Option Nat×List Int×Unit)(H:HY)(Q:Int×Int×Unit->HP)(X:Nat->Lf Y0.D->HP)=>Wp Y0 OI Mt (a.1,a.2.1,()) H (λ(b:Int×Int×Unit)(x:Unit)(G:HY)=>Q (b.1,b.2.1,()) G) X,[x.1,b.1],()) G (λ(b:Int×Unit)_ G=>Ag .i64 x.2.1->Ag .i64 (x.2.1+1)/\∃m,m<n1/\V1 m (b.1,x.2.1+1,()) G) X) X)/\(¬x.2.1<=b2.2.1->Wp Y0 Dz CQ (w,λ(a:Option Nat×List Int×Unit)(H:HY)(Q:Int×Int×Unit->HP)(X:Nat->Lf Y0.D->HP)=>Wp Y0 De CN (a.1,a.2.1,()) H (λ(b:Int×Int×Unit)(x:Unit)(G:HY)=>Q (b.1,b.2.1,()) G) X,[x1.1,x.1],()) H (λ(b:Int×Unit)_ G=>x1.2.1+1<=9223372036854775807/\∃m,m<n/\V m (b.1,x1.2.1+1,()) G) X)) X) X)/\(¬x1.2.1<x.l.Ab.length->Q (x1.1,()) () H))) X
theorem Re w Au H Q X(h_:Ll w Au H Q X):Wp Y0 Ej Du (w,Au,()) H Q X:=wF Tryz.f67 {lp:=[(8,⟨[(8,.one (.dat I6)),(11,.one (.dat I6))],[0,1,5,6,10,18,19,20],true⟩),(3,⟨[(5,.one (.dat I6)),(20,.nat)],[0,1,18,19],true⟩)]} h_
def Qu(m:Option Nat)(l:Ad)(Au:Bool)(H:HY)(Q:Int×Int×Unit->UU)(X:PX):=Wp Y0 Hy FP (m,l,()) H (λ(b:Option Nat×Int×Unit)_ G=>(¬b.2.1=0->Q (0,b.2.1,()) () G)/\(¬¬b.2.1=0->Wp Y0 Ej Du (b.1,Au,()) G (λ(b1:Int×Unit)_ G=>Wp Y0 GS Fj (b.1,[b1.1],()) G (λ(b:Int×Unit)_ G=>Q (b1.1,b.1,()) () G) X) X)) X
theorem X0 m l Au H Q X(h_:Qu m l Au H Q X):Wp Y0 J9 Ho (m,l,Au,()) H Q X:=wF Tryz.f20 {im:=[4]} h_
def Qv(m:Option Nat)(l:Ad)(s:List Int)(Au:Bool)(H:HY)(Q:Int×Int×Unit->UU)(X:PX):=Wp Y0 Hy FP (m,l,()) H (λ(b:Option Nat×Int×Unit)_ G=>(¬b.2.1=0->Q (0,b.2.1,()) () G)/\(¬¬b.2.1=0->Wp Y0 IH Gh (l,s,()) G (λ(b:List Bool×Int×Unit)_ G=>(¬b.2.1=0->Q (0,b.2.1,()) () G)/\(¬¬b.2.1=0->Wp Y0 Hj EW (l,()) G (λ(b1:List Int×Unit)_ G=>(Au=true->Wp Y0 G5 E9 (l,()) G (λ(b2:List Int×Unit)_ G=>b.1.length<=9223372036854775807->b.1.length<=9223372036854775807->b.1.length<=9223372036854775807->(0:Int)<=(↑b.1.length:Int)/\(↑b.1.length:Int)=(↑b.1.length:Int)/\(↑b.1.length:Int).toNat*16<=281474976710656/\(b.1.length<=9223372036854775807->∃(V:Nat->List Int×List B0×List Bool×Nat×Unit->HP),(∃(n:Nat),V n (b2.1,List.replicate (↑b.1.length:Int).toNat {Var:=(0:Int),Rg:=false:B0},b.1,0,()) G)/\∀n x H,V n x H->(x.2.2.2.1<b.1.length->x.2.2.2.1<=9223372036854775807->∃(h:x.2.2.2.1<x.2.2.1.length),∃(h:x.2.2.2.1<x.2.2.1.length),x.2.2.2.1<=9223372036854775807->∃(h1:x.2.2.2.1<x.1.length),∃(h2:x.2.2.2.1<x.1.length),x.2.2.2.1<=9223372036854775807->∃(h3:x.2.2.2.1<x.2.1.length),x.2.2.2.1<x.2.1.length/\x.2.2.2.1+1<=9223372036854775807/\∃m,m<n/\V m (x.1,x.2.1.set x.2.2.2.1 {Var:=x.1[x.2.2.2.1],Rg:=x.2.2.1[x.2.2.2.1]:B0},x.2.2.1,x.2.2.2.1+1,()) H)/\(¬x.2.2.2.1<b.1.length->Wp Y0 HW Gv (m,x.2.1,()) H (λ(b:Int×Int×Unit)_ G=>Q (b.1,b.2.1,()) () G) X))) X)/\(¬Au=true->b.1.length<=9223372036854775807->b.1.length<=9223372036854775807->b.1.length<=9223372036854775807->(0:Int)<=(↑b.1.length:Int)/\(↑b.1.length:Int)=(↑b.1.length:Int)/\(↑b.1.length:Int).toNat*16<=281474976710656/\(b.1.length<=9223372036854775807->∃(V:Nat->List Int×List B0×List Bool×Nat×Unit->HP),(∃(n:Nat),V n (b1.1,List.replicate (↑b.1.length:Int).toNat {Var:=(0:Int),Rg:=false:B0},b.1,0,()) G)/\∀n x H,V n x H->(x.2.2.2.1<b.1.length->x.2.2.2.1<=9223372036854775807->∃(h:x.2.2.2.1<x.2.2.1.length),∃(h:x.2.2.2.1<x.2.2.1.length),x.2.2.2.1<=9223372036854775807->∃(h1:x.2.2.2.1<x.1.length),∃(h2:x.2.2.2.1<x.1.length),x.2.2.2.1<=9223372036854775807->∃(h3:x.2.2.2.1<x.2.1.length),x.2.2.2.1<x.2.1.length/\x.2.2.2.1+1<=9223372036854775807/\∃m,m<n/\V m (x.1,x.2.1.set x.2.2.2.1 {Var:=x.1[x.2.2.2.1],Rg:=x.2.2.1[x.2.2.2.1]:B0},x.2.2.1,x.2.2.2.1+1,()) H)/\(¬x.2.2.2.1<b.1.length->Wp Y0 HW Gv (m,x.2.1,()) H (λ(b:Int×Int×Unit)_ G=>Q (b.1,b.2.1,()) () G) X)))) X)) X)) X
theorem X2 m l s Au H Q X(h_:Qv m l s Au H Q X):Wp Y0 Mh Jz (m,l,s,Au,()) H Q X:=wF Tryz.f21 {lp:=[(12,⟨[(14,.one (.own I6)),(15,.one (.own (.u 11))),(44,.one (.own .bool)),(46,.nat)],[0,14,15,44,45],true⟩)],im:=[5]} h_
end
section
structure WK(H:HY)(wb b:Nat)(M0 M:Mn)(L:Ad)(lv:List (Int×Bool)):Prop where
 ob:H wb=some (.st BO ({m:=some b,l:=L,live:=lv,e:=0}:Ar))
 mg:MG H b M
 bs:DN M0 M
 n0:2<=M0.nx
 nx:M0.nx<=M.nx
 nd:Pq lv
 tr:∀p∈lv,p.2=true
 lo:∀h,h<M0.nx->M.A9 h=M0.A9 h/\Ae lv h=none
 hi:∀h,M0.nx<=h->((Ae lv h).isSome=true↔M.A9 h≠none)
 ln:M.hs.length=M0.hs.length+lv.length
def SN(wb b:Nat)(M:Mn)(H H':HY):Prop:=∀c,H c≠none->c≠wb->GD b M c->H' c=H c
variable {wb b:Nat} {M:Mn} {H:HY}
theorem SN.refl:SN wb b M H H:=λ_ _ _ _=>rfl
variable {H':HY}
theorem SN.trans{H'':HY}(h:SN wb b M H H')(k:SN wb b M H' H''):SN wb b M H H'':=λc a0 a1 a2=>by have e:=h c a0 a1 a2;rw[k c (by rw[e];exact a0) a1 a2,e]
theorem Kd.w(f:Kd b M H H'):SN wb b M H H':=λc a0 _ n=>f.at a0 n
theorem SN.same{wb b:Nat}{M M':Mn}{H H':HY}(f:SN wb b M' H H')(e:DN M M'):SN wb b M H H':=λc a0 a1 n=>f c a0 a1 (n.same e)
variable {c:Nat} {M':Mn}
theorem GD.back(h:GD b M' c)(e:DN M M'):GD b M c:=⟨h.b,by rw[<-e.mb];exact h.mb,by rw[<-e.sb];exact h.sb,by rw[<-e.bl];exact h.bl,by rw[<-e.bp];exact h.bp,by rw[<-e.tb];exact h.tb⟩
theorem MG.notM{m:Nat}{x:Y0.O m}(h:MG H b M)(hc:H c=some (.st m x))(h0:m≠CV)(h5:m≠BU)(h1:m≠AA)(h2:m≠CF)(h3:m≠CR)(h4:m≠BC):GD b M c:=by refine⟨Bj hc h.h.ob h0,Bj hc h.h.me h5,Bj hc h.h.st.st h1,Bj hc h.h.st.lv h2,Bj hc h.h.st.po h3,λhm=>?_⟩;obtain⟨v,hv,e⟩:=List.mem_iff_getElem.1 hm;exact Bj hc (h.h.st.ta v hv) h4 e.symm
theorem MG.set{m:Nat}{x:Y0.O m}{y:Ob Y0}(h:MG H b M)(hc:H c=some (.st m x))(n:GD b M c):MG (Ac H c y) b M:=⟨h.h.other n hc,h.i,h.v,h.e,h.n8,h.rm⟩
variable {M0:Mn} {L:Ad} {lv:List (Int×Bool)}
theorem WK.wn(h:WK H wb b M0 M L lv):GD b M wb:=h.mg.notM h.ob (by decide) (by decide) (by decide) (by decide) (by decide) (by decide)
theorem WK.live(h:WK H wb b M0 M L lv){g:Int}(hg:(Ae lv g).isSome=true):M0.nx<=g/\g<M.nx/\1<g/\∃F,M.A9 g=some F:=by
 have h1:M0.nx<=g:=by refine Classical.byContradiction λhn=>?_;rw[(h.lo g (by omega)).2]at hg;cases hg
 have h2:=(h.hi g h1).1 hg;cases e:M.A9 g with
 |none=>exact absurd e h2
 |some F=>
  obtain⟨x,hx,_⟩:=Mn.Fm e;have h3:=h.mg.i.ok g x hx;refine⟨h1,h3.2.2,?_,F,rfl⟩;have:=h.n0;omega
theorem TJ{F:B.Fn}{X:PX}{Q:Int×Unit->UU}(w:WK H wb b M0 M L lv)(g:MG H' b M')(nw:New M M' F)(f:Kd b M H H')(h:∀H'',WK H'' wb b M0 M' L (BL lv M.nx true)->Ae lv M.nx=none->SN wb b M H H''->Q (M.nx,()) () H''):Wp Y0 AN AJ (some wb,M.nx,0,()) H' Q X:=by
 refine T8 _ _ _ _ _ _ ?_;have hob:H' wb=some (.st BO ({m:=some b,l:=L,live:=lv,e:=0}:Ar)):=by rw[f.at (by rw[w.ob];simp) w.wn];exact w.ob
 have hnone:Ae lv M.nx=none:=by
  cases e:Ae lv M.nx with
  |none=>rfl
  |some t=>
   have h1:=(w.hi M.nx w.nx).1 (by rw[e];rfl);refine absurd (Mn.Pr.2 ?_) h1;cases e2:Ae M.hs M.nx with
   |none=>rfl
   |some x=>have:=(w.mg.i.ok _ _ e2).2.2;omega
 refine⟨wb,rfl,_,hob,λh=>absurd rfl h,λ_=>⟨λh=>absurd rfl h,λ_=>?_⟩⟩;have n':GD b M' wb:=w.wn.same nw.bs;refine h _ ⟨Ai _ _ _,g.set hob n',w.bs.trans nw.bs,w.n0,by rw[nw.nx];have:=w.nx;omega,J5 w.nd _ _,λp hp=>(V3 hp).elim (w.tr p) id,λk hk=>?_,λk hk=>?_,?_⟩ hnone (f.w.trans λc _ a1 _=>Af _ _ a1)
 .have hne:k≠M.nx:=by have:=w.nx;omega
  rw[nw.A9,if_neg hne,C9,if_neg hne];exact w.lo k hk
 .rw[nw.A9,C9];split
  .simp
  .exact w.hi k hk
 .rw[nw.ln,KZ hnone,w.ln];omega
theorem WK.gone{g:Int}(w:WK H wb b M0 M L lv)(hg:(Ae lv g).isSome=true)(g':MG H' b M')(gn:A0p M M' g)(hob:H' wb=some (.st BO ({m:=some b,l:=L,live:=Df lv g,e:=0}:Ar))):WK H' wb b M0 M' L (Df lv g)/\(Df lv g).length+1=lv.length:=by
 have hl:=w.live hg;have len:∀{m:List (Int×Bool)},(Ae m g).isSome=true->(Df m g).length+1=m.length:=by
  intro m;induction m with
  |nil=>intro h;cases h
  |cons p m ih=>
   intro h;unfold Df;split
   .rfl
   .rename_i hp;have h:(if p.1=g then some p.2 else Ae m g).isSome=true:=h;rw[if_neg hp]at h;rw[List.length_cons,List.length_cons,ih h]
 have mem:∀{m:List (Int×Bool)}{p:Int×Bool},p∈Df m g->p∈m:=by
  intro m;induction m with
  |nil=>intro p h;exact h
  |cons q m ih=>
   intro p h;unfold Df at h;split at h
   .exact List.mem_cons_of_mem _ h
   .rcases List.mem_cons.1 h with rfl|h
    .exact List.mem_cons_self
    .exact List.mem_cons_of_mem _ (ih h)
 refine⟨⟨hob,g',w.bs.trans gn.bs,w.n0,by rw[gn.nx];exact w.nx,RW w.nd _,λp hp=>w.tr p (mem hp),λk hk=>?_,λk hk=>?_,?_⟩,len hg⟩
 .have hne:k≠g:=by omega
  rw[gn.A9,if_neg hne,Ij w.nd,if_neg hne];exact w.lo k hk
 .rw[gn.A9,Ij w.nd];split
  .simp
  .exact w.hi k hk
 .have:=gn.ln;have:=len hg;have:=w.ln;omega
theorem Rs{l:List Int}{X:PX}{Q:Unit->UU}(w:WK H wb b M0 M L lv)(hn:M.nx<576460752303423487)(hll:l.length<=1000000)(h:∀M' lv' H',WK H' wb b M0 M' L lv'->M'.nx=M.nx->(∀k,Ae lv' k=if k∈l then none else Ae lv k)->(∀k,M'.A9 k=if k∈l/\(Ae lv k).isSome=true then none else M.A9 k)->lv'.length<=lv.length->(l.Nodup->(∀k∈l,(Ae lv k).isSome=true)->lv'.length+l.length=lv.length)->SN wb b M H H'->Q () () H'):Wp Y0 Ao Am (some wb,l,()) H Q X:=by
 apply SE;unfold LH;refine λ_=>⟨λn z H'=>n=l.length-z.1/\z.1<=l.length/\∃M' lv',WK H' wb b M0 M' L lv'/\DN M M'/\M'.nx=M.nx/\(∀k,Ae lv' k=if k∈l.take z.1 then none else Ae lv k)/\(∀k,M'.A9 k=if k∈l.take z.1/\(Ae lv k).isSome=true then none else M.A9 k)/\lv'.length<=lv.length/\(l.Nodup->(∀k∈l,(Ae lv k).isSome=true)->lv'.length+z.1=lv.length)/\SN wb b M H H',⟨_,rfl,Nat.zero_le _,M,lv,w,.refl,rfl,λk=>by simp,λk=>by simp,Nat.le_refl _,λ_ _=>rfl,SN.refl⟩,?_⟩
 rintro n ⟨j,_⟩ H' ⟨hn0,hj0,M',lv',w',bs,nx,e1,e2,le0,le1,f⟩;have hnj:n=l.length-j:=hn0;have hj:j<=l.length:=hj0;replace e1:∀k,Ae lv' k=if k∈l.take j then none else Ae lv k:=e1
 replace e2:∀k,M'.A9 k=if k∈l.take j/\(Ae lv k).isSome=true then none else M.A9 k:=e2
 replace le1:l.Nodup->(∀k∈l,(Ae lv k).isSome=true)->lv'.length+j=lv.length:=le1;clear hn0 hj0;refine⟨λhjl _=>?_,λhjl=>?_⟩
 .have hjl':j<l.length:=hjl;have tk:∀k,k∈l.take (j+1)↔k∈l.take j∨k=l[j]:=λk=>by rw[List.take_succ_eq_append_getElem hjl',List.mem_append,List.mem_singleton]
  refine⟨hjl',wb,rfl,_,w'.ob,λht=>?_,λht=>⟨by show j+1<=_;omega,l.length-(j+1),by omega,rfl,rfl,by show j+1<=_;omega,M',lv',w',bs,nx,λk=>?_,λk=>?_,le0,λhnd hall=>?_,f⟩⟩
  .have ht:(Ae lv' l[j]).getD false=true:=ht;have hs:(Ae lv' l[j]).isSome=true:=by
    cases e:Ae lv' l[j] with
    |none=>rw[e]at ht;cases ht
    |some t=>rfl
   obtain⟨g1,g2,g3,F,hF⟩:=w'.live hs;refine RY (M:=M') (w'.mg.set w'.ob w'.wn) (by omega) g3 hF λM2 H2 e mg2 gn f2=>?_;have hob2:H2 wb=some (.st BO ({m:=some b,l:=L,live:=Df lv' l[j],e:=0}:Ar)):=by rw[f2.at (by rw[Ai];simp) w'.wn,Ai]
   obtain⟨w2,len2⟩:=w'.gone hs mg2 gn hob2;have hnt:l[j]∉l.take j:=λhm=>by have:=e1 l[j];rw[if_pos hm]at this;rw[this]at hs;cases hs
   have hs0:(Ae lv l[j]).isSome=true:=by have:=e1 l[j];rw[if_neg hnt]at this;rw[<-this];exact hs
   refine⟨by show j+1<=_;omega,l.length-(j+1),by omega,rfl,by show j+1<=_;omega,M2,_,w2,bs.trans gn.bs,gn.nx.trans nx,λk=>?_,λk=>?_,by omega,λhnd hall=>?_,(f.trans λc _ a1 _=>Af _ _ a1).trans (f2.w.same bs)⟩
   .show _=if k∈l.take (j+1) then none else Ae lv k
    rw[Ij w'.nd,e1];by_cases hk:k=l[j]
    .rw[if_pos hk,if_pos ((tk k).2 (.inr hk))]
    .rw[if_neg hk];by_cases hm:k∈l.take j
     .rw[if_pos hm,if_pos ((tk k).2 (.inl hm))]
     .rw[if_neg hm,if_neg λh=>((tk k).1 h).elim hm hk]
   .show _=if k∈l.take (j+1)/\(Ae lv k).isSome=true then none else M.A9 k
    rw[gn.A9,e2];by_cases hk:k=l[j]
    .rw[if_pos hk,if_pos ⟨(tk k).2 (.inr hk),by rw[hk];exact hs0⟩]
    .rw[if_neg hk];by_cases hm:k∈l.take j
     .have:=(tk k).2 (.inl hm);simp only[hm,this]
     .have:¬k∈l.take (j+1):=λh=>((tk k).1 h).elim hm hk;simp only[hm,this]
   .have:=le1 hnd hall;show (Df lv' l[j]).length+(j+1)=lv.length;omega
  .have hn':Ae lv' l[j]=none:=by
    cases e:Ae lv' l[j] with
    |none=>rfl
    |some t=>
     have:=w'.tr _ (I9 e);simp only at this;subst this;have ht:¬(Ae lv' l[j]).getD false=true:=ht;rw[e]at ht;exact absurd rfl ht
   show _=if k∈l.take (j+1) then none else Ae lv k
   rw[e1];by_cases hk:k=l[j]
   .subst hk;have:=e1 l[j];rw[hn']at this;rw[if_pos ((tk _).2 (.inr rfl)),<-this]
   .by_cases hm:k∈l.take j
    .rw[if_pos hm,if_pos ((tk k).2 (.inl hm))]
    .rw[if_neg hm,if_neg λh=>((tk k).1 h).elim hm hk]
  .have hn':Ae lv' l[j]=none:=by
    cases e:Ae lv' l[j] with
    |none=>rfl
    |some t=>
     have:=w'.tr _ (I9 e);simp only at this;subst this;have ht:¬(Ae lv' l[j]).getD false=true:=ht;rw[e]at ht;exact absurd rfl ht
   show _=if k∈l.take (j+1)/\(Ae lv k).isSome=true then none else M.A9 k
   rw[e2];by_cases hk:k=l[j]
   .subst hk;have h1:=e1 l[j];rw[hn']at h1;by_cases hm:l[j]∈l.take j
    .have:=(tk l[j]).2 (.inl hm);simp only[hm,this]
    .rw[if_neg hm]at h1;rw[if_neg (λh=>hm h.1),if_neg (λh=>by rw[<-h1]at h;cases h.2)]
   .by_cases hm:k∈l.take j
    .have:=(tk k).2 (.inl hm);simp only[hm,this]
    .have:¬k∈l.take (j+1):=λh=>((tk k).1 h).elim hm hk;simp only[hm,this]
  .exfalso;have hnt:l[j]∉l.take j:=λhm=>by obtain⟨q,hq,e⟩:=List.mem_iff_getElem.1 hm;rw[List.length_take]at hq;rw[List.getElem_take]at e;have:=(List.getElem_inj hnd).1 e;omega
   have h1:=e1 l[j];rw[if_neg hnt]at h1;have h2:=hall l[j] (List.getElem_mem hjl');rw[<-h1]at h2;obtain⟨t,ht2⟩:=Option.isSome_iff_exists.1 h2;have:=w'.tr _ (I9 ht2);simp only at this;subst this;have ht:¬(Ae lv' l[j]).getD false=true:=ht;rw[ht2]at ht;exact ht rfl
 .have hjl':¬j<l.length:=hjl;have:j=l.length:=by omega
  subst this;rw[List.take_length]at e1 e2;exact h M' lv' H' w' nx e1 e2 le0 le1 f
end
section
structure Used(M M':Mn)(lv lv':List (Int×Bool))(l:List Int)(F:B.Fn):Prop where
 nx:M'.nx=M.nx+1
 get:∀k,Ae lv' k=if k=M.nx then some true else if k∈l then none else Ae lv k
 A9:∀k,M'.A9 k=if k=M.nx then some F else if k∈l/\(Ae lv k).isSome=true then none else M.A9 k
 le:lv'.length<=lv.length+1
 len:l.Nodup->(∀k∈l,(Ae lv k).isSome=true)->lv'.length+l.length=lv.length+1
variable {H:HY} {wb b:Nat} {M0 M:Mn} {L:Ad} {lv:List (Int×Bool)} {F:B.Fn}
theorem WK.lt(w:WK H wb b M0 M L lv){k:Int}(hF:M.A9 k=some F):k<M.nx:=by obtain⟨e,he,_⟩:=Mn.Fm hF;exact(w.mg.i.ok k e he).2.2
theorem WK.nl(w:WK H wb b M0 M L lv){k:Int}(hk:M.nx<=k):Ae lv k=none/\M.A9 k=none:=by
 have h1:M.A9 k=none:=by
  cases e:M.A9 k with
  |none=>rfl
  |some F=>have:=w.lt e;omega
 refine⟨?_,h1⟩;cases e:Ae lv k with
 |none=>rfl
 |some t=>exact absurd h1 ((w.hi k (by have:=w.nx;omega)).1 (by rw[e];rfl))
def DoS(b:Nat)(M:Mn)(H:HY)(l:List Int)(F:B.Fn)(Li:FT Y0 [.ptr,.sl I6] [.int .i64,.int .i64]):Prop:=∀(Q:Int×Int×Unit->HP)(X:PX),(∀M' H',MG H' b M'->New M M' F->Kd b M H H'->Q (M.nx,0,()) H')->Li (some b,l,()) H Q X
variable {X:PX} {Q:Int×Unit->UU}
theorem Aae{Li:FT Y0 [.ptr,.sl I6] [.int .i64,.int .i64]}{l:List Int}(w:WK H wb b M0 M L lv)(hn:M.nx<576460752303423486)(hll:l.length<=1000000)(hlt:∀k∈l,k<M.nx)(hdo:DoS b M H l F Li)(h:∀M' lv' H',WK H' wb b M0 M' L lv'->DN M M'->Used M M' lv lv' l F->SN wb b M H H'->Q (M.nx,()) () H'):Wp Y0 Dz CQ (some wb,Li,l,()) H Q X:=by
 apply T7;unfold MO;refine⟨wb,rfl,_,w.ob,λh=>absurd rfl h,λ_=>⟨rfl,hdo _ _ λM1 H1 g1 nw f1=>?_⟩⟩;refine TJ w g1 nw f1 λH2 w2 hnone f2=>?_;refine Rs w2 (by rw[nw.nx];omega) hll λM3 lv3 H3 w3 nx3 e1 e2 le0 le1 f3=>?_;have hl2:(BL lv M.nx true).length=lv.length+1:=KZ hnone;refine h M3 lv3 H3 w3 ?_ ⟨nx3.trans nw.nx,λk=>?_,λk=>?_,by omega,λhnd hall=>?_⟩ (f2.trans (f3.same nw.bs))
 .have e1:=w.bs;have e2:=w3.bs;exact⟨e2.sb.trans e1.sb.symm,e2.mb.trans e1.mb.symm,e2.bl.trans e1.bl.symm,e2.bp.trans e1.bp.symm,e2.tb.trans e1.tb.symm⟩
 .rw[e1,C9];by_cases hk:k=M.nx
  .rw[if_pos hk,if_neg (λhm=>by have:=hlt k hm;omega),if_pos hk]
  .rw[if_neg hk,if_neg hk]
 .rw[e2,nw.A9,C9];by_cases hk:k=M.nx
  .have hnm:¬k∈l:=λhm=>by have:=hlt k hm;omega
   simp [hk,hk▸hnm]
  .rw[if_neg hk,if_neg hk,if_neg hk]
 .have:=le1 hnd λk hk=>by rw[C9];have hk2:=hlt k hk;rw[if_neg (by omega)];exact hall k hk
  omega
theorem Oa{M':Mn}{H':HY}(w:WK H wb b M0 M L lv)(g:MG H' b M')(nw:New M M' F)(f:Kd b M H H')(h:∀lv' H'',WK H'' wb b M0 M' L lv'->DN M M'->Used M M' lv lv' [] F->SN wb b M H H''->Q (M.nx,()) () H''):Wp Y0 AN AJ (some wb,M.nx,0,()) H' Q X:=by
 refine TJ w g nw f λH'' w2 hnone f2=>h _ H'' w2 nw.bs ⟨nw.nx,λk=>?_,λk=>?_,by rw[KZ hnone];exact Nat.le_refl _,λ_ _=>by rw[KZ hnone];rfl⟩ f2
 .rw[C9];simp
 .rw[nw.A9];simp
theorem SQ{yes:Bool}(w:WK H wb b M0 M L lv)(hn:M.nx<576460752303423486)(h:∀M' lv' H',WK H' wb b M0 M' L lv'->DN M M'->Used M M' lv lv' [] (λ_=>yes)->SN wb b M H H'->Q (M.nx,()) () H'):Wp Y0 Ce BF (some wb,yes,()) H Q X:=by
 apply NW;unfold Jh;have hc:M.A9 (if yes=true then 1 else 0)=some (λ_=>yes):=by
  cases yes
  .exact w.mg.i.Amt
  .exact w.mg.i.As9
 have one:Wp Y0 FR EH (some b,(if yes=true then 1 else 0),()) H (λ(b_2:Int×Int×Unit)_ H'=>Wp Y0 AN AJ (some wb,b_2.1,b_2.2.1,()) H' (λ(b:Int×Unit)_ H'=>Q (b.1,()) () H') X) X:=
  Zx w.mg (by omega) hc λM' H' g nw f=>Oa w g nw f λlv' H'' w2 bs u f2=>h M' lv' H'' w2 bs u f2
 exact⟨wb,rfl,_,w.ob,⟨rfl,RZ one⟩,rfl,RZ ⟨_,w.ob,rfl,one⟩⟩
end
section
def D5(l:List Int)(k:Nat):Int:=(l.take k).foldl (·+·) 0
theorem Ez{l:List Int}{k:Nat}(h:k<l.length):D5 l (k+1)=D5 l k+l[k]:=by unfold D5;rw[List.take_succ_eq_append_getElem h,List.foldl_append];rfl
structure Kc(L:Ad):Prop where
 lb:L.Bits.length=L.Ab.length
 la:L.At.length=L.Ab.length
 ln:L.Ab.length<=64
 b0:∀i(h:i<L.Bits.length),0<=L.Bits[i]/\L.Bits[i]<=30
 at_:∀i(h:i<L.At.length),L.At[i]=D5 L.Bits i
variable {L:Ad}
theorem Kc.sum(h:Kc L):∀{k:Nat},k<=L.Bits.length->0<=D5 L.Bits k/\D5 L.Bits k<=30*k
 |0,_=>by simp [D5]
 |k+1,hk=>by have:=h.sum (k:=k) (by omega);have:=h.b0 k (by omega);rw[Ez (by omega)];omega
theorem Kc.Mp(h:Kc L){j:Nat}:∀{k:Nat},j<=k->k<=L.Bits.length->D5 L.Bits j<=D5 L.Bits k
 |0,hj,_=>by rw[show j=0 by omega];exact Int.le_refl _
 |k+1,hj,hk=>by
  by_cases e:j=k+1
  .subst e;exact Int.le_refl _
  .have:=h.Mp (j:=j) (k:=k) (by omega) (by omega);have:=h.b0 k (by omega);rw[Ez (by omega)];omega
def DP(L:Ad):Int:=D5 L.Bits L.Bits.length
variable {H:HY} {X:PX}
theorem Sv{Q:Int×Unit->UU}(hL:Kc L)(h:Q (DP L,()) () H):Wp Y0 FA Ee (L,()) H Q X:=by
 apply Rb;unfold Lg;have hln:=hL.ln;have hlb:=hL.lb;refine λ_=>⟨λn z=>n=L.Bits.length-z.2.1/\z.2.1<=L.Bits.length/\z.1=D5 L.Bits z.2.1,⟨_,rfl,rfl,Nat.zero_le _,rfl⟩,?_⟩
 rintro n ⟨s,k,_⟩ ⟨hn0,hk0,hs0⟩;have hn:n=L.Bits.length-k:=hn0;have hk:k<=L.Bits.length:=hk0;have hs:s=D5 L.Bits k:=hs0;subst hs;clear hn0 hk0 hs0;refine⟨λhkl _=>?_,λhkl=>?_⟩
 .have hkl':k<L.Bits.length:=hkl;have h1:=hL.sum hk;have h2:=hL.b0 k hkl';exact⟨hkl',λ_ _=>⟨AG.2 (by show _<=D5 L.Bits k+L.Bits[k]/\D5 L.Bits k+L.Bits[k]<=_;omega),by show k+1<=_;omega,L.Bits.length-(k+1),by omega,rfl,rfl,by show k+1<=_;omega,(Ez hkl').symm⟩⟩
 .have hkl':¬k<L.Bits.length:=hkl;have:k=L.Bits.length:=by omega
  subst this;exact h
def Ns(L:Ad)(i:Nat):List Int:=(List.range ((L.Bits[i]?).getD 0).toNat).map λ(k:Nat)=>2*((L.At[i]?).getD 0+(k:Int))
variable {i:Nat}
theorem Ra{Q:List Int×Unit->UU}(hL:Kc L)(hi:i<L.Ab.length)(h:Q (Ns L i,()) () H):Wp Y0 Ft Ec (L,(i:Int),()) H Q X:=by
 apply T3;unfold MJ;have hln:=hL.ln;have hib:i<L.Bits.length:=by rw[hL.lb];exact hi
 have hia:i<L.At.length:=by rw[hL.la];exact hi
 have t0:((i:Int)).toNat=i:=by omega
 have h1:=hL.b0 i hib;have h2:=hL.at_ i hia;have h3:=hL.sum (k:=i) (by omega);have hnow:Ns L i=(List.range L.Bits[i].toNat).map λ(k:Nat)=>2*(L.At[i]+(k:Int)):=by unfold Ns;rw[List.getElem?_eq_getElem hib,List.getElem?_eq_getElem hia];rfl
 simp only[t0];refine⟨λhn=>by omega,λ_ _=>⟨λhn=>?_,λ_ _=>⟨λ_=>by omega,hib,λn z=>n=L.Bits[i].toNat-z.2.1/\z.2.1<=L.Bits[i].toNat/\z.1=(List.range z.2.1).map λ(k:Nat)=>2*(L.At[i]+(k:Int)),⟨_,trivial,rfl,Nat.zero_le _,rfl⟩,?_⟩⟩⟩
 .have hn:(L.Bits.length:Int)<=(i:Int):=hn;omega
 rintro n ⟨s,k,_⟩ ⟨hn0,hk0,hs0⟩;have hn:n=L.Bits[i].toNat-k:=hn0;have hk:k<=L.Bits[i].toNat:=hk0;have hs:s=(List.range k).map λ(k:Nat)=>2*(L.At[i]+(k:Int)):=hs0;subst hs;clear hn0 hk0 hs0;refine⟨λhkl _=>?_,λhkl=>?_⟩
 .have hkl':(k:Int)<L.Bits[i]:=hkl;refine⟨λ_=>by omega,hia,λ_ _=>⟨AG.2 (by show _<=L.At[i]+(k:Int)/\L.At[i]+(k:Int)<=_;omega),λ_=>⟨AG.2 (by show _<=2*(L.At[i]+(k:Int))/\2*(L.At[i]+(k:Int))<=_;omega),?_,by show k+1<=_;omega,L.Bits[i].toNat-(k+1),by omega,trivial,rfl,by show k+1<=_;omega,?_⟩⟩⟩
  .show (((List.range k).map _).length+1)*8<=_;simp;omega
  .show (List.range k).map _++[_]=(List.range (k+1)).map _;rw[List.range_succ,List.map_append];rfl
 .have hkl':¬(k:Int)<L.Bits[i]:=hkl;have:k=L.Bits[i].toNat:=by omega
  subst this;rw[hnow]at h;exact h
theorem V0(hL:Kc L)(hi:i<L.Ab.length):(Ns L i).length<=30:=by
 have hib:i<L.Bits.length:=by rw[hL.lb];exact hi
 have:=hL.b0 i hib;unfold Ns;rw[List.length_map,List.length_range,List.getElem?_eq_getElem hib];simp;omega
theorem Vz(hL:Kc L)(hi:i<L.Ab.length){v:Int}(hv:v∈Ns L i):0<=v/\v+1<2*DP L/\v%2=0:=by
 have hib:i<L.Bits.length:=by rw[hL.lb];exact hi
 have hia:i<L.At.length:=by rw[hL.la];exact hi
 have h1:=hL.b0 i hib;have h2:=hL.at_ i hia;have h3:=hL.sum (k:=i) (by omega);have h4:=hL.Mp (j:=i+1) (k:=L.Bits.length) (by omega) (Nat.le_refl _);rw[Ez hib]at h4;unfold Ns at hv;rw[List.getElem?_eq_getElem hib,List.getElem?_eq_getElem hia]at hv;obtain⟨k,hk,rfl⟩:=List.mem_map.1 hv;have hk:=List.mem_range.1 hk;simp only[Option.getD_some]at hk ⊢;unfold DP;omega
theorem TY{Q:List Int×Unit->UU}(hL:Kc L)(hi:i<L.Ab.length)(h:Q ((Ns L i).map (·+1),()) () H):Wp Y0 Gm E8 (L,(i:Int),()) H Q X:=by
 apply Sw;unfold LB;refine Ra hL hi λ_=>?_;have hlen:=V0 hL hi;have hmem:∀v∈Ns L i,0<=v/\v+1<2*DP L/\v%2=0:=λv hv=>Vz hL hi hv;have htot:=(hL.sum (Nat.le_refl _)).2;have hln:=hL.ln;have hlb:=hL.lb;generalize Ns L i=V at *;refine⟨λn z=>n=V.length-z.2.1/\z.2.1<=V.length/\z.1=(V.take z.2.1).map (·+1),⟨_,rfl,rfl,Nat.zero_le _,rfl⟩,?_⟩;rintro n ⟨s,k,_⟩ ⟨hn0,hk0,hs0⟩;have hn:n=V.length-k:=hn0;have hk:k<=V.length:=hk0;have hs:s=(V.take k).map (·+1):=hs0;subst hs;clear hn0 hk0 hs0;refine⟨λhkl _=>?_,λhkl=>?_⟩
 .have hkl':k<V.length:=hkl;have h1:=hmem V[k] (List.getElem_mem hkl');have h2:DP L<=1920:=by unfold DP;omega
  refine⟨hkl',λ_=>⟨AG.2 (by show _<=V[k]+1/\V[k]+1<=_;omega),?_,by show k+1<=_;omega,V.length-(k+1),by omega,rfl,rfl,by show k+1<=_;omega,?_⟩⟩
  .show (((V.take k).map (·+1)).length+1)*8<=_;simp;omega
  .show (V.take k).map (·+1)++[V[k]+1]=(V.take (k+1)).map (·+1);rw[List.take_succ_eq_append_getElem hkl',List.map_append];rfl
 .have hkl':¬k<V.length:=hkl;have:k=V.length:=by omega
  subst this;rw[List.take_length];exact h
end
section
set_option maxRecDepth 100000
set_option maxHeartbeats 2000000
def Es(yield:Int×Unit->HY->(Bool×Unit->HP)->PX->Prop)(p1:Option Nat)(H:HY)(Q:Unit->UU)(X:PX):=∃(b:Nat),p1=some b/\∃(m:List (Int×Int)),H b=some (Ob.mp (Ty.int .i64) (Ty.int .i64) m)/\True/\∃(V:List (Int×Int)->UU),(True/\V m () (Cs H b))/\∀(left:List (Int×Int))(x:Unit)(H:HY),V left x H->(left=[]->Q () () (Ac H b (Ob.mp (Ty.int .i64) (Ty.int .i64) m)))/\∀(l1:List (Int×Int))(p:Int×Int)(l2:List (Int×Int)),left=l1++p::l2->yield (p.1,()) H (λ(b1:Bool×Unit)(G:HY)=>(¬b1.1=true->Q () () (Ac G b (Ob.mp (Ty.int .i64) (Ty.int .i64) m)))/\(¬¬b1.1=true->True/\V (l1++l2) () G)) X
theorem Im yield p1 H Q X(h_:Es yield p1 H Q X):Wp Y0 Bb AO (yield,p1,()) H Q X:=wFS Tryz.f139 {lp:=[(1,⟨[],[0,5],true⟩)]} h_
def DY(yield:Int×Unit->HY->(Bool×Unit->HP)->PX->Prop)(p1:Option Nat)(H:HY)(Q:Unit->UU)(X:PX):=∃(b:Nat),p1=some b/\∃(m:List (Int×Int)),H b=some (Ob.mp (Ty.int .i64) (Ty.int .i64) m)/\True/\∃(V:List (Int×Int)->UU),(True/\V m () (Cs H b))/\∀(left:List (Int×Int))(x:Unit)(H:HY),V left x H->(left=[]->Q () () (Ac H b (Ob.mp (Ty.int .i64) (Ty.int .i64) m)))/\∀(l1:List (Int×Int))(p:Int×Int)(l2:List (Int×Int)),left=l1++p::l2->yield (p.2,()) H (λ(b1:Bool×Unit)(G:HY)=>(¬b1.1=true->Q () () (Ac G b (Ob.mp (Ty.int .i64) (Ty.int .i64) m)))/\(¬¬b1.1=true->True/\V (l1++l2) () G)) X
theorem Ht yield p1 H Q X(h_:DY yield p1 H Q X):Wp Y0 Bi AW (yield,p1,()) H Q X:=wFS Tryz.f235 {lp:=[(1,⟨[],[0,6],true⟩)]} h_
def Lm(w:Option Nat)(a b:AL)(Li:Int×Int×Int×Unit->HY->(Unit->HP)->PX->Prop)(H:HY)(Q:Unit->UU)(X:PX):=Wp Y0 CS Cr (w,a,()) H (λ(b1:Option Nat×Unit)_ G=>Wp Y0 CS Cr (w,b,()) G (λ(b:Option Nat×Unit)_ G=>∀(b2:Nat),G b2=none->∀(l:Nat)(r:Loop),Ac G b2 (Ob.st Al []) l=none->Wp Y0 Bb AO (λ(a:Int×Unit)(H:HY)(Q:Bool×Unit->HP)(X:Nat->Lf Y0.D->HP)=>H l=some (Ob.lp r)/\H l=some (Ob.lp r)/\∃(x:List Int),Ac H l (Ob.lp (CE r)) b2=some (Ob.st Al x)/\(x.length+[a.1].length)*8<=140737488355328/\Ac (Ac H l (Ob.lp (CE r))) b2 (Ob.st Al (x++[a.1])) l=some (Ob.lp (CE r))/\Q (true,()) (Ac (Ac (Ac H l (Ob.lp (CE r))) b2 (Ob.st Al (x++[a.1]))) l (Ob.lp r)),b1.1,()) (Ac (Ac G b2 (Ob.st Al [])) l (Ob.lp r)) (λ(b3 io:Unit)(G:HY)=>(G l=some (Ob.lp r)/\∀(r':Loop),∃(x:List Int),Ac G l (Ob.lp r') b2=some (Ob.st Al x)/\Wp Y0 CA Ca (x,()) (Cs (Ac G l (Ob.lp r')) b2) (λ(b4:Unit)(io:List Int×Unit)(G:HY)=>io.1.length<=9223372036854775807->∃(V:Nat->List Int×Nat×Unit->HP),(∃(n:Nat),V n (io.1,0,()) G)/\∀n x H,V n x H->(x.2.1<io.1.length->x.2.1<=9223372036854775807->∃(h:x.2.1<x.1.length),∃(h:x.2.1<x.1.length),∀(b5:Nat),H b5=none->∀(l:Nat)(r:Loop),Ac H b5 (Ob.st Al []) l=none->Wp Y0 Bb AO (λ(a:Int×Unit)(H:HY)(Q:Bool×Unit->HP)(X:Nat->Lf Y0.D->HP)=>H l=some (Ob.lp r)/\H l=some (Ob.lp r)/\∃(x:List Int),Ac H l (Ob.lp (CE r)) b5=some (Ob.st Al x)/\(x.length+[a.1].length)*8<=140737488355328/\Ac (Ac H l (Ob.lp (CE r))) b5 (Ob.st Al (x++[a.1])) l=some (Ob.lp (CE r))/\Q (true,()) (Ac (Ac (Ac H l (Ob.lp (CE r))) b5 (Ob.st Al (x++[a.1]))) l (Ob.lp r)),b.1,()) (Ac (Ac H b5 (Ob.st Al [])) l (Ob.lp r)) (λ(b6 io:Unit)(G:HY)=>(G l=some (Ob.lp r)/\∀(r':Loop),∃(x1:List Int),Ac G l (Ob.lp r') b5=some (Ob.st Al x1)/\Wp Y0 CA Ca (x1,()) (Cs (Ac G l (Ob.lp r')) b5) (λ(b7:Unit)(io:List Int×Unit)(G:HY)=>io.1.length<=9223372036854775807->∃(V1:Nat->List Int×List Int×Nat×Unit->HP),(∃(n:Nat),V1 n (x.1,io.1,0,()) G)/\∀n1 x2 H,V1 n1 x2 H->(x2.2.2.1<io.1.length->x2.2.2.1<=(9223372036854775807:Nat)->∃(h1:x2.2.2.1<x2.2.1.length),∃(h2:x2.2.2.1<x2.2.1.length),∃(b8:Nat),w=some b8/\(∃(x3:Ar),H b8=some (Ob.st BO x3)/\(x3=x3/\∃(r:Nat),b1.1=some r/\∃(m:List (Int×Int)),H r=some (Ob.mp (Ty.int .i64) (Ty.int .i64) m)/\∃(r:Nat),b.1=some r/\∃(m1:List (Int×Int)),H r=some (Ob.mp (Ty.int .i64) (Ty.int .i64) m1)/\Wp Y0 De CN (x3.m,[(Ae m x.1[x.2.1]).getD (0:Int),(Ae m1 x2.2.1[x2.2.2.1]).getD (0:Int)],()) H (λ(b:Int×Int×Unit)_ G=>Wp Y0 AN AJ (w,b.1,b.2.1,()) G (λ(b:Int×Unit)_ G=>∃(x4:Ar),G b8=some (Ob.st BO x4)/\x4=x4/\Wp Y0 CW CC (x4.m,b.1,(0:Int),()) G (λ(b9:Bool×Int×Unit)_ G=>(b9.1=true->Wp Y0 Ao Am (w,[b.1],()) G (λ(b io:Unit)(G:HY)=>x2.2.2.1+1<=(9223372036854775807:Nat)/\∃m,m<n1/\V1 m (x2.1,x2.2.1,x2.2.2.1+1,()) G) X)/\(¬b9.1=true->(¬b9.2.1=0->Wp Y0 Ao Am (w,[b.1],()) G (λ(b io:Unit)(G:HY)=>x2.2.2.1+1<=(9223372036854775807:Nat)/\∃m,m<n1/\V1 m (x2.1,x2.2.1,x2.2.2.1+1,()) G) X)/\(¬¬b9.2.1=0->Li (x.1[x.2.1],x2.2.1[x2.2.2.1],b.1,()) G (λ(b:Unit)(G:HY)=>x2.2.2.1+1<=(9223372036854775807:Nat)/\∃m,m<n1/\V1 m (x2.1,x2.2.1,x2.2.2.1+1,()) G) X))) X) X) X)/\x3=x3/\∃(r:Nat),b.1=some r/\∃(m:List (Int×Int)),H r=some (Ob.mp (Ty.int .i64) (Ty.int .i64) m)/\∃(r:Nat),b1.1=some r/\∃(m1:List (Int×Int)),H r=some (Ob.mp (Ty.int .i64) (Ty.int .i64) m1)/\Wp Y0 De CN (x3.m,[(Ae m1 x.1[x.2.1]).getD (0:Int),(Ae m x2.2.1[x2.2.2.1]).getD (0:Int)],()) H (λ(b:Int×Int×Unit)_ G=>Wp Y0 AN AJ (w,b.1,b.2.1,()) G (λ(b:Int×Unit)_ G=>∃(x4:Ar),G b8=some (Ob.st BO x4)/\x4=x4/\Wp Y0 CW CC (x4.m,b.1,(0:Int),()) G (λ(b9:Bool×Int×Unit)_ G=>(b9.1=true->Wp Y0 Ao Am (w,[b.1],()) G (λ(b io:Unit)(G:HY)=>x2.2.2.1+1<=(9223372036854775807:Nat)/\∃m,m<n1/\V1 m (x2.1,x2.2.1,x2.2.2.1+1,()) G) X)/\(¬b9.1=true->(¬b9.2.1=0->Wp Y0 Ao Am (w,[b.1],()) G (λ(b io:Unit)(G:HY)=>x2.2.2.1+1<=(9223372036854775807:Nat)/\∃m,m<n1/\V1 m (x2.1,x2.2.1,x2.2.2.1+1,()) G) X)/\(¬¬b9.2.1=0->Li (x.1[x.2.1],x2.2.1[x2.2.2.1],b.1,()) G (λ(b:Unit)(G:HY)=>x2.2.2.1+1<=(9223372036854775807:Nat)/\∃m,m<n1/\V1 m (x2.1,x2.2.1,x2.2.2.1+1,()) G) X))) X) X) X)/\(∃(r:Nat),b1.1=some r/\∃(m:List (Int×Int)),H r=some (Ob.mp (Ty.int .i64) (Ty.int .i64) m)/\(∃(x3:Ar),H b8=some (Ob.st BO x3)/\x3=x3/\∃(r:Nat),b.1=some r/\∃(m1:List (Int×Int)),H r=some (Ob.mp (Ty.int .i64) (Ty.int .i64) m1)/\Wp Y0 De CN (x3.m,[(Ae m x.1[x.2.1]).getD (0:Int),(Ae m1 x2.2.1[x2.2.2.1]).getD (0:Int)],()) H (λ(b:Int×Int×Unit)_ G=>Wp Y0 AN AJ (w,b.1,b.2.1,()) G (λ(b:Int×Unit)_ G=>∃(x4:Ar),G b8=some (Ob.st BO x4)/\x4=x4/\Wp Y0 CW CC (x4.m,b.1,(0:Int),()) G (λ(b9:Bool×Int×Unit)_ G=>(b9.1=true->Wp Y0 Ao Am (w,[b.1],()) G (λ(b io:Unit)(G:HY)=>x2.2.2.1+1<=(9223372036854775807:Nat)/\∃m,m<n1/\V1 m (x2.1,x2.2.1,x2.2.2.1+1,()) G) X)/\(¬b9.1=true->(¬b9.2.1=0->Wp Y0 Ao Am (w,[b.1],()) G (λ(b io:Unit)(G:HY)=>x2.2.2.1+1<=(9223372036854775807:Nat)/\∃m,m<n1/\V1 m (x2.1,x2.2.1,x2.2.2.1+1,()) G) X)/\(¬¬b9.2.1=0->Li (x.1[x.2.1],x2.2.1[x2.2.2.1],b.1,()) G (λ(b:Unit)(G:HY)=>x2.2.2.1+1<=(9223372036854775807:Nat)/\∃m,m<n1/\V1 m (x2.1,x2.2.1,x2.2.2.1+1,()) G) X))) X) X) X)/\∃(r:Nat),b.1=some r/\∃(m1:List (Int×Int)),H r=some (Ob.mp (Ty.int .i64) (Ty.int .i64) m1)/\dup (∃(x3:Ar),H b8=some (Ob.st BO x3)/\x3=x3/\Wp Y0 De CN (x3.m,[(Ae m x.1[x.2.1]).getD (0:Int),(Ae m1 x2.2.1[x2.2.2.1]).getD (0:Int)],()) H (λ(b:Int×Int×Unit)_ G=>Wp Y0 AN AJ (w,b.1,b.2.1,()) G (λ(b:Int×Unit)_ G=>∃(x4:Ar),G b8=some (Ob.st BO x4)/\x4=x4/\Wp Y0 CW CC (x4.m,b.1,(0:Int),()) G (λ(b9:Bool×Int×Unit)_ G=>(b9.1=true->Wp Y0 Ao Am (w,[b.1],()) G (λ(b io:Unit)(G:HY)=>x2.2.2.1+1<=(9223372036854775807:Nat)/\∃m,m<n1/\V1 m (x2.1,x2.2.1,x2.2.2.1+1,()) G) X)/\(¬b9.1=true->(¬b9.2.1=0->Wp Y0 Ao Am (w,[b.1],()) G (λ(b io:Unit)(G:HY)=>x2.2.2.1+1<=(9223372036854775807:Nat)/\∃m,m<n1/\V1 m (x2.1,x2.2.1,x2.2.2.1+1,()) G) X)/\(¬¬b9.2.1=0->Li (x.1[x.2.1],x2.2.1[x2.2.2.1],b.1,()) G (λ(b:Unit)(G:HY)=>x2.2.2.1+1<=(9223372036854775807:Nat)/\∃m,m<n1/\V1 m (x2.1,x2.2.1,x2.2.2.1+1,()) G) X))) X) X) X))/\∃(r:Nat),b.1=some r/\∃(m:List (Int×Int)),H r=some (Ob.mp (Ty.int .i64) (Ty.int .i64) m)/\(∃(x3:Ar),H b8=some (Ob.st BO x3)/\x3=x3/\∃(r:Nat),b1.1=some r/\∃(m1:List (Int×Int)),H r=some (Ob.mp (Ty.int .i64) (Ty.int .i64) m1)/\Wp Y0 De CN (x3.m,[(Ae m1 x.1[x.2.1]).getD (0:Int),(Ae m x2.2.1[x2.2.2.1]).getD (0:Int)],()) H (λ(b:Int×Int×Unit)_ G=>Wp Y0 AN AJ (w,b.1,b.2.1,()) G (λ(b:Int×Unit)_ G=>∃(x4:Ar),G b8=some (Ob.st BO x4)/\x4=x4/\Wp Y0 CW CC (x4.m,b.1,(0:Int),()) G (λ(b9:Bool×Int×Unit)_ G=>(b9.1=true->Wp Y0 Ao Am (w,[b.1],()) G (λ(b io:Unit)(G:HY)=>x2.2.2.1+1<=(9223372036854775807:Nat)/\∃m,m<n1/\V1 m (x2.1,x2.2.1,x2.2.2.1+1,()) G) X)/\(¬b9.1=true->(¬b9.2.1=0->Wp Y0 Ao Am (w,[b.1],()) G (λ(b io:Unit)(G:HY)=>x2.2.2.1+1<=(9223372036854775807:Nat)/\∃m,m<n1/\V1 m (x2.1,x2.2.1,x2.2.2.1+1,()) G) X)/\(¬¬b9.2.1=0->Li (x.1[x.2.1],x2.2.1[x2.2.2.1],b.1,()) G (λ(b:Unit)(G:HY)=>x2.2.2.1+1<=(9223372036854775807:Nat)/\∃m,m<n1/\V1 m (x2.1,x2.2.1,x2.2.2.1+1,()) G) X))) X) X) X)/\∃(r:Nat),b1.1=some r/\∃(m1:List (Int×Int)),H r=some (Ob.mp (Ty.int .i64) (Ty.int .i64) m1)/\dup (∃(x3:Ar),H b8=some (Ob.st BO x3)/\x3=x3/\Wp Y0 De CN (x3.m,[(Ae m1 x.1[x.2.1]).getD (0:Int),(Ae m x2.2.1[x2.2.2.1]).getD (0:Int)],()) H (λ(b:Int×Int×Unit)_ G=>Wp Y0 AN AJ (w,b.1,b.2.1,()) G (λ(b:Int×Unit)_ G=>∃(x4:Ar),G b8=some (Ob.st BO x4)/\x4=x4/\Wp Y0 CW CC (x4.m,b.1,(0:Int),()) G (λ(b9:Bool×Int×Unit)_ G=>(b9.1=true->Wp Y0 Ao Am (w,[b.1],()) G (λ(b io:Unit)(G:HY)=>x2.2.2.1+1<=(9223372036854775807:Nat)/\∃m,m<n1/\V1 m (x2.1,x2.2.1,x2.2.2.1+1,()) G) X)/\(¬b9.1=true->(¬b9.2.1=0->Wp Y0 Ao Am (w,[b.1],()) G (λ(b io:Unit)(G:HY)=>x2.2.2.1+1<=(9223372036854775807:Nat)/\∃m,m<n1/\V1 m (x2.1,x2.2.1,x2.2.2.1+1,()) G) X)/\(¬¬b9.2.1=0->Li (x.1[x.2.1],x2.2.1[x2.2.2.1],b.1,()) G (λ(b:Unit)(G:HY)=>x2.2.2.1+1<=(9223372036854775807:Nat)/\∃m,m<n1/\V1 m (x2.1,x2.2.1,x2.2.2.1+1,()) G) X))) X) X) X))/\(¬x2.2.2.1<io.1.length->x.2.1+1<=(9223372036854775807:Nat)/\∃m,m<n/\V m (x2.1,x.2.1+1,()) H)) X)∨G l=some (Ob.lp (OQ r Code.ret))/\∀(r':Loop),False) X)/\(¬x.2.1<io.1.length->∀(b5:Nat),H b5=none->∀(l:Nat)(r:Loop),Ac H b5 (Ob.st Al []) l=none->Wp Y0 Bi AW (λ(a:Int×Unit)(H:HY)(Q:Bool×Unit->HP)(X:Nat->Lf Y0.D->HP)=>H l=some (Ob.lp r)/\H l=some (Ob.lp r)/\∃(x:List Int),Ac H l (Ob.lp (CE r)) b5=some (Ob.st Al x)/\(x.length+[a.1].length)*8<=140737488355328/\Ac (Ac H l (Ob.lp (CE r))) b5 (Ob.st Al (x++[a.1])) l=some (Ob.lp (CE r))/\Q (true,()) (Ac (Ac (Ac H l (Ob.lp (CE r))) b5 (Ob.st Al (x++[a.1]))) l (Ob.lp r)),b1.1,()) (Ac (Ac H b5 (Ob.st Al [])) l (Ob.lp r)) (λ(b6 io:Unit)(G:HY)=>(G l=some (Ob.lp r)/\∀(r':Loop),∃(x:List Int),Ac G l (Ob.lp r') b5=some (Ob.st Al x)/\Wp Y0 Ao Am (w,x,()) (Cs (Ac G l (Ob.lp r')) b5) (λ(b7 io:Unit)(G:HY)=>∀(b8:Nat),G b8=none->∀(l:Nat)(r:Loop),Ac G b8 (Ob.st Al []) l=none->Wp Y0 Bi AW (λ(a:Int×Unit)(H:HY)(Q:Bool×Unit->HP)(X:Nat->Lf Y0.D->HP)=>H l=some (Ob.lp r)/\H l=some (Ob.lp r)/\∃(x:List Int),Ac H l (Ob.lp (CE r)) b8=some (Ob.st Al x)/\(x.length+[a.1].length)*8<=(140737488355328:Nat)/\Ac (Ac H l (Ob.lp (CE r))) b8 (Ob.st Al (x++[a.1])) l=some (Ob.lp (CE r))/\Q (true,()) (Ac (Ac (Ac H l (Ob.lp (CE r))) b8 (Ob.st Al (x++[a.1]))) l (Ob.lp r)),b.1,()) (Ac (Ac G b8 (Ob.st Al [])) l (Ob.lp r)) (λ(b io:Unit)(G:HY)=>(G l=some (Ob.lp r)/\∀(r':Loop),∃(x:List Int),Ac G l (Ob.lp r') b8=some (Ob.st Al x)/\Wp Y0 Ao Am (w,x,()) (Cs (Ac G l (Ob.lp r')) b8) (λ(b io:Unit)(G:HY)=>Q () () G) X)∨G l=some (Ob.lp (OQ r Code.ret))/\∀(r':Loop),Wp Y0 Ao Am (w,[],()) (Ac G l (Ob.lp r')) (λ(b io:Unit)(G:HY)=>Q () () G) X) X) X)∨G l=some (Ob.lp (OQ r Code.ret))/\∀(r':Loop),Wp Y0 Ao Am (w,[],()) (Ac G l (Ob.lp r')) (λ(b7 io:Unit)(G:HY)=>∀(b8:Nat),G b8=none->∀(l:Nat)(r:Loop),Ac G b8 (Ob.st Al []) l=none->Wp Y0 Bi AW (λ(a:Int×Unit)(H:HY)(Q:Bool×Unit->HP)(X:Nat->Lf Y0.D->HP)=>H l=some (Ob.lp r)/\H l=some (Ob.lp r)/\∃(x:List Int),Ac H l (Ob.lp (CE r)) b8=some (Ob.st Al x)/\(x.length+[a.1].length)*8<=(140737488355328:Nat)/\Ac (Ac H l (Ob.lp (CE r))) b8 (Ob.st Al (x++[a.1])) l=some (Ob.lp (CE r))/\Q (true,()) (Ac (Ac (Ac H l (Ob.lp (CE r))) b8 (Ob.st Al (x++[a.1]))) l (Ob.lp r)),b.1,()) (Ac (Ac G b8 (Ob.st Al [])) l (Ob.lp r)) (λ(b io:Unit)(G:HY)=>(G l=some (Ob.lp r)/\∀(r':Loop),∃(x:List Int),Ac G l (Ob.lp r') b8=some (Ob.st Al x)/\Wp Y0 Ao Am (w,x,()) (Cs (Ac G l (Ob.lp r')) b8) (λ(b io:Unit)(G:HY)=>Q () () G) X)∨G l=some (Ob.lp (OQ r Code.ret))/\∀(r':Loop),Wp Y0 Ao Am (w,[],()) (Ac G l (Ob.lp r')) (λ(b io:Unit)(G:HY)=>Q () () G) X) X) X) X)) X)∨G l=some (Ob.lp (OQ r Code.ret))/\∀(r':Loop),False) X) X) X
theorem Rf w a b Li H Q X(h_:Lm w a b Li H Q X):Wp Y0 HX F9 (w,a,b,Li,()) H Q X:=wF Tryz.f135 {lp:=[(6,⟨[(25,.one (.own I6)),(33,.one (.own I6)),(35,.nat)],[0,3,8,9,11,25,26,27,33,34],true⟩),(3,⟨[(25,.one (.own I6)),(27,.nat)],[0,3,8,9,25,26],true⟩)],im:=[5,6],il:=ilT} h_
def EF(w:Option Nat)(t:AL)(H:HY)(Q:Option Nat×Unit->UU)(X:PX):=∀(r:Nat),H r=none->∀(b:Nat),Ac H r (Ob.mp (Ty.int .i64) (Ty.int .i64) []) b=none->(t.Op=1->(∃(x:Option Nat),Ac (Ac H r (Ob.mp (Ty.int .i64) (Ty.int .i64) [])) b (Ob.st Aq (some r)) b=some (Ob.st Aq x)/\x=x/\Wp Y0 Ce BF (w,true,()) (Ac (Ac H r (Ob.mp (Ty.int .i64) (Ty.int .i64) [])) b (Ob.st Aq (some r))) (λ(b1:Int×Unit)_ G=>∃(r:Nat),x=some r/\∃(m:List (Int×Int)),G r=some (Ob.mp (Ty.int .i64) (Ty.int .i64) m)/\∃(x:Option Nat),Ac G r (Ob.mp (Ty.int .i64) (Ty.int .i64) (BL m t.N b1.1)) b=some (Ob.st Aq x)/\x=x/\Q (x,()) () (Ac G r (Ob.mp (Ty.int .i64) (Ty.int .i64) (BL m t.N b1.1)))) X)/\Wp Y0 Ce BF (w,true,()) (Ac (Ac H r (Ob.mp (Ty.int .i64) (Ty.int .i64) [])) b (Ob.st Aq (some r))) (λ(b1:Int×Unit)_ G=>∃(x:Option Nat),G b=some (Ob.st Aq x)/\x=x/\∃(r:Nat),x=some r/\∃(m:List (Int×Int)),G r=some (Ob.mp (Ty.int .i64) (Ty.int .i64) m)/\∃(x:Option Nat),Ac G r (Ob.mp (Ty.int .i64) (Ty.int .i64) (BL m t.N b1.1)) b=some (Ob.st Aq x)/\x=x/\Q (x,()) () (Ac G r (Ob.mp (Ty.int .i64) (Ty.int .i64) (BL m t.N b1.1)))) X)/\(¬t.Op=1->(t.Op=3->∃(b1:Nat),w=some b1/\∃(x:Ar),Ac (Ac H r (Ob.mp (Ty.int .i64) (Ty.int .i64) [])) b (Ob.st Aq (some r)) b1=some (Ob.st BO x)/\x=x/\Wp Y0 FB Ef (x.l,t.Name,()) (Ac (Ac H r (Ob.mp (Ty.int .i64) (Ty.int .i64) [])) b (Ob.st Aq (some r))) (λ(b2:Int×Unit)_ G=>∃(b3:Nat),w=some b3/\∃(x:Ar),G b3=some (Ob.st BO x)/\(Ag .i64 b2.1->(Ag .i64 b2.1->0<=b2.1)/\∃(h:b2.1.toNat<x.l.Ab.length),x=x/\Wp Y0 G6 Fk (x.l.Ab[b2.1.toNat],()) G (λ(b4:Int×Int×Unit)_ G=>∃(V:Nat->Int×Unit->HP),(∃(n:Nat),V n (b4.1,()) G)/\∀n x H,V n x H->(x.1<=b4.2.1->(∃(x1:Option Nat),H b=some (Ob.st Aq x1)/\x1=x1/\Wp Y0 Cl BJ (w,b2.1,x.1,decide (t.Op=4),()) H (λ(b:Int×Unit)_ G=>∃(r:Nat),x1=some r/\∃(m:List (Int×Int)),G r=some (Ob.mp (Ty.int .i64) (Ty.int .i64) m)/\(Ag .i64 x.1->Ag .i64 (x.1+1)/\∃m1,m1<n/\V m1 (x.1+1,()) (Ac G r (Ob.mp (Ty.int .i64) (Ty.int .i64) (BL m x.1 b.1))))) X)/\Wp Y0 Cl BJ (w,b2.1,x.1,decide (t.Op=4),()) H (λ(b5:Int×Unit)_ G=>∃(x1:Option Nat),G b=some (Ob.st Aq x1)/\x1=x1/\∃(r:Nat),x1=some r/\∃(m:List (Int×Int)),G r=some (Ob.mp (Ty.int .i64) (Ty.int .i64) m)/\(Ag .i64 x.1->Ag .i64 (x.1+1)/\∃m1,m1<n/\V m1 (x.1+1,()) (Ac G r (Ob.mp (Ty.int .i64) (Ty.int .i64) (BL m x.1 b5.1))))) X)/\(¬x.1<=b4.2.1->∃(x:Option Nat),H b=some (Ob.st Aq x)/\x=x/\Q (x,()) () H)) X)) X)/\(¬t.Op=3->(t.Op=4->∃(b1:Nat),w=some b1/\∃(x:Ar),Ac (Ac H r (Ob.mp (Ty.int .i64) (Ty.int .i64) [])) b (Ob.st Aq (some r)) b1=some (Ob.st BO x)/\x=x/\Wp Y0 FB Ef (x.l,t.Name,()) (Ac (Ac H r (Ob.mp (Ty.int .i64) (Ty.int .i64) [])) b (Ob.st Aq (some r))) (λ(b2:Int×Unit)_ G=>∃(b3:Nat),w=some b3/\∃(x:Ar),G b3=some (Ob.st BO x)/\(Ag .i64 b2.1->(Ag .i64 b2.1->0<=b2.1)/\∃(h:b2.1.toNat<x.l.Ab.length),x=x/\Wp Y0 G6 Fk (x.l.Ab[b2.1.toNat],()) G (λ(b4:Int×Int×Unit)_ G=>∃(V:Nat->Int×Unit->HP),(∃(n:Nat),V n (b4.1,()) G)/\∀n x H,V n x H->(x.1<=b4.2.1->(∃(x1:Option Nat),H b=some (Ob.st Aq x1)/\x1=x1/\Wp Y0 Cl BJ (w,b2.1,x.1,decide (t.Op=4),()) H (λ(b:Int×Unit)_ G=>∃(r:Nat),x1=some r/\∃(m:List (Int×Int)),G r=some (Ob.mp (Ty.int .i64) (Ty.int .i64) m)/\(Ag .i64 x.1->Ag .i64 (x.1+1)/\∃m1,m1<n/\V m1 (x.1+1,()) (Ac G r (Ob.mp (Ty.int .i64) (Ty.int .i64) (BL m x.1 b.1))))) X)/\Wp Y0 Cl BJ (w,b2.1,x.1,decide (t.Op=4),()) H (λ(b5:Int×Unit)_ G=>∃(x1:Option Nat),G b=some (Ob.st Aq x1)/\x1=x1/\∃(r:Nat),x1=some r/\∃(m:List (Int×Int)),G r=some (Ob.mp (Ty.int .i64) (Ty.int .i64) m)/\(Ag .i64 x.1->Ag .i64 (x.1+1)/\∃m1,m1<n/\V m1 (x.1+1,()) (Ac G r (Ob.mp (Ty.int .i64) (Ty.int .i64) (BL m x.1 b5.1))))) X)/\(¬x.1<=b4.2.1->∃(x:Option Nat),H b=some (Ob.st Aq x)/\x=x/\Q (x,()) () H)) X)) X)/\(¬t.Op=4->(t.Op=18->(True->(0:Int)<=0)/\∃(h:Int.toNat (0:Int)<t.Kids.length),Wp Y0 QZ KL (w,t.Kids[Int.toNat (0:Int)],()) (Ac (Ac H r (Ob.mp (Ty.int .i64) (Ty.int .i64) [])) b (Ob.st Aq (some r))) (λ(b1:Int×Unit)_ G=>∃(b2:Nat),w=some b2/\∃(x:Ar),G b2=some (Ob.st BO x)/\x=x/\Wp Y0 ZA R7 (x.m,b1.1,()) G (λ(b3:Int×Int×Unit)_ G=>Wp Y0 AN AJ (w,b3.1,b3.2.1,()) G (λ(b4:Int×Unit)_ G=>∃(V:Nat->Nat×Unit->HP),(∃(n:Nat),V n (0,()) G)/\∀n x H,V n x H->(x.1<2->x.1<=9223372036854775807->∃(h:x.1<[b1.1,b4.1].length),x.1<=9223372036854775807->Ag .i64 (1+(↑x.1:Int))/\(Ag .i64 (1+(↑x.1:Int))->(Ag .i64 (1+(↑x.1:Int))->(0:Int)<=1+(↑x.1:Int))/\∃(h1:(1+(↑x.1:Int)).toNat<t.Kids.length),Wp Y0 CS Cr (w,t.Kids[(1+(↑x.1:Int)).toNat],()) H (λ(b5:Option Nat×Unit)_ G=>∀(b6:Nat),G b6=none->∀(l:Nat)(r:Loop),Ac G b6 (Ob.st Al []) l=none->Wp Y0 Bb AO (λ(a:Int×Unit)(H:HY)(Q:Bool×Unit->HP)(X:Nat->Lf Y0.D->HP)=>H l=some (Ob.lp r)/\H l=some (Ob.lp r)/\∃(x:List Int),Ac H l (Ob.lp (CE r)) b6=some (Ob.st Al x)/\(x.length+[a.1].length)*8<=(140737488355328:Nat)/\Ac (Ac H l (Ob.lp (CE r))) b6 (Ob.st Al (x++[a.1])) l=some (Ob.lp (CE r))/\Q (true,()) (Ac (Ac (Ac H l (Ob.lp (CE r))) b6 (Ob.st Al (x++[a.1]))) l (Ob.lp r)),b5.1,()) (Ac (Ac G b6 (Ob.st Al [])) l (Ob.lp r)) (λ(b7 io:Unit)(G:HY)=>(G l=some (Ob.lp r)/\∀(r':Loop),∃(x1:List Int),Ac G l (Ob.lp r') b6=some (Ob.st Al x1)/\Wp Y0 CA Ca (x1,()) (Cs (Ac G l (Ob.lp r')) b6) (λ(b8:Unit)(io:List Int×Unit)(G:HY)=>io.1.length<=(9223372036854775807:Nat)->∃(V1:Nat->List Int×Nat×Unit->HP),(∃(n:Nat),V1 n (io.1,0,()) G)/\∀n1 x2 H,V1 n1 x2 H->(x2.2.1<io.1.length->x2.2.1<=(9223372036854775807:Nat)->∃(h2:x2.2.1<x2.1.length),∃(h3:x2.2.1<x2.1.length),∃(b9:Nat),w=some b9/\(∃(x3:Ar),H b9=some (Ob.st BO x3)/\x3=x3/\∃(r:Nat),b5.1=some r/\∃(m:List (Int×Int)),H r=some (Ob.mp (Ty.int .i64) (Ty.int .i64) m)/\Wp Y0 De CN (x3.m,[(Ae m x2.1[x2.2.1]).getD (0:Int),[b1.1,b4.1][x.1]],()) H (λ(b10:Int×Int×Unit)_ G=>Wp Y0 AN AJ (w,b10.1,b10.2.1,()) G (λ(b11:Int×Unit)_ G=>∃(r:Nat),b5.1=some r/\∃(m:List (Int×Int)),G r=some (Ob.mp (Ty.int .i64) (Ty.int .i64) m)/\Wp Y0 Ao Am (w,[(Ae m x2.1[x2.2.1]).getD (0:Int)],()) G (λ(b12 io:Unit)(G:HY)=>∃(x:Option Nat),G b=some (Ob.st Aq x)/\x=x/\Wp Y0 BI B9 (w,x,x2.1[x2.2.1],b11.1,()) G (λ(b io:Unit)(G:HY)=>x2.2.1+1<=(9223372036854775807:Nat)/\∃m,m<n1/\V1 m (x2.1,x2.2.1+1,()) G) X) X) X) X)/\∃(r:Nat),b5.1=some r/\∃(m:List (Int×Int)),H r=some (Ob.mp (Ty.int .i64) (Ty.int .i64) m)/\dup (∃(x3:Ar),H b9=some (Ob.st BO x3)/\x3=x3/\Wp Y0 De CN (x3.m,[(Ae m x2.1[x2.2.1]).getD (0:Int),[b1.1,b4.1][x.1]],()) H (λ(b10:Int×Int×Unit)_ G=>Wp Y0 AN AJ (w,b10.1,b10.2.1,()) G (λ(b11:Int×Unit)_ G=>∃(r:Nat),b5.1=some r/\∃(m:List (Int×Int)),G r=some (Ob.mp (Ty.int .i64) (Ty.int .i64) m)/\Wp Y0 Ao Am (w,[(Ae m x2.1[x2.2.1]).getD (0:Int)],()) G (λ(b12 io:Unit)(G:HY)=>∃(x:Option Nat),G b=some (Ob.st Aq x)/\x=x/\Wp Y0 BI B9 (w,x,x2.1[x2.2.1],b11.1,()) G (λ(b io:Unit)(G:HY)=>x2.2.1+1<=(9223372036854775807:Nat)/\∃m,m<n1/\V1 m (x2.1,x2.2.1+1,()) G) X) X) X) X))/\(¬x2.2.1<io.1.length->x.1+1<=(9223372036854775807:Nat)/\∃m,m<n/\V m (x.1+1,()) H)) X)∨G l=some (Ob.lp (OQ r Code.ret))/\∀(r':Loop),False) X) X))/\(¬x.1<2->Wp Y0 Ao Am (w,[b1.1,b4.1],()) H (λ(b5 io:Unit)(G:HY)=>∃(x:Option Nat),G b=some (Ob.st Aq x)/\x=x/\Q (x,()) () G) X)) X) X) X)/\(¬t.Op=18->(True->(0:Int)<=0)/\∃(h:Int.toNat (0:Int)<t.Kids.length),(True->(0:Int)<=1)/\∃(h1:Int.toNat (1:Int)<t.Kids.length),Wp Y0 HX F9 (w,t.Kids[Int.toNat (0:Int)],t.Kids[Int.toNat (1:Int)],λ(a:Int×Int×Int×Unit)(H:HY)(Q:Unit->HP)(X:Nat->Lf Y0.D->HP)=>Wp Y0 DV CZ (a.1,a.2.1,a.2.2.1,t,w,some b,()) H (λ(b x:Unit)(G:HY)=>Q () G) X,()) (Ac (Ac H r (Ob.mp (Ty.int .i64) (Ty.int .i64) [])) b (Ob.st Aq (some r))) (λ(b1 io:Unit)(G:HY)=>∃(x:Option Nat),G b=some (Ob.st Aq x)/\x=x/\Q (x,()) () G) X))))
theorem GA w t H Q X(h_:EF w t H Q X):Wp Y0 CS Cr (w,t,()) H Q X:=wF Tryz.f60 {lp:=[(11,⟨[(9,.one (.dat I6))],[2,3,5,6,8],true⟩),(22,⟨[(111,.one (.own I6)),(113,.nat)],[2,3,5,10,11,13,14,96,97,111,112],true⟩),(18,⟨[(97,.nat)],[2,3,5,10,11,96],true⟩)],pr:=[(5,35)],im:=[2,3],il:=ilT,hd:=[(5,[5]),(13,[5])]} h_
def Qw(m:Option Nat)(l:Ad)(t:AL)(H:HY)(Q:List BS×Int×Unit->UU)(X:PX):=Wp Y0 Hy FP (m,l,()) H (λ(b:Option Nat×Int×Unit)_ G=>(¬b.2.1=0->Q ([],b.2.1,()) () G)/\(¬¬b.2.1=0->Wp Y0 K0 Ix (l.Ab,t,true,()) G (λ(b1:Aj×Int×Unit)_ G=>(¬b1.2.1=0->Q ([],b1.2.1,()) () G)/\(¬¬b1.2.1=0->(b1.1.Bool=true->Q ([],13,()) () G)/\(¬b1.1.Bool=true->Wp Y0 Ej Du (b.1,false,()) G (λ(b2:Int×Unit)_ G=>Wp Y0 Ej Du (b.1,true,()) G (λ(b3:Int×Unit)_ G=>Wp Y0 Dz CQ (b.1,λ(a:Option Nat×List Int×Unit)(H:HY)(Q:Int×Int×Unit->HP)(X:Nat->Lf Y0.D->HP)=>Wp Y0 De CN (a.1,a.2.1,()) H (λ(b:Int×Int×Unit)(x:Unit)(G:HY)=>Q (b.1,b.2.1,()) G) X,[b2.1,b3.1],()) G (λ(b4:Int×Unit)_ G=>Wp Y0 CS Cr (b.1,t,()) G (λ(b5:Option Nat×Unit)_ G=>∀(b6:Nat),G b6=none->∀(l:Nat)(r:Loop),Ac G b6 (Ob.st Al []) l=none->Wp Y0 Bb AO (λ(a:Int×Unit)(H:HY)(Q:Bool×Unit->HP)(X:Nat->Lf Y0.D->HP)=>H l=some (Ob.lp r)/\H l=some (Ob.lp r)/\∃(x:List Int),Ac H l (Ob.lp (CE r)) b6=some (Ob.st Al x)/\(x.length+[a.1].length)*8<=140737488355328/\Ac (Ac H l (Ob.lp (CE r))) b6 (Ob.st Al (x++[a.1])) l=some (Ob.lp (CE r))/\Q (true,()) (Ac (Ac (Ac H l (Ob.lp (CE r))) b6 (Ob.st Al (x++[a.1]))) l (Ob.lp r)),b5.1,()) (Ac (Ac G b6 (Ob.st Al [])) l (Ob.lp r)) (λ(b7 io:Unit)(G:HY)=>(G l=some (Ob.lp r)/\∀(r':Loop),∃(x:List Int),Ac G l (Ob.lp r') b6=some (Ob.st Al x)/\Wp Y0 CA Ca (x,()) (Cs (Ac G l (Ob.lp r')) b6) (λ(b8:Unit)(io:List Int×Unit)(G:HY)=>io.1.length<=9223372036854775807->∃(V:Nat->List BS×List Int×List Int×Nat×Unit->HP),(∃(n:Nat),V n ([],[],io.1,0,()) G)/\∀n x H,V n x H->(x.2.2.2.1<io.1.length->x.2.2.2.1<=9223372036854775807->∃(h:x.2.2.2.1<x.2.2.1.length),∃(h:x.2.2.2.1<x.2.2.1.length),∃(r:Nat),b5.1=some r/\∃(m1:List (Int×Int)),H r=some (Ob.mp (Ty.int .i64) (Ty.int .i64) m1)/\Wp Y0 L7 JM (m,(Ae m1 x.2.2.1[x.2.2.2.1]).getD 0,b4.1,()) H (λ(b9:Bool×Int×Unit)_ G=>∃(b10:Nat),b.1=some b10/\∃(x1:Ar),G b10=some (Ob.st BO x1)/\(x1.e=0->(b9.1=true->∃(r:Nat),b5.1=some r/\∃(m:List (Int×Int)),Ac G b10 (Ob.st BO {x1 with e:=b9.2.1}) r=some (Ob.mp (Ty.int .i64) (Ty.int .i64) m)/\(x.1.length+[{N:=x.2.2.1[x.2.2.2.1],H:=(Ae m x.2.2.1[x.2.2.2.1]).getD 0:BS}].length)*(16:Nat)<=(140737488355328:Nat)/\∃(r:Nat),b5.1=some r/\∃(m2:List (Int×Int)),Ac G b10 (Ob.st BO {x1 with e:=b9.2.1}) r=some (Ob.mp (Ty.int .i64) (Ty.int .i64) m2)/\(x.2.1.length+[(Ae m2 x.2.2.1[x.2.2.2.1]).getD (0:Int)].length)*(8:Nat)<=(140737488355328:Nat)/\x.2.2.2.1+1<=(9223372036854775807:Nat)/\∃m3,m3<n/\V m3 (x.1++[{N:=x.2.2.1[x.2.2.2.1],H:=(Ae m x.2.2.1[x.2.2.2.1]).getD 0:BS}],x.2.1++[(Ae m2 x.2.2.1[x.2.2.2.1]).getD (0:Int)],x.2.2.1,x.2.2.2.1+1,()) (Ac G b10 (Ob.st BO {x1 with e:=b9.2.1})))/\(¬b9.1=true->x.2.2.2.1+1<=(9223372036854775807:Nat)/\∃m,m<n/\V m (x.1,x.2.1,x.2.2.1,x.2.2.2.1+1,()) (Ac G b10 (Ob.st BO {x1 with e:=b9.2.1}))))/\(¬x1.e=0->(b9.1=true->x1=x1/\∃(r:Nat),b5.1=some r/\∃(m:List (Int×Int)),G r=some (Ob.mp (Ty.int .i64) (Ty.int .i64) m)/\(x.1.length+[{N:=x.2.2.1[x.2.2.2.1],H:=(Ae m x.2.2.1[x.2.2.2.1]).getD 0:BS}].length)*(16:Nat)<=(140737488355328:Nat)/\∃(r:Nat),b5.1=some r/\∃(m2:List (Int×Int)),G r=some (Ob.mp (Ty.int .i64) (Ty.int .i64) m2)/\(x.2.1.length+[(Ae m2 x.2.2.1[x.2.2.2.1]).getD (0:Int)].length)*(8:Nat)<=(140737488355328:Nat)/\x.2.2.2.1+1<=(9223372036854775807:Nat)/\∃m3,m3<n/\V m3 (x.1++[{N:=x.2.2.1[x.2.2.2.1],H:=(Ae m x.2.2.1[x.2.2.2.1]).getD 0:BS}],x.2.1++[(Ae m2 x.2.2.1[x.2.2.2.1]).getD (0:Int)],x.2.2.1,x.2.2.2.1+1,()) G)/\(¬b9.1=true->x.2.2.2.1+1<=(9223372036854775807:Nat)/\∃m,m<n/\x1=x1/\V m (x.1,x.2.1,x.2.2.1,x.2.2.2.1+1,()) G))) X)/\(¬x.2.2.2.1<io.1.length->Wp Y0 GS Fj (b.1,x.2.1,()) H (λ(b:Int×Unit)_ G=>(¬b.1=0->Q ([],b.1,()) () G)/\(¬¬b.1=0->Q (x.1,0,()) () G)) X)) X)∨G l=some (Ob.lp (OQ r Code.ret))/\∀(r':Loop),False) X) X) X) X) X))) X)) X
theorem X3 m l t H Q X(h_:Qw m l t H Q X):Wp Y0 Mi J0 (m,l,t,()) H Q X:=wF Tryz.f30 {lp:=[(14,⟨[(13,.one (.own (.u 10))),(14,.one (.own I6)),(55,.one (.own I6)),(57,.nat)],[0,8,11,12,55,56],true⟩)],im:=[4,5],il:=ilT} h_
end
end Go.Proofs.YtcbkbpjlbmalmaaGreatDoor
