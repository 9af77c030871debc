/-
  The law BlastStates, as a contract. (Merged by program out of 9 texts.)
-/
import Derived.Test.YtcbkbpjlbmalmaaGreatDoorpap
namespace Go.Proofs.YtcbkbpjlbmalmaaGreatDoor
open Go Go.X Go.Y
section
set_option maxRecDepth 100000
set_option maxHeartbeats 2000000
def IT(vars:List A7)(at_:Int)(Au:Bool)(H:HY)(Q:Bool×Unit->UU)(X:PX):=Wp Y0 EA D9 (vars,at_,Au,()) H (λ(b:List Int×List Bool×Unit)_ G=>Wp Y0 Hc EP (b.2.1,()) G (λ(b:Bool×Unit)_ G=>Q (b.1,()) () G) X) X
theorem NG vars at_ Au H Q X(h_:IT vars at_ Au H Q X):Wp Y0 Cc BD (vars,at_,Au,()) H Q X:=wF Tryz.f23 {} h_
def KG(vars:List A7)(s:List Int)(at_:Int)(Au:Bool)(H:HY)(Q:Bool×Unit->UU)(X:PX):=Wp Y0 EA D9 (vars,at_,Au,()) H (λ(b:List Int×List Bool×Unit)_ G=>∃(V:Nat->List Int×List Bool×Nat×Unit->Prop),(∃(n:Nat),G=G/\V n (b.1,b.2.1,0,()))/\∀n x,V n x->vars.length<=9223372036854775807->(x.2.2.1<vars.length->x.2.2.1<=9223372036854775807->∃(h:x.2.2.1<x.2.1.length),∃(h:x.2.2.1<x.2.1.length),(¬x.2.1[x.2.2.1]=true->Q (false,()) () G)/\(¬¬x.2.1[x.2.2.1]=true->x.2.2.1<=9223372036854775807->∃(h:x.2.2.1<x.1.length),∃(h:x.2.2.1<x.1.length),x.2.2.1<=9223372036854775807->∃(h1:x.2.2.1<s.length),(¬x.1[x.2.2.1]=s[x.2.2.1]->Q (false,()) () G)/\(¬¬x.1[x.2.2.1]=s[x.2.2.1]->x.2.2.1+1<=9223372036854775807/\∃m,m<n/\G=G/\V m (x.1,x.2.1,x.2.2.1+1,()))))/\(¬x.2.2.1<vars.length->Q (true,()) () G)) X
theorem Q2 vars s at_ Au H Q X(h_:KG vars s at_ Au H Q X):Wp Y0 CJ Cq (vars,s,at_,Au,()) H Q X:=wF Tryz.f24 {lp:=[(3,⟨[(9,.one (.own I6)),(10,.one (.own .bool)),(11,.nat)],[0,1,9,10],false⟩)]} h_
def JE(vars:List A7)(at_:Int)(Au:Bool)(H:HY)(Q:List Int×List Bool×Unit->UU)(X:PX):=∃(V:Nat->List Int×List Bool×Nat×Nat×Unit->Prop),(∃(n:Nat),H=H/\V n ([],[],0,0,()))/\∀n x,V n x->vars.length<=9223372036854775807->(x.2.2.2.1<vars.length->∃(V1:Nat->List Int×List Bool×Nat×Int×Int×Nat×Unit->Prop),(∃(n:Nat),H=H/\V1 n (x.1,x.2.1,x.2.2.1,0,1,0,()))/\∀n1 x1,V1 n1 x1->x.2.2.2.1<=9223372036854775807->∃(h:x.2.2.2.1<vars.length),Wp Y0 Ct BM (vars[x.2.2.2.1],()) H (λ(b:Int×Unit)_ G=>Wp Y0 EC DB (b.1,()) G (λ(b:Int×Unit)_ G=>((↑x1.2.2.2.2.2.1:Int)<b.1->x1.2.2.1<=9223372036854775807->Ag .i64 (2*(↑x1.2.2.1:Int))/\(Au=true->Ag .i64 (2*(↑x1.2.2.1:Int))->Ag .i64 (2*(↑x1.2.2.1:Int)+1)/\Wp Y0 Cd BE (at_,2*(↑x1.2.2.1:Int)+1,()) G (λ(b:Bool×Unit)_ G=>(b.1=true->Ag .i64 x1.2.2.2.1->Ag .i64 x1.2.2.2.2.1->Ag .i64 (x1.2.2.2.1+x1.2.2.2.2.1)/\(Ag .i64 x1.2.2.2.2.1->Ag .i64 (2*x1.2.2.2.2.1)/\x1.2.2.1+1<=9223372036854775807/\x1.2.2.2.2.2.1+1<=9223372036854775807/\∃m,m<n1/\G=H/\V1 m (x1.1,x1.2.1,x1.2.2.1+1,x1.2.2.2.1+x1.2.2.2.2.1,2*x1.2.2.2.2.1,x1.2.2.2.2.2.1+1,())))/\(¬b.1=true->Ag .i64 x1.2.2.2.2.1->Ag .i64 (2*x1.2.2.2.2.1)/\x1.2.2.1+1<=9223372036854775807/\x1.2.2.2.2.2.1+1<=9223372036854775807/\∃m,m<n1/\G=H/\V1 m (x1.1,x1.2.1,x1.2.2.1+1,x1.2.2.2.1,2*x1.2.2.2.2.1,x1.2.2.2.2.2.1+1,()))) X)/\(¬Au=true->Wp Y0 Cd BE (at_,2*(↑x1.2.2.1:Int),()) G (λ(b:Bool×Unit)_ G=>(b.1=true->Ag .i64 x1.2.2.2.1->Ag .i64 x1.2.2.2.2.1->Ag .i64 (x1.2.2.2.1+x1.2.2.2.2.1)/\(Ag .i64 x1.2.2.2.2.1->Ag .i64 (2*x1.2.2.2.2.1)/\x1.2.2.1+1<=9223372036854775807/\x1.2.2.2.2.2.1+1<=9223372036854775807/\∃m,m<n1/\G=H/\V1 m (x1.1,x1.2.1,x1.2.2.1+1,x1.2.2.2.1+x1.2.2.2.2.1,2*x1.2.2.2.2.1,x1.2.2.2.2.2.1+1,())))/\(¬b.1=true->Ag .i64 x1.2.2.2.2.1->Ag .i64 (2*x1.2.2.2.2.1)/\x1.2.2.1+1<=9223372036854775807/\x1.2.2.2.2.2.1+1<=9223372036854775807/\∃m,m<n1/\G=H/\V1 m (x1.1,x1.2.1,x1.2.2.1+1,x1.2.2.2.1,2*x1.2.2.2.2.1,x1.2.2.2.2.2.1+1,()))) X))/\(¬(↑x1.2.2.2.2.2.1:Int)<b.1->x.2.2.2.1<=9223372036854775807->∃(h:x.2.2.2.1<vars.length),Wp Y0 HL Fx (vars[x.2.2.2.1],()) G (λ(b:Int×Unit)_ G=>Ag .i64 b.1->Ag .i64 x1.2.2.2.1->Ag .i64 (b.1+x1.2.2.2.1)/\(x1.1.length+[b.1+x1.2.2.2.1].length)*8<=140737488355328/\(x.2.2.2.1<=9223372036854775807->∃(h:x.2.2.2.1<vars.length),Wp Y0 Ct BM (vars[x.2.2.2.1],()) G (λ(b1:Int×Unit)_ G=>(x1.2.1.length+[decide (x1.2.2.2.1<b1.1)].length)*1<=140737488355328/\x.2.2.2.1+1<=9223372036854775807/\∃m,m<n/\G=H/\V m (x1.1++[b.1+x1.2.2.2.1],x1.2.1++[decide (x1.2.2.2.1<b1.1)],x1.2.2.1,x.2.2.2.1+1,())) X)) X)) X) X)/\(¬x.2.2.2.1<vars.length->Q (x.1,x.2.1,()) () H)
theorem Of vars at_ Au H Q X(h_:JE vars at_ Au H Q X):Wp Y0 EA D9 (vars,at_,Au,()) H Q X:=wF Tryz.f19 {lp:=[(8,⟨[(8,.one (.own I6)),(9,.one (.own .bool)),(10,.nat),(12,.one (.dat I6)),(13,.one (.dat I6)),(14,.nat)],[0,1,2,8,9,11],false⟩),(4,⟨[(8,.one (.own I6)),(9,.one (.own .bool)),(10,.nat),(11,.nat)],[0,1,2],false⟩)]} h_
def Kf(l:List Bool)(H:HY)(Q:Bool×Unit->UU)(X:PX):=∃(V:Nat->Nat×Unit->Prop),(∃(n:Nat),H=H/\V n (0,()))/\∀n x,V n x->l.length<=9223372036854775807->(x.1<l.length->x.1<=9223372036854775807->∃(h:x.1<l.length),(¬l[x.1]=true->Q (false,()) () H)/\(¬¬l[x.1]=true->x.1+1<=9223372036854775807/\∃m,m<n/\H=H/\V m (x.1+1,())))/\(¬x.1<l.length->Q (true,()) () H)
theorem P3 l H Q X(h_:Kf l H Q X):Wp Y0 Hc EP (l,()) H Q X:=wF Tryz.f72 {lp:=[(2,⟨[(3,.nat)],[0],false⟩)]} h_
def KF(v:A7)(H:HY)(Q:Int×Unit->UU)(X:PX):=(v.Bool=true->Q (0,()) () H)/\(¬v.Bool=true->Q (v.Lo,()) () H)
theorem Q1 v H Q X(h_:KF v H Q X):Wp Y0 HL Fx (v,()) H Q X:=wF Tryz.f66 {im:=[1]} h_
def KH(m:GF)(s:List Int)(H:HY)(Q:Bool×Unit->UU)(X:PX):=s.length<=9223372036854775807->m.Ab.length<=9223372036854775807->(¬s.length=m.Ab.length->Q (false,()) () H)/\(¬¬s.length=m.Ab.length->∃(V:Nat->Nat×Unit->Prop),(∃(n:Nat),H=H/\V n (0,()))/\∀n x,V n x->s.length<=9223372036854775807->(x.1<s.length->x.1<=9223372036854775807->∃(h:x.1<m.Ab.length),(m.Ab[x.1].Bool=true->x.1<=9223372036854775807->∃(h1:x.1<s.length),(¬s[x.1]=0->x.1<=9223372036854775807->∃(h2:x.1<s.length),(¬s[x.1]=1->Q (false,()) () H)/\(¬¬s[x.1]=1->(¬m.Ab[x.1].Bool=true->x.1<=9223372036854775807->∃(h3:x.1<s.length),(s[x.1]<m.Ab[x.1].Lo->Q (false,()) () H)/\(¬s[x.1]<m.Ab[x.1].Lo->x.1<=9223372036854775807->∃(h4:x.1<s.length),(m.Ab[x.1].Hi<s[x.1]->Q (false,()) () H)/\(¬m.Ab[x.1].Hi<s[x.1]->x.1+1<=9223372036854775807/\∃m,m<n/\H=H/\V m (x.1+1,()))))/\(¬¬m.Ab[x.1].Bool=true->x.1+1<=9223372036854775807/\∃m,m<n/\H=H/\V m (x.1+1,()))))/\(¬¬s[x.1]=0->(¬m.Ab[x.1].Bool=true->x.1<=9223372036854775807->∃(h2:x.1<s.length),(s[x.1]<m.Ab[x.1].Lo->Q (false,()) () H)/\(¬s[x.1]<m.Ab[x.1].Lo->x.1<=9223372036854775807->∃(h3:x.1<s.length),(m.Ab[x.1].Hi<s[x.1]->Q (false,()) () H)/\(¬m.Ab[x.1].Hi<s[x.1]->x.1+1<=9223372036854775807/\∃m,m<n/\H=H/\V m (x.1+1,()))))/\(¬¬m.Ab[x.1].Bool=true->x.1+1<=9223372036854775807/\∃m,m<n/\H=H/\V m (x.1+1,()))))/\(¬m.Ab[x.1].Bool=true->(¬m.Ab[x.1].Bool=true->x.1<=9223372036854775807->∃(h1:x.1<s.length),(s[x.1]<m.Ab[x.1].Lo->Q (false,()) () H)/\(¬s[x.1]<m.Ab[x.1].Lo->x.1<=9223372036854775807->∃(h2:x.1<s.length),(m.Ab[x.1].Hi<s[x.1]->Q (false,()) () H)/\(¬m.Ab[x.1].Hi<s[x.1]->x.1+1<=9223372036854775807/\∃m,m<n/\H=H/\V m (x.1+1,()))))/\(¬¬m.Ab[x.1].Bool=true->x.1+1<=9223372036854775807/\∃m,m<n/\H=H/\V m (x.1+1,()))))/\(¬x.1<s.length->Q (true,()) () H))
theorem Q3 m s H Q X(h_:KH m s H Q X):Wp Y0 HM Fy (m,s,()) H Q X:=wF Tryz.f22 {lp:=[(4,⟨[(5,.nat)],[1,2],false⟩)],im:=[2]} h_
def Ge(a:AS)(s:List Int)(Au:Bool)(H:HY)(Q:Bool×Unit->UU)(X:PX):=Wp Y0 FZ En (a,()) H (λ(b:Bool×Unit)_ G=>(¬b.1=true->Wp Y0 Br Bk () G (λ(b:Bool×Unit)_ G=>Q (b.1,()) () G) X)/\(¬¬b.1=true->s.length<=9223372036854775807->(20<s.length->Wp Y0 Br Bk () G (λ(b:Bool×Unit)_ G=>Q (b.1,()) () G) X)/\(¬20<s.length->Wp Y0 Er Dq (a,()) G (λ(b:Option Nat×Ad×Bool×Unit)_ G=>(¬b.2.2.1=true->Q (false,()) () G)/\(¬¬b.2.2.1=true->Wp Y0 J9 Ho (b.1,b.2.1,Au,()) G (λ(b1:Int×Int×Unit)_ G=>Wp Y0 Mh Jz (b.1,b.2.1,s,Au,()) G (λ(b2:Int×Int×Unit)_ G=>(¬b1.2.1=0->Q (false,()) () G)/\(¬¬b1.2.1=0->Wp Y0 HM Fy ({a with Defs:=[],Init:=[],Ade:=[],Next:=[],Trans:=[],Fair:=[],Ac7:=[]},s,()) G (λ(b3:Bool×Unit)_ G=>(¬b3.1=true->(¬b2.2.1=21->Q (false,()) () G)/\(¬¬b2.2.1=21->(¬b2.1=0->Q (false,()) () G)/\(¬¬b2.1=0->(b3.1=true->(¬b2.2.1=0->Q (false,()) () G)/\(¬¬b2.2.1=0->∃(V:Nat->Nat×Unit->HP),(∃(n:Nat),V n (0,()) G)/\∀n x H,V n x H->Wp Y0 Cu BN (a,()) H (λ(b4:Int×Unit)_ G=>((↑x.1:Int)<b4.1->Wp Y0 AY AP (b.1,b1.1,(↑x.1:Int),()) G (λ(b5:Bool×Unit)_ G=>Wp Y0 Cc BD (a.Ab,(↑x.1:Int),Au,()) G (λ(b6:Bool×Unit)_ G=>(not (decide (b5.1=true)==decide (b6.1=true))=true->dup (Q (false,()) () G))/\(¬not (decide (b5.1=true)==decide (b6.1=true))=true->(b3.1=true->Wp Y0 AY AP (b.1,b2.1,(↑x.1:Int),()) G (λ(b:Bool×Unit)_ G=>Wp Y0 CJ Cq (a.Ab,s,(↑x.1:Int),Au,()) G (λ(b7:Bool×Unit)_ G=>(not (decide (b.1=true)==decide (b7.1=true))=true->Q (false,()) () G)/\(¬not (decide (b.1=true)==decide (b7.1=true))=true->x.1+1<=(9223372036854775807:Nat)/\∃m,m<n/\V m (x.1+1,()) G)) X) X)/\(¬b3.1=true->dup (x.1+1<=(9223372036854775807:Nat)/\∃m,m<n/\V m (x.1+1,()) G)))) X) X)/\(¬(↑x.1:Int)<b4.1->Wp Y0 Br Bk () G (λ(b:Bool×Unit)_ G=>Q (b.1,()) () G) X)) X))/\(¬b3.1=true->∃(V:Nat->Nat×Unit->HP),(∃(n:Nat),V n (0,()) G)/\∀n x H,V n x H->Wp Y0 Cu BN (a,()) H (λ(b4:Int×Unit)_ G=>((↑x.1:Int)<b4.1->Wp Y0 AY AP (b.1,b1.1,(↑x.1:Int),()) G (λ(b5:Bool×Unit)_ G=>Wp Y0 Cc BD (a.Ab,(↑x.1:Int),Au,()) G (λ(b6:Bool×Unit)_ G=>(not (decide (b5.1=true)==decide (b6.1=true))=true->dup (Q (false,()) () G))/\(¬not (decide (b5.1=true)==decide (b6.1=true))=true->(b3.1=true->Wp Y0 AY AP (b.1,b2.1,(↑x.1:Int),()) G (λ(b:Bool×Unit)_ G=>Wp Y0 CJ Cq (a.Ab,s,(↑x.1:Int),Au,()) G (λ(b7:Bool×Unit)_ G=>(not (decide (b.1=true)==decide (b7.1=true))=true->Q (false,()) () G)/\(¬not (decide (b.1=true)==decide (b7.1=true))=true->x.1+1<=(9223372036854775807:Nat)/\∃m,m<n/\V m (x.1+1,()) G)) X) X)/\(¬b3.1=true->dup (x.1+1<=(9223372036854775807:Nat)/\∃m,m<n/\V m (x.1+1,()) G)))) X) X)/\(¬(↑x.1:Int)<b4.1->Wp Y0 Br Bk () G (λ(b:Bool×Unit)_ G=>Q (b.1,()) () G) X)) X))))/\(¬¬b3.1=true->(b3.1=true->(¬b2.2.1=0->Q (false,()) () G)/\(¬¬b2.2.1=0->∃(V:Nat->Nat×Unit->HP),(∃(n:Nat),V n (0,()) G)/\∀n x H,V n x H->Wp Y0 Cu BN (a,()) H (λ(b4:Int×Unit)_ G=>((↑x.1:Int)<b4.1->Wp Y0 AY AP (b.1,b1.1,(↑x.1:Int),()) G (λ(b5:Bool×Unit)_ G=>Wp Y0 Cc BD (a.Ab,(↑x.1:Int),Au,()) G (λ(b6:Bool×Unit)_ G=>(not (decide (b5.1=true)==decide (b6.1=true))=true->dup (Q (false,()) () G))/\(¬not (decide (b5.1=true)==decide (b6.1=true))=true->(b3.1=true->Wp Y0 AY AP (b.1,b2.1,(↑x.1:Int),()) G (λ(b:Bool×Unit)_ G=>Wp Y0 CJ Cq (a.Ab,s,(↑x.1:Int),Au,()) G (λ(b7:Bool×Unit)_ G=>(not (decide (b.1=true)==decide (b7.1=true))=true->Q (false,()) () G)/\(¬not (decide (b.1=true)==decide (b7.1=true))=true->x.1+1<=(9223372036854775807:Nat)/\∃m,m<n/\V m (x.1+1,()) G)) X) X)/\(¬b3.1=true->dup (x.1+1<=9223372036854775807/\∃m,m<n/\V m (x.1+1,()) G)))) X) X)/\(¬(↑x.1:Int)<b4.1->Wp Y0 Br Bk () G (λ(b:Bool×Unit)_ G=>Q (b.1,()) () G) X)) X))/\(¬b3.1=true->∃(V:Nat->Nat×Unit->HP),(∃(n:Nat),V n (0,()) G)/\∀n x H,V n x H->Wp Y0 Cu BN (a,()) H (λ(b4:Int×Unit)_ G=>((↑x.1:Int)<b4.1->Wp Y0 AY AP (b.1,b1.1,(↑x.1:Int),()) G (λ(b5:Bool×Unit)_ G=>Wp Y0 Cc BD (a.Ab,(↑x.1:Int),Au,()) G (λ(b6:Bool×Unit)_ G=>(not (decide (b5.1=true)==decide (b6.1=true))=true->dup (Q (false,()) () G))/\(¬not (decide (b5.1=true)==decide (b6.1=true))=true->(b3.1=true->Wp Y0 AY AP (b.1,b2.1,(↑x.1:Int),()) G (λ(b:Bool×Unit)_ G=>Wp Y0 CJ Cq (a.Ab,s,(↑x.1:Int),Au,()) G (λ(b7:Bool×Unit)_ G=>(not (decide (b.1=true)==decide (b7.1=true))=true->Q (false,()) () G)/\(¬not (decide (b.1=true)==decide (b7.1=true))=true->x.1+1<=(9223372036854775807:Nat)/\∃m,m<n/\V m (x.1+1,()) G)) X) X)/\(¬b3.1=true->dup (x.1+1<=9223372036854775807/\∃m,m<n/\V m (x.1+1,()) G)))) X) X)/\(¬(↑x.1:Int)<b4.1->Wp Y0 Br Bk () G (λ(b:Bool×Unit)_ G=>Q (b.1,()) () G) X)) X))) X)) X) X)) X))) X
theorem Kv a s Au H Q X(h_:Ge a s Au H Q X):Wp Y0 Gk DR (a,s,Au,()) H Q X:=wF Tryz.f5 {lp:=[(14,⟨[(15,.nat)],[1,2,3,7,10,12,14],true⟩)],im:=[3]} h_
end
section
def IsV(l:List A7)(s:List Int):Prop:=s.length=l.length/\∀i(h:i<l.length)(h':i<s.length),Eg l[i]<=s[i]/\s[i]<=MD l[i]
variable {v:A7}
theorem Qe(h:v.Bool=true):Eg v=0:=if_pos h
theorem VN(h:v.Bool=true):MD v=1:=if_pos h
theorem Qc(h:¬v.Bool=true):Eg v=v.Lo:=if_neg h
theorem VM(h:¬v.Bool=true):MD v=v.Hi:=if_neg h
theorem XK{L:Ad}(hL:Kc L){i j:Nat}(hi:i<L.Ab.length)(hib:i<L.Bits.length)(hj:j<L.Bits[i].toNat){next:Bool}:(Co L i next)[j]?=some (2*(D5 L.Bits i+(j:Int))+if next=true then 1 else 0):=by
 have hia:i<L.At.length:=by rw[hL.la];exact hi
 have e:(Ns L i)[j]?=some (2*(D5 L.Bits i+(j:Int))):=by unfold Ns;rw[List.getElem?_map,List.getElem?_eq_getElem hib,List.getElem?_eq_getElem hia,Option.getD_some,Option.getD_some,List.getElem?_range hj,hL.at_ i hia];rfl
 unfold Co;split
 .rename_i hn;rw[List.getElem?_map,e];rfl
 .rename_i hn;rw[e,Int.add_zero]
variable {H:HY} {X:PX}
theorem TO{m:GF}{s:List Int}{Q:Bool×Unit->UU}(hl:m.Ab.length<=1000)(h:∀t:Bool,(t=true↔IsV m.Ab s)->Q (t,()) () H):Wp Y0 HM Fy (m,s,()) H Q X:=by
 apply Q3;unfold KH;intro _ _;refine⟨λhne=>h false ⟨λhh=>(by cases hh),λhh=>absurd hh.1 hne⟩,λhe=>?_⟩;have he:s.length=m.Ab.length:=Classical.not_not.1 he;refine⟨λn z=>n=s.length-z.1/\z.1<=s.length/\∀i,i<z.1->∀(h:i<m.Ab.length)(h':i<s.length),Eg m.Ab[i]<=s[i]/\s[i]<=MD m.Ab[i],⟨_,rfl,rfl,Nat.zero_le _,λi hi=>absurd hi (Nat.not_lt_zero _)⟩,?_⟩;rintro n ⟨k,_⟩ ⟨hn0,hk0,ha0⟩;have hn:n=s.length-k:=hn0;have hk:k<=s.length:=hk0;have ha:∀i,i<k->∀(h:i<m.Ab.length)(h':i<s.length),Eg m.Ab[i]<=s[i]/\s[i]<=MD m.Ab[i]:=ha0;clear hn0 hk0 ha0;intro _;refine⟨λhlt0 _=>?_,λhge0=>?_⟩
 .have hlt:k<s.length:=hlt0;have hkv:k<m.Ab.length:=by omega
  have nok:¬(Eg m.Ab[k]<=s[k]/\s[k]<=MD m.Ab[k])->Q (false,()) () H:=λhh=>h false ⟨λe=>(by cases e),λe=>absurd (e.2 k hkv hlt) hh⟩;have nxt:(Eg m.Ab[k]<=s[k]/\s[k]<=MD m.Ab[k])->k+1<=9223372036854775807/\∃(m_1:Nat),m_1<n/\H=H/\(m_1=s.length-(k+1)/\k+1<=s.length/\∀i,i<k+1->∀(h:i<m.Ab.length)(h':i<s.length),Eg m.Ab[i]<=s[i]/\s[i]<=MD m.Ab[i]):=λhh=>⟨by omega,s.length-(k+1),by omega,rfl,rfl,by omega,λi hi h1 h2=>by
   by_cases e:i=k
   .subst e;exact hh
   .exact ha i (by omega) h1 h2⟩
  refine⟨hkv,λhb _=>⟨hlt,λh0 _=>⟨hlt,λh1=>nok ?_,λh1=>⟨λhb'=>absurd hb hb',λ_=>nxt ?_⟩⟩,λh0=>⟨λhb'=>absurd hb hb',λ_=>nxt ?_⟩⟩,λhb=>⟨λ_ _=>⟨hlt,λh0=>nok ?_,λh0 _=>⟨hlt,λh1=>nok ?_,λh1=>nxt ?_⟩⟩,λhb'=>absurd hb hb'⟩⟩
  .have h0:¬s[k]=0:=h0;have h1:¬s[k]=1:=h1;rw[Qe (v:=m.Ab[k]) hb,VN (v:=m.Ab[k]) hb];omega
  .have h1:¬¬s[k]=1:=h1;rw[Qe (v:=m.Ab[k]) hb,VN (v:=m.Ab[k]) hb];omega
  .have h0:¬¬s[k]=0:=h0;rw[Qe (v:=m.Ab[k]) hb,VN (v:=m.Ab[k]) hb];omega
  .have h0:s[k]<m.Ab[k].Lo:=h0;rw[Qc (v:=m.Ab[k]) hb,VM (v:=m.Ab[k]) hb];omega
  .have h1:m.Ab[k].Hi<s[k]:=h1;rw[Qc (v:=m.Ab[k]) hb,VM (v:=m.Ab[k]) hb];omega
  .have h0:¬s[k]<m.Ab[k].Lo:=h0;have h1:¬m.Ab[k].Hi<s[k]:=h1;rw[Qc (v:=m.Ab[k]) hb,VM (v:=m.Ab[k]) hb];omega
 .have hge:¬k<s.length:=hge0;exact h true ⟨λ_=>⟨he,λi h1 h2=>ha i (by omega) h1 h2⟩,λ_=>rfl⟩
theorem YC{m:GF}{s:List Int}{Q:Bool×Unit->UU}(hl:m.Ab.length<=1000)(h:∀t:Bool,(t=true↔IsV m.Ab s)->Q (t,()) () H):Wp Y0 OG L0 (m,s,()) H Q X:=by
 apply Aai;unfold TL;intro _ _;refine⟨λhne=>h false ⟨λhh=>(by cases hh),λhh=>absurd hh.1 hne⟩,λhe=>?_⟩;have he:s.length=m.Ab.length:=Classical.not_not.1 he;refine λ_=>⟨λn z=>n=s.length-z.1/\z.1<=s.length/\∀i,i<z.1->∀(h:i<m.Ab.length)(h':i<s.length),Eg m.Ab[i]<=s[i]/\s[i]<=MD m.Ab[i],⟨_,rfl,rfl,Nat.zero_le _,λi hi=>absurd hi (Nat.not_lt_zero _)⟩,?_⟩
 rintro n ⟨k,_⟩ ⟨hn0,hk0,ha0⟩;have hn:n=s.length-k:=hn0;have hk:k<=s.length:=hk0;have ha:∀i,i<k->∀(h:i<m.Ab.length)(h':i<s.length),Eg m.Ab[i]<=s[i]/\s[i]<=MD m.Ab[i]:=ha0;clear hn0 hk0 ha0;refine⟨λhlt0 _=>?_,λhge0=>?_⟩
 .have hkv:k<m.Ab.length:=hlt0;have hlt:k<s.length:=by omega
  have nok:¬(Eg m.Ab[k]<=s[k]/\s[k]<=MD m.Ab[k])->Q (false,()) () H:=λhh=>h false ⟨λe=>(by cases e),λe=>absurd (e.2 k hkv hlt) hh⟩;have nxt:(Eg m.Ab[k]<=s[k]/\s[k]<=MD m.Ab[k])->k+1<=9223372036854775807/\∃(m_1:Nat),m_1<n/\H=H/\(m_1=s.length-(k+1)/\k+1<=s.length/\∀i,i<k+1->∀(h:i<m.Ab.length)(h':i<s.length),Eg m.Ab[i]<=s[i]/\s[i]<=MD m.Ab[i]):=λhh=>⟨by omega,s.length-(k+1),by omega,rfl,rfl,by omega,λi hi h1 h2=>by
   by_cases e:i=k
   .subst e;exact hh
   .exact ha i (by omega) h1 h2⟩
  refine⟨hkv,λhb _=>⟨hlt,λh0=>nok ?_,λh0 _=>⟨hlt,λh1=>nok ?_,λh1=>nxt ?_⟩⟩,λhb _=>⟨hlt,λh0=>nok ?_,λh0 _=>⟨hlt,λh1=>nok ?_,λh1=>nxt ?_⟩⟩⟩
  .have h0:s[k]<0:=h0;rw[Qe (v:=m.Ab[k]) hb,VN (v:=m.Ab[k]) hb];omega
  .have h1:1<s[k]:=h1;rw[Qe (v:=m.Ab[k]) hb,VN (v:=m.Ab[k]) hb];omega
  .have h0:¬s[k]<0:=h0;have h1:¬1<s[k]:=h1;rw[Qe (v:=m.Ab[k]) hb,VN (v:=m.Ab[k]) hb];omega
  .have h0:s[k]<m.Ab[k].Lo:=h0;rw[Qc (v:=m.Ab[k]) hb,VM (v:=m.Ab[k]) hb];omega
  .have h1:m.Ab[k].Hi<s[k]:=h1;rw[Qc (v:=m.Ab[k]) hb,VM (v:=m.Ab[k]) hb];omega
  .have h0:¬s[k]<m.Ab[k].Lo:=h0;have h1:¬m.Ab[k].Hi<s[k]:=h1;rw[Qc (v:=m.Ab[k]) hb,VM (v:=m.Ab[k]) hb];omega
 .have hge:¬k<m.Ab.length:=hge0;exact h true ⟨λ_=>⟨he,λi h1 h2=>ha i (by omega) h1 h2⟩,λ_=>rfl⟩
theorem Un{yes:Bool}{v:Nat}{Q:List Bool×Unit->UU}(hv:v<=20)(h:∀l:List Bool,l.length=2^v->Q (l,()) () H):Wp Y0 Ep Dp (yes,(v:Int),()) H Q X:=by
 apply NM;unfold IZ;refine⟨λm z=>m=v-z.2.1/\z.2.1<=v/\z.1=2^z.2.1,⟨_,rfl,rfl,Nat.zero_le _,rfl⟩,?_⟩;rintro m ⟨x,k,_⟩ ⟨hm0,hk0,hx0⟩;have hm:m=v-k:=hm0;have hk:k<=v:=hk0;have hx:x=2^k:=hx0;have hb:(2:Int)^k<=1048576/\0<=(2:Int)^k:=by have:(2:Nat)^k<=2^20:=Nat.pow_le_pow_right (by omega) (by omega);rw[N6];exact⟨by show ((2^k:Nat):Int)<=((1048576:Nat):Int);exact Int.ofNat_le.2 this,Int.natCast_nonneg _⟩
 refine⟨λhlt _=>?_,λhlt=>?_⟩
 .have hlt:(k:Int)<(v:Int):=hlt;refine⟨AG.2 (by show _<=2*x/\2*x<=_;rw[hx];omega),by show k+1<=_;omega,v-(k+1),by omega,rfl,rfl,by show k+1<=v;omega,?_⟩;show 2*x=2^(k+1);rw[hx,Int.pow_succ,Int.mul_comm]
 .have hlt:¬(k:Int)<(v:Int):=hlt;have e:k=v:=by omega
  subst e;have hxn:x.toNat=2^k:=by rw[hx,N6];exact Int.toNat_natCast _
  have hx0:0<=x:=by rw[hx];exact hb.2
  have hx1:x<=1048576:=by rw[hx];exact hb.1
  refine λ_ _=>⟨hx0,rfl,by show x.toNat*1<=_;omega,?_⟩
  refine⟨λm z=>m=x.toNat-z.2.1/\z.2.1<=x.toNat/\z.1.length=x.toNat,⟨_,rfl,rfl,Nat.zero_le _,List.length_replicate⟩,?_⟩;rintro m2 ⟨l,j,_⟩ ⟨hm1,hj0,hl0⟩;have hm2:m2=x.toNat-j:=hm1;have hj:j<=x.toNat:=hj0;have hl:l.length=x.toNat:=hl0;refine⟨λhlt _=>?_,λhge=>?_⟩
  .have hlt:(j:Int)<x:=hlt;have hjl:j<l.length:=by omega
   refine⟨hjl,hjl,by show j+1<=_;omega,x.toNat-(j+1),by omega,rfl,rfl,by show j+1<=_;omega,?_⟩;show (l.set j yes).length=x.toNat;rw[List.length_set];exact hl
  .exact h l (hl.trans hxn)
theorem Apz{a:AS}{Q:Int×Unit->UU}(s:Aov a)(h:Q (((2^(2*Ev a.Ab).toNat:Nat):Int),()) () H):Wp Y0 Cu BN (a,()) H Q X:=by
 apply Om;unfold JK;have st:=s.t;have sn:=s.n;refine LV (by omega) λ_ _ _=>⟨AG.2 (by show _<=2*Ev a.Ab/\2*Ev a.Ab<=_;omega),?_⟩
 obtain⟨v,hv⟩:=Int.eq_ofNat_of_zero_le (show 0<=2*Ev a.Ab by omega);have hv20:v<=20:=by omega
 show Wp Y0 Ep Dp (true,2*Ev a.Ab,()) H _ X;rw[hv]at h ⊢;refine Un hv20 λl hl _=>?_;show Q ((l.length:Int),()) () H;rw[hl];exact h
end
section
theorem Ws{a:B.As}:∀{l:List Int}{j:Nat}(h:j<l.length),BB a (l.take (j+1))=BB a (l.take j)+(if a l[j]=true then 2^j else 0)
 |v::l,0,_=>by show (if a v=true then 1 else 0)+2*0=0+(if a v=true then 2^0 else 0);split<;>rfl
 |v::l,j+1,h=>by
  have hj:j<l.length:=by simpa using h
  have ih:=Ws (a:=a) (l:=l) (j:=j) hj;rw[List.take_succ_cons,List.take_succ_cons,HZ,HZ,ih];show _=_+(if a (l[j]'hj)=true then 2^(j+1) else 0);rw[Nat.pow_succ];by_cases e:a (l[j]'hj)=true
  .rw[if_pos e,if_pos e];omega
  .rw[if_neg e,if_neg e];omega
def rdV(l:List A7)(a:B.As)(next:Bool)(L:Ad)(i:Nat):Int:=(l[i]?.map Eg).getD 0+(BB a (Co L i next):Int)
noncomputable def Tj(l:List A7)(a:B.As)(next:Bool)(L:Ad)(i:Nat):Bool:=decide ((BB a (Co L i next):Int)<(l[i]?.map CL).getD 0)
def RdI(a:B.As)(v:List Int)(s:List Int)(is:List Bool)(b K:Nat)(m:Nat)(z:List Int×List Bool×Nat×Int×Int×Nat×Unit):Prop:=m=K-z.2.2.2.2.2.1/\z.2.2.2.2.2.1<=K/\z.1=s/\z.2.1=is/\z.2.2.1=b+z.2.2.2.2.2.1/\z.2.2.2.1=(BB a (v.take z.2.2.2.2.2.1):Int)/\z.2.2.2.2.1=2^z.2.2.2.2.2.1
variable {H:HY} {X:PX}
theorem Aa3{v:A7}{Q:Int×Unit->UU}(h:Q (Eg v,()) () H):Wp Y0 HL Fx (v,()) H Q X:=by apply Q1;unfold KF;exact⟨λhb=>by rw[Qe hb]at h;exact h,λhb=>by rw[Qc hb]at h;exact h⟩
variable {l:List A7} {k N:Nat} {next:Bool}
theorem PW{Q:List Int×List Bool×Unit->UU}(hv:Qz l)(hl:l.length<=64)(ht:Ev l<=15)(hN:2*Ev l<=N)(hk:k<=1000000)(h:Q ((List.range l.length).map (rdV l (IN N k) next (CT l)),(List.range l.length).map (Tj l (IN N k) next (CT l)),()) () H):Wp Y0 EA D9 (l,(k:Int),next,()) H Q X:=by
 have hL:Ml (CT l):=ZC hv hl;have sb:∀i(hi:i<l.length),0<=D5 (BK l) i/\D5 (BK l) i+(Eu (CL l[i]):Int)<=Ev l:=λi hi=>by
  have h1:=hL.toKc.sum (k:=i) (by show i<=(BK l).length;rw[C3];omega);have h2:=hL.toKc.Mp (j:=i+1) (k:=(BK l).length) (by rw[C3];omega) (Nat.le_refl _);rw[show (CT l).Bits=BK l from rfl,Ez (by rw[C3];exact hi),GW hi]at h2;have h3:Ev l=D5 (BK l) (BK l).length:=by unfold Ev;rw[C3]
  exact⟨h1.1,by rw[h3];exact h2⟩
 apply Of;unfold JE;refine⟨λm z=>m=l.length-z.2.2.2.1/\z.2.2.2.1<=l.length/\z.1=(List.range z.2.2.2.1).map (rdV l (IN N k) next (CT l))/\z.2.1=(List.range z.2.2.2.1).map (Tj l (IN N k) next (CT l))/\(z.2.2.1:Int)=D5 (BK l) z.2.2.2.1,⟨_,rfl,rfl,Nat.zero_le _,rfl,rfl,rfl⟩,?_⟩;rintro m ⟨s,is,b,i,_⟩ ⟨hm0,hi0,hs0,his0,hb0⟩;have hm:m=l.length-i:=hm0;have hi:i<=l.length:=hi0;have hs:s=(List.range i).map (rdV l (IN N k) next (CT l)):=hs0;have his:is=(List.range i).map (Tj l (IN N k) next (CT l)):=his0;have hb:(b:Int)=D5 (BK l) i:=hb0;clear hm0 hi0 hs0 his0 hb0;intro _;refine⟨λhlt0=>?_,λhge0=>?_⟩
 .have hlt:i<l.length:=hlt0;obtain⟨s0,s1⟩:=sb i hlt;have hib:i<(CT l).Bits.length:=by show i<(BK l).length;rw[C3];exact hlt
  have hK:((CT l).Bits[i]).toNat=Eu (CL l[i]):=by exact(congrArg Int.toNat (GW hlt)).trans (Int.toNat_natCast _)
  have hlen:(Co (CT l) i next).length=Eu (CL l[i]):=(Ic hib).trans hK;have hget:∀j,j<Eu (CL l[i])->(Co (CT l) i next)[j]?=some (2*(D5 (BK l) i+(j:Int))+if next=true then 1 else 0):=λj hj=>XK hL.toKc hlt hib (by rw[hK];exact hj);generalize hv:Co (CT l) i next=v at hlen hget;generalize hKK:Eu (CL l[i])=K at *;refine⟨RdI (IN N k) v s is b K,⟨_,rfl,rfl,Nat.zero_le _,rfl,rfl,rfl,rfl,rfl⟩,?_⟩;rintro m2 ⟨s',is',b',n,one,j,_⟩ ⟨hm20,hj0,hs'0,his'0,hb'0,hn0,ho0⟩;have hm2:m2=K-j:=hm20;have hj:j<=K:=hj0;have hs':s'=s:=hs'0;have his':is'=is:=his'0;have hb':b'=b+j:=hb'0;have hn:n=(BB (IN N k) (v.take j):Int):=hn0;have ho:one=2^j:=ho0;clear hm20 hj0 hs'0 his'0 hb'0 hn0 ho0;subst hs' his';have h30:(2:Nat)^j<=2^30:=Nat.pow_le_pow_right (by omega) (by omega);have hcl:BB (IN N k) (v.take j)<2^j:=by have:=SB (a:=IN N k) (l:=v.take j);rw[List.length_take,Nat.min_eq_left (by omega)]at this;exact this
  have ho1:one=((2^j:Nat):Int):=by rw[ho,N6]
  have hob:0<=one/\one<=1073741824:=by rw[ho1];exact⟨Int.natCast_nonneg _,by show ((2^j:Nat):Int)<=((1073741824:Nat):Int);exact Int.ofNat_le.2 h30⟩
  have hnb:0<=n/\n<1073741824:=by rw[hn];exact⟨Int.natCast_nonneg _,by show ((BB (IN N k) (v.take j):Nat):Int)<((1073741824:Nat):Int);exact Int.ofNat_lt.2 (Nat.lt_of_lt_of_le hcl h30)⟩
  have hsl:s'.length<=64:=by rw[hs];simp;omega
  have hisl:is'.length<=64:=by rw[his];simp;omega
  refine λ_=>⟨hlt,J2 (PZ (Ou _).1 (Ou _).2 λ_ _=>⟨λhjl0 _=>?_,λhjl0 _=>?_⟩)⟩
  .have hjl:j<K:=by rw[hKK]at hjl0;exact Int.ofNat_lt.1 hjl0
   have hjv:j<v.length:=by omega
   have hget:=hget j hjl;rw[List.getElem?_eq_getElem hjv]at hget;have hget:v[j]=2*(D5 (BK l) i+(j:Int))+if next=true then 1 else 0:=Option.some.inj hget
   have hnx:∀t:Bool,t=IN N k v[j]->(t=true->Ag .i64 n->Ag .i64 one->Ag .i64 (n+one)/\(Ag .i64 one->Ag .i64 (2*one)/\b'+1<=9223372036854775807/\j+1<=9223372036854775807/\∃m3,m3<m2/\H=H/\RdI (IN N k) v s' is' b K m3 (s',is',b'+1,n+one,2*one,j+1,())))/\
     (¬t=true->Ag .i64 one->Ag .i64 (2*one)/\b'+1<=9223372036854775807/\j+1<=9223372036854775807/\∃m3,m3<m2/\H=H/\RdI (IN N k) v s' is' b K m3 (s',is',b'+1,n,2*one,j+1,())):=λt ht=>by
    have hc:=Ws (a:=IN N k) hjv
    have h2:2*one=2^(j+1):=by rw[ho,Int.pow_succ,Int.mul_comm]
    have i1:Ag .i64 (2*one):=AG.2 (by omega)
    refine⟨λht1 _ _=>⟨AG.2 (by omega),λ_=>⟨i1,by omega,by omega,K-(j+1),by omega,rfl,rfl,by show j+1<=K;omega,rfl,rfl,by show b'+1=b+(j+1);omega,?_,h2⟩⟩,λht1 _=>⟨i1,by omega,by omega,K-(j+1),by omega,rfl,rfl,by show j+1<=K;omega,rfl,rfl,by show b'+1=b+(j+1);omega,?_,h2⟩⟩
    .show n+one=((BB (IN N k) (v.take (j+1)):Nat):Int)
     rw[hc,if_pos (by rw[<-ht];exact ht1),hn,ho1];norm_cast
    .show n=((BB (IN N k) (v.take (j+1)):Nat):Int)
     rw[hc,if_neg (by rw[<-ht];exact ht1),hn];rfl
   refine⟨AG.2 (by show _<=2*(b':Int)/\2*(b':Int)<=_;omega),λhnt _=>⟨AG.2 (by show _<=2*(b':Int)+1/\2*(b':Int)+1<=_;omega),?_⟩,λhnt=>?_⟩
   .rw[if_pos hnt]at hget;have e:(2*(b':Int)+1)=((2*b'+1:Nat):Int):=by omega
    have e2:v[j]=((2*b'+1:Nat):Int):=by rw[hget];omega
    show Wp Y0 Cd BE ((k:Int),2*(b':Int)+1,()) H _ X;rw[e];refine KO hk (by omega) ?_;exact hnx _ (by rw[e2,Aom (by omega)])
   .rw[if_neg hnt]at hget;have e:(2*(b':Int))=((2*b':Nat):Int):=by omega
    have e2:v[j]=((2*b':Nat):Int):=by rw[hget];omega
    show Wp Y0 Cd BE ((k:Int),2*(b':Int),()) H _ X;rw[e];refine KO hk (by omega) ?_;exact hnx _ (by rw[e2,Aom (by omega)])
  .have hjl:¬j<K:=by rw[hKK]at hjl0;exact λhh=>hjl0 (Int.ofNat_lt.2 hh)
   have hjK:j=K:=by omega
   subst hjK;have hfull:v.take j=v:=List.take_of_length_le (by omega);rw[hfull]at hn;have hlo:=(hL.fit i hlt hib).2.2;have hlo1:-1152921504606846976<=Eg l[i]:=hlo.1;have hlo2:Eg l[i]<=1152921504606846976:=Int.le_trans (hL.fit i hlt hib).1 hlo.2;have er:rdV l (IN N k) next (CT l) i=Eg l[i]+n:=by unfold rdV;rw[hv,List.getElem?_eq_getElem hlt,hn];rfl
   have eb:Tj l (IN N k) next (CT l) i=decide (n<CL l[i]):=by unfold Tj;rw[hv,List.getElem?_eq_getElem hlt,hn];rfl
   refine⟨hlt,Aa3 λ_ _=>⟨AG.2 (by show _<=Eg l[i]+n/\Eg l[i]+n<=_;omega),by show (s'.length+1)*8<=_;omega,λ_=>⟨hlt,J2 ⟨by show (is'.length+1)*1<=_;omega,by show i+1<=_;omega,l.length-(i+1),by omega,rfl,rfl,by show i+1<=_;omega,?_,?_,?_⟩⟩⟩⟩
   .show s'++[Eg l[i]+n]=(List.range (i+1)).map _;rw[List.range_succ,List.map_append,<-hs];show _=s'++[rdV l (IN N k) next (CT l) i];rw[er]
   .show is'++[decide (n<CL l[i])]=(List.range (i+1)).map _;rw[List.range_succ,List.map_append,<-his];show _=is'++[Tj l (IN N k) next (CT l) i];rw[eb]
   .show (b':Int)=D5 (BK l) (i+1);rw[Ez (by rw[C3];exact hlt),GW hlt,hKK];omega
 .have hge:¬i<l.length:=hge0;have e:i=l.length:=by omega
  subst e;show Q (s,is,()) () H;rw[hs,his];exact h
variable {Q:Bool×Unit->UU}
theorem YT{l:List Bool}(hl:l.length<=1000)(h:Q (l.all (λb=>b),()) () H):Wp Y0 Hc EP (l,()) H Q X:=by
 apply P3;unfold Kf;refine⟨λm z=>m=l.length-z.1/\z.1<=l.length/\∀i(hi:i<l.length),i<z.1->l[i]=true,⟨_,rfl,rfl,Nat.zero_le _,λi _ hi=>absurd hi (Nat.not_lt_zero _)⟩,?_⟩;rintro m ⟨k,_⟩ ⟨hm0,hk0,ha0⟩;have hm:m=l.length-k:=hm0;have hk:k<=l.length:=hk0;have ha:∀i(hi:i<l.length),i<k->l[i]=true:=ha0;intro _;refine⟨λhlt0 _=>?_,λhge0=>?_⟩
 .have hlt:k<l.length:=hlt0;refine⟨hlt,λhn=>?_,λhn=>⟨by show k+1<=_;omega,l.length-(k+1),by omega,rfl,rfl,by show k+1<=_;omega,λi hi hik=>?_⟩⟩
  .have hn:¬l[k]=true:=hn;have:l.all (λb=>b)=false:=by rw[Bool.eq_false_iff];intro hh;exact hn (List.all_eq_true.1 hh _ (List.getElem_mem hlt))
   rw[this]at h;exact h
  .have hik:i<k+1:=hik;by_cases e:i=k
   .subst e;exact Classical.not_not.1 hn
   .exact ha i hi (by omega)
 .have hge:¬k<l.length:=hge0;have:l.all (λb=>b)=true:=List.all_eq_true.2 λx hx=>by obtain⟨i,hi,rfl⟩:=List.getElem_of_mem hx;exact ha i hi (by omega)
  rw[this]at h;exact h
theorem Vg(hv:Qz l)(hl:l.length<=64)(ht:Ev l<=15)(hN:2*Ev l<=N)(hk:k<=1000000)(h:∀t:Bool,(t=true↔∀i(_:i<l.length),Tj l (IN N k) next (CT l) i=true)->Q (t,()) () H):Wp Y0 Cc BD (l,(k:Int),next,()) H Q X:=by apply NG;unfold IT;refine PW hv hl ht hN hk (YT (by show ((List.range l.length).map _).length<=_;simp;omega) (h _ ?_));rw[List.all_eq_true];exact⟨λhh i hi=>hh _ (List.mem_map_of_mem (List.mem_range.2 hi)),λhh x hx=>by obtain⟨i,hi,rfl⟩:=List.mem_map.1 hx;exact hh i (List.mem_range.1 hi)⟩
theorem Aa4{s:List Int}(hv:Qz l)(hl:l.length<=64)(ht:Ev l<=15)(hN:2*Ev l<=N)(hk:k<=1000000)(hs:s.length=l.length)(h:∀t:Bool,(t=true↔∀i(_:i<l.length)(h':i<s.length),Tj l (IN N k) next (CT l) i=true/\rdV l (IN N k) next (CT l) i=s[i])->Q (t,()) () H):Wp Y0 CJ Cq (l,s,(k:Int),next,()) H Q X:=by
 apply Q2;unfold KG;refine PW hv hl ht hN hk ?_;refine⟨λm z=>m=l.length-z.2.2.1/\z.2.2.1<=l.length/\z.1=(List.range l.length).map (rdV l (IN N k) next (CT l))/\z.2.1=(List.range l.length).map (Tj l (IN N k) next (CT l))/\∀i(_:i<l.length)(h':i<s.length),i<z.2.2.1->Tj l (IN N k) next (CT l) i=true/\rdV l (IN N k) next (CT l) i=s[i],⟨_,rfl,rfl,Nat.zero_le _,rfl,rfl,λi _ _ hi=>absurd hi (Nat.not_lt_zero _)⟩,?_⟩;rintro m ⟨x,is,i,_⟩ ⟨hm0,hi0,hx0,his0,ha0⟩;have hm:m=l.length-i:=hm0;have hi:i<=l.length:=hi0;have hx:x=(List.range l.length).map (rdV l (IN N k) next (CT l)):=hx0;have his:is=(List.range l.length).map (Tj l (IN N k) next (CT l)):=his0;have ha:∀j(_:j<l.length)(h':j<s.length),j<i->Tj l (IN N k) next (CT l) j=true/\rdV l (IN N k) next (CT l) j=s[j]:=ha0;clear hm0 hi0 hx0 his0 ha0;intro _;refine⟨λhlt0 _=>?_,λhge0=>?_⟩
 .have hlt:i<l.length:=hlt0;have hsl:i<s.length:=by omega
  have hxl:i<x.length:=by rw[hx];simpa using hlt
  have hil:i<is.length:=by rw[his];simpa using hlt
  have ex:x[i]=rdV l (IN N k) next (CT l) i:=by simp [hx]
  have ei:is[i]=Tj l (IN N k) next (CT l) i:=by simp [his]
  have nok:¬(Tj l (IN N k) next (CT l) i=true/\rdV l (IN N k) next (CT l) i=s[i])->Q (false,()) () H:=λhh=>h false ⟨λe=>(by cases e),λe=>absurd (e i hlt hsl) hh⟩;refine⟨hil,hil,λhn=>nok λhh=>hn ?_,λhn _=>⟨hxl,hxl,λ_=>⟨hsl,λhne=>nok λhh=>hne ?_,λhne=>⟨by show i+1<=_;omega,l.length-(i+1),by omega,rfl,rfl,by show i+1<=_;omega,hx,his,λj h1 h2 hj=>?_⟩⟩⟩⟩
  .show is[i]=true;rw[ei];exact hh.1
  .show x[i]=s[i];rw[ex];exact hh.2
  .have hj:j<i+1:=hj;by_cases e:j=i
   .subst e;have hn:¬¬is[j]=true:=hn;have hne:¬¬x[j]=s[j]:=hne;rw[ei]at hn;rw[ex]at hne;exact⟨Classical.not_not.1 hn,Classical.not_not.1 hne⟩
   .exact ha j h1 h2 (by omega)
 .have hge:¬i<l.length:=hge0;exact h true ⟨λ_ j h1 h2=>ha j h1 h2 (by omega),λ_=>rfl⟩
end
section
variable {α:Type}
def Gp(f:Nat->List α)(k:Nat):List α:=(List.range k).flatMap f
theorem Yx{f:Nat->List α}:Gp f 0=[]:=rfl
theorem Ik{f:Nat->List α}{k:Nat}:Gp f (k+1)=Gp f k++f k:=by unfold Gp;rw[List.range_succ,List.flatMap_append];simp
theorem JU{α:Type}{f:Nat->List α}{L:Ad}(hL:Kc L)(hf:∀i(hi:i<L.Bits.length),(f i).length=L.Bits[i].toNat):∀{k:Nat},k<=L.Bits.length->((Gp f k).length:Int)=D5 L.Bits k
 |0,_=>by simp [Yx,D5]
 |k+1,hk=>by have ih:=JU (f:=f) hL hf (k:=k) (by omega);have h0:=hL.b0 k (by omega);rw[Ik,List.length_append,hf k (by omega),Ez (by omega)];omega
theorem Av6{A C:List α}{z:α}{T p:Nat}(hp:p=A.length)(h:A.length+C.length<=T):List.take p (A++List.replicate (T-A.length) z)++(List.take (min C.length ((A++List.replicate (T-A.length) z).length-p)) C++List.drop (p+min C.length ((A++List.replicate (T-A.length) z).length-p)) (A++List.replicate (T-A.length) z))=(A++C)++List.replicate (T-(A++C).length) z:=by
 subst hp;have e1:(A++List.replicate (T-A.length) z).length=T:=by simp;omega
 rw[e1,Nat.min_eq_left (by omega),List.take_length,List.length_append,List.append_assoc];congr 1
 .simp
 .congr 1;rw[List.drop_append,List.drop_eq_nil_of_le (by omega),List.nil_append,List.drop_replicate];congr 1;omega
variable {L:Ad} {H:HY} {X:PX} {Q:List Int×Unit->UU}
theorem Wd{f:Nat->List Int}{one:Ad×Int×Unit->HY->(List Int×Unit->HP)->PX->Prop}(hL:Kc L)(hf:∀i(hi:i<L.Bits.length),(f i).length=L.Bits[i].toNat)(h1:∀i,i<L.Ab.length->∀(H:HY)(R:List Int×Unit->HP),R (f i,()) H->one (L,(i:Int),()) H R X)(h:Q (Gp f L.Ab.length,()) () H):Wp Y0 GR Fi (L,one,()) H Q X:=by
 apply T2;unfold MH;have hln:=hL.ln;have hlb:=hL.lb;have hla:=hL.la;have h2:=hL.sum (Nat.le_refl _);have ht0:0<=DP L:=h2.1;have ht1:DP L<=1920:=by have:=h2.2;unfold DP;omega
 refine Sv hL λ_ _=>⟨ht0,rfl,by show (DP L).toNat*8<=_;omega,λ_=>⟨λn z H1=>H1=H/\n=L.Ab.length-z.2.1/\z.2.1<=L.Ab.length/\z.1=Gp f z.2.1++List.replicate ((DP L).toNat-(Gp f z.2.1).length) 0,⟨_,rfl,rfl,Nat.zero_le _,by simp [Yx]⟩,?_⟩⟩
 rintro n ⟨x,i,_⟩ H1 ⟨rfl,hn0,hi0,hx0⟩;have hn:n=L.Ab.length-i:=hn0;have hi:i<=L.Ab.length:=hi0;have hx:x=Gp f i++List.replicate ((DP L).toNat-(Gp f i).length) 0:=hx0;clear hn0 hi0 hx0;have hc:=JU (f:=f) hL hf (k:=i) (by omega);have hmono:=hL.Mp (j:=i) (k:=L.Bits.length) (by omega) (Nat.le_refl _);have hxl:x.length=(DP L).toNat:=by rw[hx,List.length_append,List.length_replicate];unfold DP at *;omega
 refine⟨λhlt0 _=>?_,λhge0=>?_⟩
 .have hlt:i<L.Ab.length:=hlt0;have hia:i<L.At.length:=by omega
  have hib:i<L.Bits.length:=by omega
  have hAt:L.At[i]=D5 L.Bits i:=hL.at_ i hia;have hAn:L.At[i].toNat=(Gp f i).length:=by rw[hAt];omega
  have hc2:=JU (f:=f) hL hf (k:=i+1) (by omega);have hmono2:=hL.Mp (j:=i+1) (k:=L.Bits.length) (by omega) (Nat.le_refl _);rw[Ik,List.length_append]at hc2;have hle:(Gp f i).length+(f i).length<=(DP L).toNat:=by unfold DP at *;omega
  have hA0:0<=L.At[i]:=by rw[hAt];exact(hL.sum (k:=i) (by omega)).1
  have nxt:L.At[i].toNat<=x.length/\i+1<=9223372036854775807/\∃m,m<n/\H1=H1/\m=L.Ab.length-(i+1)/\i+1<=L.Ab.length/\(List.take L.At[i].toNat x++(List.take (min (f i).length (x.length-L.At[i].toNat)) (f i)++List.drop (L.At[i].toNat+min (f i).length (x.length-L.At[i].toNat)) x))=Gp f (i+1)++List.replicate ((DP L).toNat-(Gp f (i+1)).length) 0:=
   ⟨by rw[hxl,hAn];omega,by omega,L.Ab.length-(i+1),by omega,rfl,rfl,by omega,by rw[hx,Ik];exact Av6 hAn hle⟩
  refine⟨hia,λ_=>⟨hA0,by show L.At[i].toNat<=x.length;rw[hxl,hAn];omega,h1 i hlt _ _ nxt⟩,h1 i hlt _ _ λ_=>⟨hA0,by show L.At[i].toNat<=x.length;rw[hxl,hAn];omega,nxt⟩⟩
 .have hge:¬i<L.Ab.length:=hge0;have e:i=L.Ab.length:=by omega
  subst e;have hz:(DP L).toNat-(Gp f L.Ab.length).length=0:=by rw[<-hlb]at hc ⊢;unfold DP;omega
  rw[hz]at hx;have hx:x=Gp f L.Ab.length:=by rw[hx];simp
  show Q (x,()) () H1;rw[hx];exact h
theorem Aj7(hL:Kc L)(h:Q (Gp (λi=>Co L i false) L.Ab.length,()) () H):Wp Y0 Hj EW (L,()) H Q X:=by apply PI;unfold Kr;refine Wd (f:=λi=>Co L i false) hL (λi hi=>Ic hi) (λi hi H R hR=>Ra hL hi ?_) h;exact hR
theorem Afk(hL:Kc L)(h:Q (Gp (λi=>Co L i true) L.Ab.length,()) () H):Wp Y0 G5 E9 (L,()) H Q X:=by apply ON;unfold JT;refine Wd (f:=λi=>Co L i true) hL (λi hi=>Ic hi) (λi hi H R hR=>TY hL hi ?_) h;exact hR
def bitsOf(L:Ad)(s:List Int)(i:Nat):List Bool:=(List.range ((L.Bits[i]?).getD 0).toNat).map λ(j:Nat)=>X4 (FF L i (s.getD i 0)) j
theorem Nw{s:List Int}{i:Nat}(hi:i<L.Bits.length):(bitsOf L s i).length=L.Bits[i].toNat:=by unfold bitsOf;rw[List.getElem?_eq_getElem hi];simp
theorem Ald{i:Nat}{n:Int}(hi:i<L.Ab.length):FF L i n=n-Eg L.Ab[i]:=by
 unfold FF;rw[List.getElem?_eq_getElem hi];show (if L.Ab[i].Bool=true then n else n-L.Ab[i].Lo)=_;by_cases hb:L.Ab[i].Bool=true
 .rw[if_pos hb,Qe hb,Int.sub_zero]
 .rw[if_neg hb,Qc hb]
theorem Ajh{v:A7}{Q:Int×Unit->UU}(h:Q (Eg v,()) () H):Wp Y0 Wa R5 (v,()) H Q X:=by apply Ans;unfold Acj;exact⟨λhb=>by rw[Qe hb]at h;exact h,λhb=>by rw[Qc hb]at h;exact h⟩
theorem Asq{s:List Int}{Q:List Bool×Int×Unit->UU}(hL:Ml L)(hx:¬IsV L.Ab s->Q ([],21,()) () H)(h:IsV L.Ab s->Q (Gp (bitsOf L s) L.Ab.length,0,()) () H):Wp Y0 IH Gh (L,s,()) H Q X:=by
 apply Sy;unfold LC;have hln:=hL.ln;have hlb:=hL.lb;refine YC (by show L.Ab.length<=1000;omega) λt ht=>⟨λhn=>hx λhh=>hn (ht.2 hh),λhn _=>?_⟩
 have hs:IsV L.Ab s:=ht.1 (Classical.not_not.1 hn);have hsl:=hs.1;refine⟨λn z=>n=L.Ab.length-z.2.1/\z.2.1<=L.Ab.length/\z.1=Gp (bitsOf L s) z.2.1,⟨_,rfl,rfl,Nat.zero_le _,rfl⟩,?_⟩;rintro n ⟨x,i,_⟩ ⟨hn0,hi0,hx0⟩;have hnn:n=L.Ab.length-i:=hn0;have hi:i<=L.Ab.length:=hi0;have hxx:x=Gp (bitsOf L s) i:=hx0;clear hn0 hi0 hx0;have hc:=JU (f:=bitsOf L s) hL.toKc (λi hi=>Nw hi) (k:=i) (by omega);have JQ:=(hL.toKc.sum (k:=i) (by omega)).2;refine⟨λhlt0 _=>?_,λhge0=>?_⟩
 .have hlt:i<L.Ab.length:=hlt0;have hib:i<L.Bits.length:=by omega
  have his:i<s.length:=by omega
  obtain⟨f1,f2,f3,f4⟩:=hL.fit i hlt hib;obtain⟨v1,v2⟩:=hs.2 i hlt his;have hb0:=hL.b0 i hib;obtain⟨d,hd⟩:=Int.eq_ofNat_of_zero_le (show 0<=s[i]-Eg L.Ab[i] by omega);have h30:(2:Nat)^L.Bits[i].toNat<=2^30:=Nat.pow_le_pow_right (by omega) (by omega);have hd30:d<1073741824:=by
   have:(d:Int)<((2^L.Bits[i].toNat:Nat):Int):=by rw[<-hd,<-N6];omega
   have:=Int.ofNat_lt.1 this;exact Nat.lt_of_lt_of_le this h30
  have hsay:FF L i (s.getD i 0)=(d:Int):=by rw[Ald hlt,List.getD_eq_getElem?_getD,List.getElem?_eq_getElem his];exact hd
  refine⟨hlt,λ_=>⟨his,Ajh λ_ _=>⟨AG.2 (by show _<=s[i]-Eg L.Ab[i]/\s[i]-Eg L.Ab[i]<=_;omega),λ_=>⟨hib,λm z=>m=L.Bits[i].toNat-z.2.2.1/\z.2.2.1<=L.Bits[i].toNat/\z.1=Gp (bitsOf L s) i++(bitsOf L s i).take z.2.2.1/\z.2.1=((d/2^z.2.2.1:Nat):Int),⟨_,rfl,rfl,Nat.zero_le _,?_,?_⟩,?_⟩⟩⟩⟩
  .show x=_++[];rw[List.append_nil];exact hxx
  .show s[i]-Eg L.Ab[i]=_;rw[hd];simp
  rintro m ⟨y,e,j,_⟩ ⟨hm0,hj0,hy0,he0⟩;have hm:m=L.Bits[i].toNat-j:=hm0;have hj:j<=L.Bits[i].toNat:=hj0;have hy:y=Gp (bitsOf L s) i++(bitsOf L s i).take j:=hy0;have he:e=((d/2^j:Nat):Int):=he0;clear hm0 hj0 hy0 he0;have hbl:=Nw (s:=s) hib;have hq:d/2^j<=d:=Nat.div_le_self _ _;have hyl:y.length<=2000:=by rw[hy,List.length_append,List.length_take];omega
  refine⟨λhjl0 _=>?_,λhjl0=>?_⟩
  .have hjl:(j:Int)<L.Bits[i]:=hjl0;have hjb:j<(bitsOf L s i).length:=by omega
   have e1:e.tmod 2=((d/2^j%2:Nat):Int):=by rw[he];exact(Int.ofNat_tmod _ 2).symm
   have e2:e.tdiv 2=((d/2^(j+1):Nat):Int):=by rw[he,Nat.pow_succ,<-Nat.div_div_eq_div_mul];exact(Int.ofNat_tdiv _ 2).symm
   have hq2:d/2^j%2<2:=Nat.mod_lt _ (by omega);have hq3:d/2^(j+1)<=d:=Nat.div_le_self _ _;refine⟨by decide,AG.2 ?_,by show (y.length+1)*1<=_;omega,λ_=>⟨by decide,AG.2 ?_,by show j+1<=_;omega,L.Bits[i].toNat-(j+1),by omega,rfl,rfl,by show j+1<=_;omega,?_,e2⟩⟩
   .rw[e1];generalize d/2^j%2=q at hq2;omega
   .rw[e2];generalize d/2^(j+1)=q at hq3;omega
   .show y++[decide (e.tmod 2=1)]=Gp (bitsOf L s) i++(bitsOf L s i).take (j+1);rw[List.take_succ_eq_append_getElem hjb,<-List.append_assoc,<-hy];congr 2;have:(bitsOf L s i)[j]=X4 (FF L i (s.getD i 0)) j:=by simp [bitsOf]
    rw[this,hsay,W3 hd30 (by omega),e1];exact decide_eq_decide.2 (by omega)
  .have hjl:¬(j:Int)<L.Bits[i]:=hjl0;refine⟨by show i+1<=_;omega,L.Ab.length-(i+1),by omega,rfl,rfl,by show i+1<=_;omega,?_⟩;show y=Gp (bitsOf L s) (i+1);rw[hy,Ik,List.take_of_length_le (by omega)]
 .have hge:¬i<L.Ab.length:=hge0;have e:i=L.Ab.length:=by omega
  subst e;show Q (x,0,()) () H;rw[hxx];exact h hs
end
theorem T6{L:Ad}(hL:Kc L){next:Bool}:∀{k:Nat},k<=L.Ab.length->Gp (λi=>Co L i next) k=(List.range (D5 L.Bits k).toNat).map λ(u:Nat)=>2*(u:Int)+if next=true then 1 else 0
 |0,_=>rfl
 |k+1,hk=>by
  have hlb:=hL.lb;have hib:k<L.Bits.length:=by omega
  have h1:=hL.sum (k:=k) (by omega);have h2:=hL.b0 k hib;rw[Ik,T6 hL (by omega)];have e:(D5 L.Bits (k+1)).toNat=(D5 L.Bits k).toNat+L.Bits[k].toNat:=by rw[Ez hib];omega
  rw[e,List.range_add,List.map_append];congr 1;apply List.ext_getElem?;intro j;by_cases hj:j<L.Bits[k].toNat
  .have hkv:k<L.Ab.length:=by omega
   have:=XK hL hkv hib hj (next:=next);show (Co L k next)[j]?=_;rw[this,List.getElem?_map,List.getElem?_map,List.getElem?_range hj];show some _=some (2*(((D5 L.Bits k).toNat+j:Nat):Int)+_);congr 2;omega
  .have hl:(Co L k next).length=L.Bits[k].toNat:=Ic hib;show (Co L k next)[j]?=_;rw[List.getElem?_eq_none (by omega),List.getElem?_eq_none (by simp;omega)]
def NU(vars:List Int)(bits:List Bool):List B0:=List.zipWith (λv y=>{Var:=v,Rg:=y}) vars bits
theorem Ai4{vars:List Int}{n:Int}:NU vars ((List.range vars.length).map λ(j:Nat)=>X4 n j)=Iv vars n:=by
 apply List.ext_getElem?;intro k;unfold NU;rw[List.getElem?_zipWith];by_cases h:k<vars.length
 .rw[Mr h,List.getElem?_eq_getElem h,List.getElem?_map,List.getElem?_range h];rfl
 .rw[List.getElem?_eq_none (l:=vars) (by omega),List.getElem?_eq_none (l:=Iv vars n) (by rw[Mq];omega)]
theorem Amw{v1 v2:List Int}{b1 b2:List Bool}(h:v1.length=b1.length):NU (v1++v2) (b1++b2)=NU v1 b1++NU v2 b2:=by unfold NU;exact List.zipWith_append h
theorem Abz{L:Ad}(hL:Kc L){s:List Int}{next:Bool}:∀{k:Nat},k<=L.Ab.length->NU (Gp (λi=>Co L i next) k) (Gp (bitsOf L s) k)=Gp (λi=>Iv (Co L i next) (FF L i (s.getD i 0))) k
 |0,_=>rfl
 |k+1,hk=>by
  have hlb:=hL.lb;have hib:k<L.Bits.length:=by omega
  have h1:=JU (f:=λi=>Co L i next) hL (λi hi=>Ic hi) (k:=k) (by omega);have h2:=JU (f:=bitsOf L s) hL (λi hi=>Nw hi) (k:=k) (by omega);rw[Ik,Ik,Ik,Amw (by omega),Abz hL (by omega)];congr 1;have e:bitsOf L s k=(List.range (Co L k next).length).map λ(j:Nat)=>X4 (FF L k (s.getD k 0)) j:=by rw[Ic hib];unfold bitsOf;rw[List.getElem?_eq_getElem hib];rfl
  rw[e];exact Ai4
def stF(L:Ad)(s:List Int)(next:Bool):B.Fn:=Et (Gp (λi=>Iv (Co L i next) (FF L i (s.getD i 0))) L.Ab.length)
theorem Apv{L:Ad}(hL:Ml L){s:List Int}{next:Bool}(hs:IsV L.Ab s){a:B.As}:stF L s next a=true↔∀i(_:i<L.Ab.length)(h':i<s.length),Kq L next i a=some s[i]:=by
 unfold stF;rw[GV];have one:∀i(hi:i<L.Ab.length)(h':i<s.length),(Kq L next i a=some s[i]↔∀t∈Iv (Co L i next) (FF L i (s.getD i 0)),a t.Var=t.Rg):=λi hi h'=>by
  have hsd:s.getD i 0=s[i]:=by rw[List.getD_eq_getElem?_getD,List.getElem?_eq_getElem h'];rfl
  rw[MC hL hi,<-GV,hsd];exact⟨λhh=>hh.2,λhh=>⟨hs.2 i hi h',hh⟩⟩
 have hsl:=hs.1;constructor
 .intro hh i hi h';exact(one i hi h').2 λt ht=>hh t (by unfold Gp;exact List.mem_flatMap.2 ⟨i,List.mem_range.2 hi,ht⟩)
 .intro hh t ht;unfold Gp at ht;obtain⟨i,hi,ht⟩:=List.mem_flatMap.1 ht;have hi:=List.mem_range.1 hi;exact(one i hi (by omega)).1 (hh i hi (by omega)) t ht
theorem Aq1{b:Nat}{M:Mn}{vars:List Int}{bits:List Bool}{H:HY}{X:PX}{Q:Int×Int×Unit->UU}(hM:MG H b M)(hn:M.nx<576460752303423487)(hl:M.hs.length<=60000)(hlen:vars.length=bits.length)(hle:bits.length<=1000)(hv:∀v∈vars,0<=v/\v<M.S.n)(hd:vars.Nodup)(hq:∀M' H',MG H' b M'->New M M' (Et (NU vars bits))->Kd b M H H'->Q (M.nx,0,()) () H'):∃(V:Nat->List Int×List B0×List Bool×Nat×Unit->HP),(∃(n:Nat),V n (vars,List.replicate (↑bits.length:Int).toNat {Var:=(0:Int),Rg:=false:B0},bits,0,()) H)/\∀(n:Nat)(x:List Int×List B0×List Bool×Nat×Unit)(H:HY),V n x H->(x.2.2.2.1<bits.length->x.2.2.2.1<=9223372036854775807->∃(_:x.2.2.2.1<x.2.2.1.length),∃(h:x.2.2.2.1<x.2.2.1.length),x.2.2.2.1<=9223372036854775807->∃(_:x.2.2.2.1<x.1.length),∃(h_2:x.2.2.2.1<x.1.length),x.2.2.2.1<=9223372036854775807->∃(_:x.2.2.2.1<x.2.1.length),x.2.2.2.1<x.2.1.length/\x.2.2.2.1+1<=9223372036854775807/\∃(m:Nat),m<n/\V m (x.1,x.2.1.set x.2.2.2.1 {Var:=x.1[x.2.2.2.1],Rg:=x.2.2.1[x.2.2.2.1]:B0},x.2.2.1,x.2.2.2.1+1,()) H)/\(¬x.2.2.2.1<bits.length->Wp Y0 HW Gv (some b,x.2.1,()) H (λ(b:Int×Int×Unit)_ H'=>Q (b.1,b.2.1,()) () H') X):=by
 refine⟨λn z H1=>H1=H/\n=bits.length-z.2.2.2.1/\z.2.2.2.1<=bits.length/\z.1=vars/\z.2.2.1=bits/\z.2.1.length=bits.length/\∀j(h:j<z.2.1.length),j<z.2.2.2.1->(z.2.1)[j]?=(NU vars bits)[j]?,⟨_,rfl,rfl,Nat.zero_le _,rfl,rfl,by simp,λj _ hj=>absurd hj (Nat.not_lt_zero _)⟩,?_⟩;rintro n ⟨vs,ls,bs,i,_⟩ H1 ⟨rfl,hn0,hi0,hv0,hb0,hl0,ha0⟩;have hnn:n=bits.length-i:=hn0;have hi:i<=bits.length:=hi0;have hvs:vs=vars:=hv0;have hbs:bs=bits:=hb0;have hls:ls.length=bits.length:=hl0;have ha:∀j(h:j<ls.length),j<i->ls[j]?=(NU vars bits)[j]?:=ha0;clear hn0 hi0 hv0 hb0 hl0 ha0;subst hvs hbs;refine⟨λhlt0 _=>?_,λhge0=>?_⟩
 .have hlt:i<bs.length:=hlt0;have hiv:i<vs.length:=by omega
  have hil:i<ls.length:=by omega
  refine⟨hlt,hlt,λ_=>⟨hiv,hiv,λ_=>⟨hil,hil,by show i+1<=_;omega,bs.length-(i+1),by omega,rfl,rfl,by show i+1<=_;omega,rfl,rfl,?_,λj h1 h2=>?_⟩⟩⟩
  .show (ls.set i _).length=_;rw[List.length_set];exact hls
  .have h2:j<i+1:=h2;have h1:j<(ls.set i {Var:=vs[i],Rg:=bs[i]:B0}).length:=h1;rw[List.length_set]at h1;show (ls.set i {Var:=vs[i],Rg:=bs[i]:B0})[j]?=_;by_cases e:j=i
   .subst e;rw[List.getElem?_set_self hil];unfold NU;rw[List.getElem?_zipWith,List.getElem?_eq_getElem hiv,List.getElem?_eq_getElem hlt]
   .rw[List.getElem?_set_ne (by omega)];exact ha j h1 (by omega)
 .have hge:¬i<bs.length:=hge0;have e:ls=NU vs bs:=by
   apply List.ext_getElem?;intro j;by_cases hj:j<ls.length
   .exact ha j hj (by omega)
   .have:(NU vs bs).length=bs.length:=by unfold NU;rw[List.length_zipWith];omega
    rw[List.getElem?_eq_none (by omega),List.getElem?_eq_none (by omega)]
  subst e;have hvar:(NU vs bs).map (·.Var)=vs:=by
   apply List.ext_getElem?;intro j;unfold NU;rw[List.getElem?_map,List.getElem?_zipWith];by_cases hj:j<vs.length
   .rw[List.getElem?_eq_getElem hj,List.getElem?_eq_getElem (by omega:j<bs.length)];rfl
   .rw[List.getElem?_eq_none (by omega)];rfl
  have hle2:(NU vs bs).length<=1000:=by unfold NU;rw[List.length_zipWith];omega
  refine Ub hM hn hl hle2 (λt ht=>hv t.Var ?_) (by rw[hvar];exact hd) hq;rw[<-hvar];exact List.mem_map_of_mem ht
theorem Wz{b:Nat}{M:Mn}{L:Ad}{s:List Int}{next:Bool}{H:HY}{X:PX}{Q:Int×Int×Unit->UU}(hM:MG H b M)(hn:M.nx<576460752303423487)(hl:M.hs.length<=60000)(hL:Ml L)(hfit:2*DP L<=M.S.n)(hx:∀H',MG H' b M->¬IsV L.Ab s->Q (0,21,()) () H')(hq:IsV L.Ab s->∀M' H',MG H' b M'->New M M' (stF L s next)->Q (M.nx,0,()) () H'):Wp Y0 Mh Jz (some b,L,s,next,()) H Q X:=by
 apply X2;unfold Qv;refine Ln hM hL.toKc (λhlt=>absurd hlt (by omega)) λ_ wb H1 hwb w f1=>⟨λhh=>absurd rfl hh,λ_=>?_⟩
 have hM1:MG H1 b M:=w.mg;refine Asq hL (λhs=>⟨λ_=>hx H1 hM1 hs,λhh=>absurd (show ¬(21:Int)=0 by decide) hh⟩) λhs=>⟨λhh=>absurd rfl hh,λ_=>?_⟩
 have hlb:=hL.lb;have hln:=hL.ln;have hsm:=(hL.toKc.sum (Nat.le_refl _)).2;have b1:=JU (f:=bitsOf L s) hL.toKc (λi hi=>Nw hi) (k:=L.Ab.length) (by omega);have v1:=λ(nx:Bool)=>JU (f:=λi=>Co L i nx) hL.toKc (λi hi=>Ic hi) (k:=L.Ab.length) (by omega);have tot:D5 L.Bits L.Ab.length=DP L:=by unfold DP;rw[hlb]
 rw[tot]at b1;have tot1:DP L<=1920:=by unfold DP;omega
 have tot0:=(hL.toKc.sum (Nat.le_refl _)).1;have hbl:(Gp (bitsOf L s) L.Ab.length).length<=1000:=by have:=hM.n8;omega
 have go:∀nx:Bool,nx=next->∀H2,MG H2 b M->_:=λnx hnx H2 hM2=>Aq1 (X:=X) (Q:=Q) (vars:=Gp (λi=>Co L i nx) L.Ab.length) (bits:=Gp (bitsOf L s) L.Ab.length) hM2 hn hl (by have:=v1 nx;rw[tot]at this;omega) hbl
  (λv hv=>by rw[T6 hL.toKc (Nat.le_refl _),tot]at hv;obtain⟨u,hu,rfl⟩:=List.mem_map.1 hv;have hu:=List.mem_range.1 hu;show 0<=2*(u:Int)+(if nx=true then 1 else 0)/\2*(u:Int)+(if nx=true then 1 else 0)<M.S.n;split<;>omega)
  (by rw[T6 hL.toKc (Nat.le_refl _)];refine List.Pairwise.map _ ?_ (List.nodup_range);intro x y PH h;have h:2*(x:Int)+(if nx=true then 1 else 0)=2*(y:Int)+(if nx=true then 1 else 0):=h;omega)
  (λM' H' g nw _=>by rw[Abz hL.toKc (Nat.le_refl _)]at nw;subst hnx;exact hq hs M' H' g nw)
 have hb16:(↑(Gp (bitsOf L s) L.Ab.length).length:Int).toNat*16<=281474976710656:=by omega
 refine Aj7 hL.toKc ⟨λhnx=>Afk hL.toKc λ_ _ _=>⟨Int.natCast_nonneg _,rfl,hb16,λ_=>go true hnx.symm H1 hM1⟩,λhnx _ _ _=>⟨Int.natCast_nonneg _,rfl,hb16,λ_=>go false (by cases next<;>simp_all) H1 hM1⟩⟩
abbrev R4:Bs:=⟨[.own I6,.dat I6],[.dat I6]⟩
def sgO:FuncId->Option Bs:=lkG ((173,R4)::sgL)
section
set_option maxRecDepth 100000
set_option maxHeartbeats 2000000
def RF(l:List Int)(H:HY)(Q:Bool×Unit->UU)(X:PX):=∃(V:Nat->Nat×Unit->Prop),(∃(n:Nat),H=H/\V n (0,()))/\∀n x,V n x->l.length<=9223372036854775807->(x.1<l.length->l.length<=9223372036854775807->∃(V1:Nat->List Bool×Nat×Unit->Prop),(∃(n:Nat),H=H/\V1 n (List.replicate 64 false,0,()))/\∀n1 x1,V1 n1 x1->(x1.2.1<l.length->x1.2.1<=9223372036854775807->∃(h:x1.2.1<l.length),(l[x1.2.1]<0->Q (false,()) () H)/\(¬l[x1.2.1]<0->l.length<=9223372036854775807->((↑l.length:Int)<=l[x1.2.1]->Q (false,()) () H)/\(¬(↑l.length:Int)<=l[x1.2.1]->Ag .i64 l[x1.2.1]->x.1<=9223372036854775807->Ag .i64 (l[x1.2.1]-(↑x.1:Int))/\(0<=l[x1.2.1]-(↑x.1:Int)->(l[x1.2.1]-(↑x.1:Int)<64->Ag .i64 (l[x1.2.1]-(↑x.1:Int))->(Ag .i64 (l[x1.2.1]-(↑x.1:Int))->0<=l[x1.2.1]-(↑x.1:Int))/\∃(h1:(l[x1.2.1]-(↑x.1:Int)).toNat<64),∃(h2:(l[x1.2.1]-(↑x.1:Int)).toNat<x1.1.length),(x1.1[(l[x1.2.1]-(↑x.1:Int)).toNat]=true->Q (false,()) () H)/\(¬x1.1[(l[x1.2.1]-(↑x.1:Int)).toNat]=true->Ag .i64 (l[x1.2.1]-(↑x.1:Int))->(Ag .i64 (l[x1.2.1]-(↑x.1:Int))->0<=l[x1.2.1]-(↑x.1:Int))/\∃(h3:(l[x1.2.1]-(↑x.1:Int)).toNat<64),(l[x1.2.1]-(↑x.1:Int)).toNat<x1.1.length/\x1.2.1+1<=9223372036854775807/\∃m,m<n1/\H=H/\V1 m (x1.1.set (l[x1.2.1]-(↑x.1:Int)).toNat true,x1.2.1+1,())))/\(¬l[x1.2.1]-(↑x.1:Int)<64->x1.2.1+1<=9223372036854775807/\∃m,m<n1/\H=H/\V1 m (x1.1,x1.2.1+1,())))/\(¬0<=l[x1.2.1]-(↑x.1:Int)->x1.2.1+1<=9223372036854775807/\∃m,m<n1/\H=H/\V1 m (x1.1,x1.2.1+1,())))))/\(¬x1.2.1<l.length->x.1+64<=9223372036854775807/\∃m,m<n/\H=H/\V m (x.1+64,())))/\(¬x.1<l.length->Q (true,()) () H)
theorem Zi l H Q X(h_:RF l H Q X):Wp Y0 K5 I1 (l,()) H Q X:=wF Tryz.f274 {lp:=[(6,⟨[(4,.arr .bool),(16,.nat)],[0,3,14,15],false⟩),(2,⟨[(3,.nat)],[0],false⟩)]} h_
def RC(l:List Int)(H:HY)(Q:List Int×Unit->UU)(X:PX):=l.length<=9223372036854775807->l.length<=9223372036854775807->l.length<=9223372036854775807->(0:Int)<=(↑l.length:Int)/\(↑l.length:Int)=(↑l.length:Int)/\(↑l.length:Int).toNat*8<=281474976710656/\0<=(List.replicate (↑l.length:Int).toNat (0:Int)).length/\Q (List.take 0 (List.replicate (↑l.length:Int).toNat (0:Int))++(List.take (min l.length ((List.replicate (↑l.length:Int).toNat (0:Int)).length-0)) l++List.drop (0+min l.length ((List.replicate (↑l.length:Int).toNat (0:Int)).length-0)) (List.replicate (↑l.length:Int).toNat (0:Int))),()) () H
theorem Zg l H Q X(h_:RC l H Q X):Wp Y0 K3 Iy (l,()) H Q X:=wF Tryz.f275 {} h_
def TP(l:List Int)(H:HY)(Q:List Int×Unit->UU)(X:PX):=Wp Y0 K3 Iy (l,()) H (λ(b:List Int×Unit)_ G=>Wp Y0 EJ D6 (b.1,()) G (λ(b:Unit)(io:List Int×Unit)(G:HY)=>Q (io.1,()) () G) X) X
theorem Abc l H Q X(h_:TP l H Q X):Wp Y0 OH L1 (l,()) H Q X:=wF Tryz.f258 {} h_
def Hl(s:List Int)(H:HY)(Q:Unit->List Int×Unit->HP)(X:PX):=s.length<=9223372036854775807->s.length<=9223372036854775807->Ag .i64 ((↑s.length:Int)-1)/\∃(V:Nat->List Int×Nat×Int×Unit->Prop),(∃(n:Nat),H=H/\V n (s,0,(↑s.length:Int)-1,()))/\∀n x,V n x->((↑x.2.1:Int)<x.2.2.1->Ag .i64 x.2.2.1->(Ag .i64 x.2.2.1->0<=x.2.2.1)/\∃(h:x.2.2.1.toNat<x.1.length),∃(h:x.2.2.1.toNat<x.1.length),x.2.1<=9223372036854775807->∃(h1:x.2.1<x.1.length),∃(h2:x.2.1<x.1.length),x.2.1<=9223372036854775807->∃(h3:x.2.1<x.1.length),x.2.1<x.1.length/\(Ag .i64 x.2.2.1->(Ag .i64 x.2.2.1->0<=x.2.2.1)/\∃(h4:x.2.2.1.toNat<(x.1.set x.2.1 x.1[x.2.2.1.toNat]).length),x.2.2.1.toNat<(x.1.set x.2.1 x.1[x.2.2.1.toNat]).length/\x.2.1+1<=9223372036854775807/\(Ag .i64 x.2.2.1->Ag .i64 (x.2.2.1-1)/\∃m,m<n/\H=H/\V m ((x.1.set x.2.1 x.1[x.2.2.1.toNat]).set x.2.2.1.toNat x.1[x.2.1],x.2.1+1,x.2.2.1-1,()))))/\(¬(↑x.2.1:Int)<x.2.2.1->Q () (x.1,()) H)
theorem LP s H Q X(h_:Hl s H Q X):Wp Y0 EJ D6 (s,()) H Q X:=wF Tryz.f276 {lp:=[(1,⟨[(0,.one (.own I6)),(2,.nat),(3,.one (.dat I6))],[0],false⟩)]} h_
def Ab6(s:List Int)(v:Int)(H:HY)(Q:Int×Unit->List Int×Unit->HP)(X:PX):=s.length<=9223372036854775807->∃(V:Nat->List Int×Int×Unit->Prop),(∃(n:Nat),H=H/\V n (s,0,()))/\∀n x,V n x->(x.2.1<(↑s.length:Int)->Ag .i64 x.2.1->(Ag .i64 x.2.1->0<=x.2.1)/\∃(h:x.2.1.toNat<x.1.length),∃(h:x.2.1.toNat<x.1.length),(v=x.1[x.2.1.toNat]->Q (x.2.1,()) (x.1,()) H)/\(¬v=x.1[x.2.1.toNat]->Ag .i64 x.2.1->Ag .i64 (x.2.1+1)/\∃m,m<n/\H=H/\V m (x.1,x.2.1+1,())))/\(¬x.2.1<(↑s.length:Int)->Q (-1,()) (x.1,()) H)
theorem Am9(s:List Int)(v:Int)(H:HY)(Q:Int×Unit->List Int×Unit->HP)(X:PX)(hyp_:Ab6 s v H Q X):Wp Y0 C0 R4 (s,v,()) H Q X:=by refine UK (sigs:=sgO) (NY:=QT) (pf:=pfT) (F:=Tryz.f173) (n:={lp:=[(2,⟨[(0,.one (.own I6)),(8,.one (.dat I6))],[0,1,7],false⟩)],pr:=[],im:=[]}) (by kernel_rfl) (mpF hyp_ _ ?_);kernel_rfl
def RE(a b:List Int)(H:HY)(Q:List Int×Int×Unit->UU)(X:PX):=Wp Y0 K5 I1 (a,()) H (λ(b1:Bool×Unit)_ G=>(¬b1.1=true->Q ([],1,()) () G)/\(¬¬b1.1=true->Wp Y0 K5 I1 (b,()) G (λ(b2:Bool×Unit)_ G=>(¬b2.1=true->Q ([],1,()) () G)/\(¬¬b2.1=true->a.length<=9223372036854775807->b.length<=9223372036854775807->(¬a.length=b.length->Q ([],3,()) () G)/\(¬¬a.length=b.length->Wp Y0 K3 Iy (a,()) G (λ(b3:List Int×Unit)_ G=>b.length<=9223372036854775807->∃(V:Nat->List Int×List Int×Nat×Unit->Prop),(∃(n:Nat),G=G/\V n ([],b3.1,0,()))/\∀n x,V n x->(x.2.2.1<b.length->x.2.2.1<=9223372036854775807->∃(h:x.2.2.1<b.length),Wp Y0 C0 R4 (x.2.1,b[x.2.2.1],()) G (λ(b:Int×Unit)(io:List Int×Unit)(H'_1:HY)=>∃(V1:Nat->List Int×List Int×Int×Unit->Prop),(∃(n:Nat),H'_1=H'_1/\V1 n (x.1,io.1,b.1,()))/\∀n1 x1,V1 n1 x1->((↑x.2.2.1:Int)<x1.2.2.1->Ag .i64 x1.2.2.1->Ag .i64 (x1.2.2.1-1)/\(Ag .i64 x1.2.2.1->(Ag .i64 x1.2.2.1->0<=x1.2.2.1)/\∃(h:x1.2.2.1.toNat<x1.2.1.length),∃(h:x1.2.2.1.toNat<x1.2.1.length),Ag .i64 x1.2.2.1->Ag .i64 (x1.2.2.1-1)/\(Ag .i64 (x1.2.2.1-1)->(Ag .i64 (x1.2.2.1-1)->0<=x1.2.2.1-1)/\∃(h1:(x1.2.2.1-1).toNat<x1.2.1.length),∃(h2:(x1.2.2.1-1).toNat<x1.2.1.length),Ag .i64 (x1.2.2.1-1)->(Ag .i64 (x1.2.2.1-1)->0<=x1.2.2.1-1)/\∃(h3:(x1.2.2.1-1).toNat<x1.2.1.length),(x1.2.2.1-1).toNat<x1.2.1.length/\(Ag .i64 x1.2.2.1->(Ag .i64 x1.2.2.1->0<=x1.2.2.1)/\∃(h4:x1.2.2.1.toNat<(x1.2.1.set (x1.2.2.1-1).toNat x1.2.1[x1.2.2.1.toNat]).length),x1.2.2.1.toNat<(x1.2.1.set (x1.2.2.1-1).toNat x1.2.1[x1.2.2.1.toNat]).length/\(Ag .i64 x1.2.2.1->Ag .i64 (x1.2.2.1-1)/\(x1.1.length+[x1.2.2.1-1].length)*(8:Nat)<=(140737488355328:Nat)/\(Ag .i64 x1.2.2.1->Ag .i64 (x1.2.2.1-1)/\∃m,m<n1/\H'_1=H'_1/\V1 m (x1.1++[x1.2.2.1-1],(x1.2.1.set (x1.2.2.1-1).toNat x1.2.1[x1.2.2.1.toNat]).set x1.2.2.1.toNat x1.2.1[(x1.2.2.1-1).toNat],x1.2.2.1-1,())))))))/\(¬(↑x.2.2.1:Int)<x1.2.2.1->x.2.2.1+1<=9223372036854775807/\∃m,m<n/\H'_1=G/\V m (x1.1,x1.2.1,x.2.2.1+1,()))) X)/\(¬x.2.2.1<b.length->Q (x.1,0,()) () G)) X))) X)) X
theorem Zh(a b:List Int)(H:HY)(Q:List Int×Int×Unit->UU)(X:PX)(hyp_:RE a b H Q X):Wp Y0 K4 Iz (a,b,()) H Q X:=by refine UK (sigs:=sgO) (NY:=QT) (pf:=pfT) (F:=Tryz.f257) (n:={lp:=[(11,⟨[(6,.one (.own I6)),(7,.one (.own I6)),(10,.one (.dat I6))],[7,8,28,29,30],false⟩),(8,⟨[(6,.one (.own I6)),(7,.one (.own I6)),(30,.nat)],[7,28,29],false⟩)],pr:=[],im:=[]}) (by kernel_rfl) (mpF hyp_ _ ?_);kernel_rfl
end
section
variable {H:HY} {X:PX}
theorem Acw{l:List Int}{Q:List Int×Unit->UU}(hl:l.length<=1000)(h:Q (l,()) () H):Wp Y0 K3 Iy (l,()) H Q X:=by
 apply Zg;unfold RC;intro _ _ _;have e:(List.take 0 (List.replicate (↑l.length:Int).toNat (0:Int))++(List.take (min l.length ((List.replicate (↑l.length:Int).toNat (0:Int)).length-0)) l++List.drop (0+min l.length ((List.replicate (↑l.length:Int).toNat (0:Int)).length-0)) (List.replicate (↑l.length:Int).toNat (0:Int))))=l:=by simp
 refine⟨by omega,rfl,by show l.length*8<=_;omega,Nat.zero_le _,?_⟩;rw[e];exact h
theorem Ad8{s:List Int}{Q:Unit->List Int×Unit->HP}(hl:s.length<=1000)(h:∀l:List Int,l.length=s.length->Q () (l,()) H):Wp Y0 EJ D6 (s,()) H Q X:=by
 apply LP;unfold Hl;refine λ_ _=>⟨AG.2 (by omega),λn z=>n=s.length-z.2.1/\z.1.length=s.length/\z.2.1<=s.length/\(z.2.1:Int)+z.2.2.1=s.length-1,⟨_,rfl,rfl,rfl,Nat.zero_le _,by show ((0:Nat):Int)+((s.length:Int)-1)=_;omega⟩,?_⟩
 rintro n ⟨l,i,j,_⟩ ⟨hn0,hl0,hi0,hj0⟩;have hn:n=s.length-i:=hn0;have hll:l.length=s.length:=hl0;have hi:i<=s.length:=hi0;have hj:(i:Int)+j=s.length-1:=hj0;clear hn0 hl0 hi0 hj0;refine⟨λhlt0 _=>?_,λ_=>h l hll⟩;have hlt:(i:Int)<j:=hlt0;have hjl:j.toNat<l.length:=by omega
 have hil:i<l.length:=by omega
 have hjs:j.toNat<(l.set i l[j.toNat]).length:=by rw[List.length_set];exact hjl
 refine⟨λ_=>by show 0<=j;omega,hjl,hjl,λ_=>⟨hil,hil,λ_=>⟨hil,hil,λ_=>⟨λ_=>by show 0<=j;omega,hjs,hjs,by show i+1<=_;omega,λ_=>⟨AG.2 (by show _<=j-1/\j-1<=_;omega),s.length-(i+1),by omega,rfl,rfl,?_,by show i+1<=_;omega,by show ((i+1:Nat):Int)+(j-1)=_;omega⟩⟩⟩⟩⟩;show ((l.set i _).set j.toNat _).length=_;rw[List.length_set,List.length_set];exact hll
theorem Aaz{l:List Int}{Q:Bool×Unit->UU}(hl:l.length<=1000)(h:∀t:Bool,Q (t,()) () H):Wp Y0 K5 I1 (l,()) H Q X:=by
 apply Zi;unfold RF;refine⟨λn z=>n=l.length+64-z.1/\z.1<=l.length+64,⟨_,rfl,rfl,Nat.zero_le _⟩,?_⟩;rintro n ⟨b,_⟩ ⟨hn0,hb0⟩;have hn:n=l.length+64-b:=hn0;have hb:b<=l.length+64:=hb0;clear hn0 hb0;intro _;refine⟨λhlt0 _=>?_,λ_=>h true⟩;have hlt:b<l.length:=hlt0;refine⟨λn z=>n=l.length-z.2.1/\z.2.1<=l.length/\z.1.length=64,⟨_,rfl,rfl,Nat.zero_le _,rfl⟩,?_⟩;rintro m ⟨x,i,_⟩ ⟨hm0,hi0,hx0⟩;have hm:m=l.length-i:=hm0;have hi:i<=l.length:=hi0;have hx:x.length=64:=hx0;clear hm0 hi0 hx0;refine⟨λhil0 _=>?_,λ_=>⟨by show b+64<=_;omega,l.length+64-(b+64),by omega,rfl,rfl,by show b+64<=_;omega⟩⟩;have hil:i<l.length:=hil0;have nxt:∀y:List Bool,y.length=64->i+1<=9223372036854775807/\∃m',m'<m/\H=H/\m'=l.length-(i+1)/\i+1<=l.length/\y.length=64:=λy hy=>⟨by omega,l.length-(i+1),by omega,rfl,rfl,by omega,hy⟩
 refine⟨hil,λ_=>h false,λh0 _=>⟨λ_=>h false,λh1 _ _=>⟨AG.2 ?_,λh2=>⟨λh3 _=>⟨λ_=>h2,?_⟩,λ_=>nxt x hx⟩,λ_=>nxt x hx⟩⟩⟩
 .have h0:¬l[i]<0:=h0;have h1:¬(l.length:Int)<=l[i]:=h1;show _<=l[i]-(b:Int)/\l[i]-(b:Int)<=_;omega
 .have h2:0<=l[i]-(b:Int):=h2;have h3:l[i]-(b:Int)<64:=h3;have h4:(l[i]-(b:Int)).toNat<64:=by omega
  have h5:(l[i]-(b:Int)).toNat<x.length:=by omega
  exact⟨h4,h5,λ_=>h false,λ_ _=>⟨λ_=>h2,h4,h5,nxt _ (by show (x.set _ true).length=64;rw[List.length_set];exact hx)⟩⟩
theorem Ajb{s:List Int}{v:Int}{Q:Int×Unit->List Int×Unit->HP}(hl:s.length<=1000)(h:∀i:Int,-1<=i->i<s.length->Q (i,()) (s,()) H):Wp Y0 C0 R4 (s,v,()) H Q X:=by
 apply Am9;unfold Ab6;refine λ_=>⟨λn z=>n=s.length-z.2.1.toNat/\z.1=s/\0<=z.2.1/\z.2.1<=s.length,⟨_,rfl,rfl,rfl,by show (0:Int)<=0;omega,by show (0:Int)<=_;omega⟩,?_⟩
 rintro n ⟨l,i,_⟩ ⟨hn0,hl0,hi0,hj0⟩;have hn:n=s.length-i.toNat:=hn0;have hls:l=s:=hl0;have hi:0<=i:=hi0;have hj:i<=s.length:=hj0;clear hn0 hl0 hi0 hj0;subst hls;refine⟨λhlt0 _=>?_,λ_=>h (-1) (by omega) (by omega)⟩;have hlt:i<(l.length:Int):=hlt0;have hil:i.toNat<l.length:=by omega
 exact⟨λ_=>hi,hil,hil,λ_=>h i (by omega) hlt,λ_ _=>⟨AG.2 (by show _<=i+1/\i+1<=_;omega),l.length-(i+1).toNat,by omega,rfl,rfl,rfl,by show 0<=i+1;omega,by show i+1<=_;omega⟩⟩
theorem Ak3{a b:List Int}{Q:List Int×Int×Unit->UU}(ha:a.length<=64)(hb:b.length<=64)(h:∀l e,l.length<=1000000->Q (l,e,()) () H):Wp Y0 K4 Iz (a,b,()) H Q X:=by
 apply Zh;unfold RE;refine Aaz (by omega) λt1=>⟨λ_=>h _ _ (Nat.zero_le _),λ_=>Aaz (by omega) λt2=>⟨λ_=>h _ _ (Nat.zero_le _),λ_ _ _=>⟨λ_=>h _ _ (Nat.zero_le _),λ_=>Acw (by omega) λ_=>?_⟩⟩⟩
 refine⟨λn z=>n=b.length-z.2.2.1/\z.2.2.1<=b.length/\z.2.1.length=a.length/\z.1.length<=64*z.2.2.1,⟨_,rfl,rfl,Nat.zero_le _,rfl,Nat.zero_le _⟩,?_⟩;rintro n ⟨l,w,i,_⟩ ⟨hn0,hi0,hw0,hl0⟩;have hn:n=b.length-i:=hn0;have hi:i<=b.length:=hi0;have hw:w.length=a.length:=hw0;have hl:l.length<=64*i:=hl0;clear hn0 hi0 hw0 hl0;refine⟨λhlt0 _=>?_,λ_=>h l 0 (by omega)⟩;have hlt:i<b.length:=hlt0;refine⟨hlt,Ajb (by show w.length<=1000;omega) λat_ h1 h2=>?_⟩;have h2:at_<(w.length:Int):=h2
 refine⟨λm z=>m=z.2.2.1.toNat/\z.2.1.length=a.length/\z.2.2.1<w.length/\(z.1.length:Int)<=64*i+(64-1-z.2.2.1)/\-1<=z.2.2.1,⟨_,rfl,rfl,hw,h2,by show (l.length:Int)<=64*i+(64-1-at_);omega,h1⟩,?_⟩;rintro m ⟨l2,w2,j,_⟩ ⟨hm0,hw20,hj0,hl20,hj10⟩;have hm:m=j.toNat:=hm0;have hw2:w2.length=a.length:=hw20;have hj:j<(w.length:Int):=hj0;have hl2:(l2.length:Int)<=64*i+(64-1-j):=hl20;have hj1:-1<=j:=hj10;clear hm0 hw20 hj0 hl20 hj10;refine⟨λhji0 _=>?_,λ_=>⟨by show i+1<=_;omega,b.length-(i+1),by omega,rfl,rfl,by show i+1<=_;omega,hw2,by show l2.length<=64*(i+1);omega⟩⟩;have hji:(i:Int)<j:=hji0;have g1:j.toNat<w2.length:=by omega
 have g2:(j-1).toNat<w2.length:=by omega
 have i1:Ag .i64 (j-1):=AG.2 (by omega);have g3:j.toNat<(w2.set (j-1).toNat w2[j.toNat]).length:=by rw[List.length_set];exact g1
 refine⟨i1,λ_=>⟨λ_=>by show 0<=j;omega,g1,g1,λ_=>⟨i1,λ_=>⟨λ_=>by show 0<=j-1;omega,g2,g2,λ_=>⟨λ_=>by show 0<=j-1;omega,g2,g2,λ_=>⟨λ_=>by show 0<=j;omega,g3,g3,λ_=>⟨i1,by show (l2.length+1)*8<=_;omega,λ_=>⟨i1,(j-1).toNat,by omega,rfl,rfl,?_,by show j-1<_;omega,?_,by show -1<=j-1;omega⟩⟩⟩⟩⟩⟩⟩⟩
 .show ((w2.set _ _).set _ _).length=_;rw[List.length_set,List.length_set];exact hw2
 .show ((l2++[j-1]).length:Int)<=64*i+(64-1-(j-1));rw[List.length_append,List.length_singleton];omega
theorem At3:Aos:=by intro o H X Q ho h;apply Abc;unfold TP;refine Acw (l:=o) (by omega) (Ad8 (by show o.length<=1000;omega) λl hl=>?_);have hl:l.length=o.length:=hl;exact Ak3 ho (by show l.length<=64;omega) h
end
section
theorem Apw{v:A7}(h:Ajw v):CL v=MD v-Eg v+1:=by
 unfold CL;by_cases hb:v.Bool=true
 .rw[if_pos hb,VN hb,Qe hb];rfl
 .obtain⟨h1,h2,h3,h4⟩:=h.nu (by simpa using hb);rw[if_neg hb,if_neg (by omega),VM hb,Qc hb,Int.min_eq_left (by omega)]
variable {next:Bool}
theorem U8{l:List A7}(hv:Qz l){a:B.As}{i:Nat}(hi:i<l.length):Kq (CT l) next i a=if Tj l a next (CT l) i=true then some (rdV l a next (CT l) i) else none:=by
 have e1:rdV l a next (CT l) i=Eg l[i]+(BB a (Co (CT l) i next):Int):=by unfold rdV;rw[List.getElem?_eq_getElem hi];rfl
 have e2:Tj l a next (CT l) i=decide ((BB a (Co (CT l) i next):Int)<CL l[i]):=by unfold Tj;rw[List.getElem?_eq_getElem hi];rfl
 have e3:=Apw (hv.ok i hi);rw[e1,e2];unfold Kq;rw[show (CT l).Ab[i]?=some l[i] from List.getElem?_eq_getElem hi];show (if Eg l[i]+(BB a (Co (CT l) i next):Int)<=MD l[i] then _ else _)=_;generalize (BB a (Co (CT l) i next):Int)=c;by_cases h:Eg l[i]+c<=MD l[i]
 .rw[if_pos h,if_pos (decide_eq_true (by omega))]
 .rw[if_neg h,if_neg (by rw[decide_eq_true_iff];omega)]
theorem Ahn{x y:Bool}(h:x=y):¬(not (decide (x=true) == decide (y=true))=true):=by subst h;simp
theorem TM{a:AS}{s:List Int}{t:Bool}{b:Nat}{M:Mn}{r h:Int}{H0:HY}{X:PX}{Q:Bool×Unit->UU}(sm:Aov a)(g:MG H0 b M)(hn:M.S.n=2*Ev a.Ab)(hr:M.A9 r=some (Ia (CT a.Ab) next a.Ab.length))(ht:t=true->IsV a.Ab s/\M.A9 h=some (stF (CT a.Ab) s next))(hq:∀H',Q (true,()) () H'):∃(V:Nat->Nat×Unit->HP),(∃(n:Nat),V n (0,()) H0)/\∀(n:Nat)(x:Nat×Unit)(H:HY),V n x H->Wp Y0 Cu BN (a,()) H (λ(b_4:Int×Unit)_ H'=>
   ((↑x.1:Int)<b_4.1->Wp Y0 AY AP (some b,r,(↑x.1:Int),()) H' (λ(b_5:Bool×Unit)_ H'=>Wp Y0 Cc BD (a.Ab,(↑x.1:Int),next,()) H'
    (λ(b_6:Bool×Unit)_ H'=>(not (decide (b_5.1=true)==decide (b_6.1=true))=true->dup (Q (false,()) () H'))/\(¬not (decide (b_5.1=true)==decide (b_6.1=true))=true->(t=true->Wp Y0 AY AP
     (some b,h,(↑x.1:Int),()) H' (λ(b:Bool×Unit)_ H'=>Wp Y0 CJ Cq (a.Ab,s,(↑x.1:Int),next,()) H' (λ(b_7:Bool×Unit)_ H'=>(not (decide (b.1=true)==decide (b_7.1 =
     true))=true->Q (false,()) () H')/\(¬not (decide (b.1=true)==decide (b_7.1=true))=true->x.1+1<=(9223372036854775807:Nat)/\∃(m:Nat),m<n/\V m (x.1+1,()) H')) X) X)/\(¬t=true->dup (x.1+1<=
     (9223372036854775807:Nat)/\∃(m:Nat),m<n/\V m (x.1+1,()) H')))) X) X)/\(¬(↑x.1:Int)<b_4.1->Wp Y0 Br Bk () H' (λ(b:Bool×Unit)_ H'=>Q (b.1,()) () H') X)) X:=by
 have st:=sm.t
 have sn:=sm.n
 have hL:Ml (CT a.Ab):=ZC sm.v (by omega)
 have hN:M.S.n.toNat=(2*Ev a.Ab).toNat:=by rw[hn]
 have hsz:2^(2*Ev a.Ab).toNat<=256:=Nat.le_trans (Nat.pow_le_pow_right (by omega) (show (2*Ev a.Ab).toNat<=8 by omega)) (by decide)
 generalize hS:2^(2*Ev a.Ab).toNat=S at hsz
 have h8:M.S.n<=8:=g.n8
 refine⟨λn z H1=>H1=H0/\n=S-z.1/\z.1<=S,⟨_,rfl,rfl,Nat.zero_le _⟩,?_⟩
 rintro n ⟨k,_⟩ H1 ⟨rfl,hn0,hk0⟩
 have hnn:n=S-k:=hn0
 have hk:k<=S:=hk0
 clear hn0 hk0
 refine Apz sm ?_
 rw[hS]
 refine⟨λhlt0=>?_,λ_=>Aby λH2=>hq H2⟩
 have hlt:k<S:=Int.ofNat_lt.1 hlt0
 have nxt:k+1<=9223372036854775807/\∃m,m<n/\H1=H1/\m=S-(k+1)/\k+1<=S:=⟨by omega,S-(k+1),by omega,rfl,rfl,by omega⟩
 refine Ac1 (k:=k) g.h g.i hr h8 (by omega) (Vg (N:=M.S.n.toNat) sm.v (by omega) (by omega) (by omega) (by omega) λt6 h6=>?_)
 have e6:Ia (CT a.Ab) next a.Ab.length (IN M.S.n.toNat k)=t6:=by
  rw[Bool.eq_iff_iff,h6];have:=W4 (next:=next) (a:=IN M.S.n.toNat k) hL;rw[show (CT a.Ab).Ab=a.Ab from rfl]at this;rw[this];refine⟨λhh i hi=>?_,λhh i hi=>?_⟩
  .have h1:=hh i hi;rw[U8 sm.v hi]at h1;by_cases hb:Tj a.Ab (IN M.S.n.toNat k) next (CT a.Ab) i=true
   .exact hb
   .rw[if_neg hb]at h1;cases h1
  .rw[U8 sm.v hi,if_pos (hh i hi)];rfl
 refine⟨λhb=>absurd hb (Ahn e6),λ_=>⟨λhtt=>?_,λ_=>Wh nxt⟩⟩
 obtain⟨hs,hm⟩:=ht htt
 refine Ac1 (k:=k) g.h g.i hm h8 (by omega) (Aa4 (N:=M.S.n.toNat) sm.v (by omega) (by omega) (by omega) (by omega) hs.1 λt7 h7=>?_)
 have e7:stF (CT a.Ab) s next (IN M.S.n.toNat k)=t7:=by
  rw[Bool.eq_iff_iff,h7,Apv hL hs];refine⟨λhh i hi h'=>?_,λhh i hi h'=>?_⟩
  .have h1:=hh i hi h';rw[U8 sm.v hi]at h1;by_cases hb:Tj a.Ab (IN M.S.n.toNat k) next (CT a.Ab) i=true
   .rw[if_pos hb]at h1;exact⟨hb,Option.some.inj h1⟩
   .rw[if_neg hb]at h1;cases h1
  .rw[U8 sm.v hi,if_pos (hh i hi h').1,(hh i hi h').2]
 exact⟨λhb=>absurd hb (Ahn e7),λ_=>nxt⟩
theorem W9{a:AS}{s:List Int}{H:HY}{X:PX}{Q:Bool×Unit->UU}(hl:a.Ab.length<=1000000000000000)(h:∀H',Q (true,()) () H'):Wp Y0 Gk DR (a,s,next,()) H Q X:=by
 apply Kv;unfold Ge;have lv:∀{H':HY},Wp Y0 Br Bk () H' (λ(b:Bool×Unit)_ H'=>Q (b.1,()) () H') X:=λ{H'}=>Aby λH2=>h H2;refine Aou hl λt0 hs=>⟨λ_=>lv,λhs' _=>⟨λ_=>lv,λh20=>?_⟩⟩
 have sm:=hs (Classical.not_not.1 hs');have st:=sm.t;have sn:=sm.n;have hL:Ml (CT a.Ab):=ZC sm.v (by omega);have hL':(CT a.Ab).Ab=a.Ab:=rfl;refine Ac8 sm λb M H1 mn mi mv ws rm nm=>⟨λhn=>absurd rfl hn,λ_=>?_⟩
 have hn0:M.S.n=2*Ev a.Ab:=nm.n;have g:MG H1 b M:=⟨mn,mi,mv,λ_ _=>.inr (.inr At3),by omega,rm⟩
 have hnx:=nm.nx;have hln:=nm.ln;refine OY (L:=CT a.Ab) (next:=next) g (by omega) (by omega) hL (λhlt=>absurd hlt (by rw[We,hn0];omega)) λ_ M2 H2 r g2 got nx2 _=>?_;have n2:M2.S.n=2*Ev a.Ab:=got.bs.n.trans hn0;have hln2:=got.ln;have hr2:M2.A9 r=some (Ia (CT a.Ab) next a.Ab.length):=by have:=got.A9 r;rw[if_pos rfl]at this;exact this
 refine Wz (L:=CT a.Ab) (s:=s) (next:=next) g2 (by omega) (by omega) hL (by rw[We,n2];omega) (λH3 g3 hni=>⟨λhh=>absurd rfl hh,λ_=>TO (by show a.Ab.length<=1000;omega) λt ht=>?_⟩) λhis M3 H3 g3 nw=>⟨λhh=>absurd rfl hh,λ_=>TO (by show a.Ab.length<=1000;omega) λt ht=>?_⟩
 .have htf:¬t=true:=λhh=>hni (ht.1 hh);refine⟨λ_=>⟨λhh=>absurd rfl hh,λ_=>⟨λhh=>absurd rfl hh,λ_=>⟨λhh=>absurd hh htf,λ_=>?_⟩⟩⟩,λhh=>absurd htf hh⟩;exact TM sm g3 n2 hr2 (λhh=>absurd hh htf) h
 .have htt:t=true:=ht.2 his;have hr3:M3.A9 r=some (Ia (CT a.Ab) next a.Ab.length):=by obtain⟨x,hx,_⟩:=Mn.Fm hr2;have hlt:=(g2.i.ok _ _ hx).2.2;rw[nw.A9,if_neg (by omega)];exact hr2
  have hh3:M3.A9 M2.nx=some (stF (CT a.Ab) s next):=by rw[nw.A9,if_pos rfl]
  refine⟨λhh=>absurd htt hh,λ_=>⟨λ_=>⟨λhh=>absurd rfl hh,λ_=>?_⟩,λhh=>absurd htt hh⟩⟩;exact TM sm g3 (nw.n.trans n2) hr3 (λ_=>⟨his,hh3⟩) h
end
end Go.Proofs.YtcbkbpjlbmalmaaGreatDoor
