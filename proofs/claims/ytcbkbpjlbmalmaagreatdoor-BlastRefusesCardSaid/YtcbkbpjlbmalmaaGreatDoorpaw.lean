/-
  A translation in progress: the handles that it has created. (Merged by program out of 6 texts.)
-/
import Derived.Test.YtcbkbpjlbmalmaaGreatDoorpav
import Derived.Test.YtcbkbpjlbmalmaaGreatDoorpan
namespace Go.Proofs.YtcbkbpjlbmalmaaGreatDoor
open Go Go.X Go.Y
section
variable {b:Nat} {M:Mn} {g:Int} {F:B.Fn} {H:HY} {X:PX}
theorem Aun{T:B.Fn->B.Fn->B.Fn}{f:FT Y0 [.ptr,.int .i64,.int .i64] [.int .i64]}{k want:Int}{G W:B.Fn}{Q:Bool×Int×Unit->UU}(hM:MG H b M)(hn:M.nx<576460752303423487)(hl:M.hs.length<=60000)(hT:∀F G a b,(F a=F b)->(G a=G b)->T F G a=T F G b)(hf:Azv b T f)(hF:M.Ba g=some F)(hG:M.Ba k=some G)(hw:∀N:B.Tb,B.Ok N want/\B.den N want=W)(hq:∀M' H'(t:Bool),(t=true↔T F G=W)->MG H' b M'->Kp M M'->FrH b M H H'->Q (t,0,()) () H'):Wp Y0 Ahg Abc (some b,f,g,k,want,()) H Q X:=by
 refine Axd _ _ _ _ _ _ _ _ ?_;unfold An2;intro c0 hc0;have n0:=hM.h.notM hc0;have old0:∀d,H d≠none->Ab H c0 (Ob.st W0 false) d=H d:=λd hd=>Ad _ _ λe=>hd (by rw[e];exact hc0);refine Ai0 _ _ _ _ _ ?_;unfold Zh;refine⟨λh=>absurd h (by simp),λ_=>?_⟩;refine Agv (M:=M) (Fs:=[T F G]) (J:=λH'=>(∃x:Bool,H' c0=some (.st W0 x))/\FrH b M H H') (P:=λM' H'=>∃x:Bool,H' c0=some (.st W0 x)/\(x=true↔T F G=W)) (hM.old old0) (by omega) hl (by simp) (λx hx=>?_) (λH1 H2⟨⟨x,hx⟩,fr⟩f=>⟨⟨x,by rw[f.at (by rw[hx];simp) n0];exact hx⟩,fr.trans f .refl⟩) ⟨⟨false,Aj _ _ _⟩,FrH.new hc0⟩ ?_ ?_
 .rw[List.mem_singleton]at hx;subst hx;exact Aws hT (hM.rd hF) (hM.rd hG)
 .intro M' H' c X' Q' cx iI iV kp ⟨⟨x,hx⟩,fr⟩ hpan hfin;refine Aqk _ _ _ _ _ _ _ _ _ ?_;unfold Agh;have j:∀{H''},FrM b M' H' H''->(∃x:Bool,H'' c0=some (.st W0 x))/\FrH b M H H'':=λ{H''}f=>⟨⟨x,by rw[(f.same kp.bs).at n0];exact hx⟩,fr.trans (f.same kp.bs).h .refl⟩
  refine Xh cx iI (by rw[kp.Ba];exact hF) λe1 o1 d1=>Xh cx iI (by rw[kp.Ba];exact hG) λe2 o2 d2=>?_;refine hf M' H' c e1 e2 _ _ cx iI.si iV o1 o2 (λM'' H'' l c2 st cov f hp=>hpan M'' H'' l c2 st (cov.l (by rw[d1,d2];simp)) (j f) hp) λe M'' H'' c2 st cov f hw' ho hd=>?_;obtain⟨⟨x2,hx2⟩,f2⟩:=j f;have n2:=(n0.same kp.bs).same st.bs;refine⟨c0,rfl,x2,hx2,hfin M'' _ ⟨?_,c2.man.other n2 hx2⟩ st (cov.l (by rw[d1,d2];simp)) ⟨⟨_,Aj _ _ _⟩,λd a0 a1 a2 a3 a4 a5 a6=>?_⟩ hw' ⟨_,Aj _ _ _,?_⟩⟩
  .rw[Ad _ _ (By c2.cx hx2 (by decide))];exact c2.cx
  .rw[Ad _ _ (λe=>a0 (by rw[e];exact hc0))];exact f2 d a0 a1 a2 a3 a4 a5 a6
  .show decide (e=want)=true↔_;rw[decide_eq_true_eq,st.si.C6.eq_iff Sto.P4 ho (hw _).1,(hw _).2];show B.den M''.T e=W↔_;rw[hd,d1,d2]
 .intro M' H' g kp _ ⟨_,fr⟩ ⟨x,hx,ht⟩;refine⟨x,hx,λhx'=>⟨rfl,?_⟩,λhx'=>⟨rfl,?_⟩⟩
  .exact hq M' H' (decide ((0:Int)=0)) ⟨λ_=>ht.1 hx',λ_=>by simp⟩ g kp fr
  .exact hq M' H' false ⟨λh=>(by cases h),λh=>absurd (ht.2 h) hx'⟩ g kp fr
theorem Als{k:Int}{G:B.Fn}{Q:Bool×Int×Unit->UU}(hM:MG H b M)(hn:M.nx<576460752303423487)(hl:M.hs.length<=60000)(hF:M.Ba g=some F)(hG:M.Ba k=some G)(hq:∀M' H'(t:Bool),(t=true↔∃a,F a=true/\G a=true)->MG H' b M'->Kp M M'->FrH b M H H'->Q (t,0,()) () H'):Wp Y0 Si P1 (some b,g,k,()) H Q X:=by
 refine An3 _ _ _ _ _ _ ?_;unfold Aec;refine Aun (T:=Hw) (W:=λ_=>false) hM hn hl (λF G a b h1 h2=>by simp only[Hw,h1,h2]) Atq hF hG (λN=>⟨B.ok_one,B.Jo⟩) λM' H' t ht g' kp fr=>⟨λhf=>?_,λhf=>?_⟩
 .refine hq M' H' (decide ((0:Int)=0)) ⟨λ_=>?_,λ_=>by simp⟩ g' kp fr;have hne:¬Hw F G=λ_=>false:=λh=>hf (ht.2 h);refine Classical.byContradiction λhno=>hne (funext λa=>?_);simp only[Hw];cases hFa:F a
  .rfl
  .cases hGa:G a
   .rfl
   .exact absurd ⟨a,hFa,hGa⟩ hno
 .have ht':=ht.1 (Classical.not_not.1 hf);refine hq M' H' false ⟨λh=>(by cases h),λ⟨a,h1,h2⟩=>?_⟩ g' kp fr;have:=congrFun ht' a;simp [Hw,h1,h2]at this
theorem Al3{Q:Int×Int×Unit->UU}(hM:MG H b M)(hn:M.nx<576460752303423487)(hF:M.Ba g=some F)(hq:∀M' H',MG H' b M'->New M M' F->FrH b M H H'->Q (M.nx,0,()) () H'):Wp Y0 Jw Hq (some b,g,()) H Q X:=
 Aok hM.h hM.i (by omega) (λh=>by rw[hF]at h;cases h) λF' M' H' hF' h' i' ms nx ln Ba f=>by rw[hF]at hF';cases hF';exact hq M' H' (ms.mg hM h' i') ⟨ms.bs,nx,ln,Ba⟩ f.h
structure A81(M M':Mn)(g:Int):Prop where
 bs:F8 M M'
 nx:M'.nx=M.nx
 ln:M'.hs.length+1=M.hs.length
 Ba:∀k,M'.Ba k=if k=g then none else M.Ba k
theorem Abz{Q:Int×Unit->UU}(hM:MG H b M)(hn:M.nx<576460752303423487)(hg:1<g)(hF:M.Ba g=some F)(hq:∀M' H'(e:Int),MG H' b M'->A81 M M' g->FrH b M H H'->Q (e,()) () H'):Wp Y0 Ht Gg (some b,[g],()) H Q X:=by
 obtain⟨e,he,_⟩:=Mn.Ju hF;refine Aoj hM.h hM.i (by omega) λM' H' h' i' ms nx hs f=>?_;have hd:(Ub [g] M.hs).1=Ez M.hs g:=by unfold Ub;rw[he];simp only[Option.isSome_some,if_true,hg];rfl
 rw[hd]at hs;refine hq M' H' _ (ms.mg hM h' i') ⟨ms.bs,nx,by rw[hs];exact(Ab6 (i:=0) he).2,λk=>?_⟩ f.h;show (Ac M'.hs k).map (B.den M'.T)=_;rw[hs,Nc hM.i.nd,show M'.T=M.T from ms.tbl];split<;>rfl
end
section
set_option maxRecDepth 100000
set_option maxHeartbeats 2000000
def Ahu(m:Option Nat)(l:List Ck)(H:HY)(Q:Int×Int×Unit->UU)(X:PX):Prop:=(m=none->Q (0,5,()) () H)/\(¬m=none->Wp Y0 Tk Pd (m,l,()) H (λ(b:Int×Unit)_ G=>(¬b.1=(0:Int)->Q (0,b.1,()) () G)/\(¬¬b.1=(0:Int)->Wp Y0 Sj P3 (m,λ(a:Option Nat×Unit)(H:HY)(Q:Int×Unit->HP)(X:Nat->Lf Y0.D->HP)=>Wp Y0 Acj Uw (a.1,l,()) H (λ(b:Int×Unit)(x:Unit)(G:HY)=>Q (b.1,()) G) X,()) G (λ(b:Int×Int×Unit)_ G=>Q (b.1,b.2.1,()) () G) X)) X)
theorem Aq6 m l H Q X(hyp_:Ahu m l H Q X):Wp Y0 O1 Mc (m,l,()) H Q X:=wF Tryz.f71 {im:=[3]} (by kernel_rfl) hyp_ (by kernel_rfl)
def Acq(x:Option Nat)(p1:List Ck)(H:HY)(Q:Int×Unit->UU)(X:PX):Prop:=(0+p1.length)*16<=140737488355328/\(([]++p1).length<=9223372036854775807->∃(V:Nat->List Ck×Int×Unit->HP),(∃(n:Nat),V n ([]++p1,0,()) H)/\∀(n:Nat)(x1:List Ck×Int×Unit)(H:HY),V n x1 H->(x1.2.1<(↑([]++p1).length:Int)->∃(V1:Nat->List Ck×Int×Unit->HP),(∃(n:Nat),V1 n (x1.1,x1.2.1,()) H)/\∀(n1:Nat)(x2:List Ck×Int×Unit)(H:HY),V1 n1 x2 H->((0:Int)<x2.2.1->InK .i64 x2.2.1->InK .i64 (x2.2.1-1)/\(InK .i64 (x2.2.1-1)->(InK .i64 (x2.2.1-1)->0<=x2.2.1-1)/\∃(h:(x2.2.1-1).toNat<x2.1.length),∃(h:(x2.2.1-1).toNat<x2.1.length),InK .i64 x2.2.1->(InK .i64 x2.2.1->0<=x2.2.1)/\∃(h1:x2.2.1.toNat<x2.1.length),Wp Y0 Ew D9 (x,x2.1[(x2.2.1-1).toNat].Var,()) H (λ(b:Int×Unit)_ G=>∃(h:x2.2.1.toNat<x2.1.length),Wp Y0 Ew D9 (x,x2.1[x2.2.1.toNat].Var,()) G (λ(b1:Int×Unit)_ G=>(b.1<b1.1->InK .i64 x2.2.1->InK .i64 (x2.2.1-1)/\(InK .i64 x2.2.1->(InK .i64 x2.2.1->0<=x2.2.1)/\∃(h:x2.2.1.toNat<x2.1.length),∃(h:x2.2.1.toNat<x2.1.length),InK .i64 x2.2.1->InK .i64 (x2.2.1-1)/\(InK .i64 (x2.2.1-1)->(InK .i64 (x2.2.1-1)->0<=x2.2.1-1)/\∃(h2:(x2.2.1-1).toNat<x2.1.length),∃(h3:(x2.2.1-1).toNat<x2.1.length),InK .i64 (x2.2.1-1)->(InK .i64 (x2.2.1-1)->0<=x2.2.1-1)/\∃(h4:(x2.2.1-1).toNat<x2.1.length),(x2.2.1-1).toNat<x2.1.length/\(InK .i64 x2.2.1->(InK .i64 x2.2.1->0<=x2.2.1)/\∃(h5:x2.2.1.toNat<(x2.1.set (x2.2.1-(1:Int)).toNat x2.1[x2.2.1.toNat]).length),x2.2.1.toNat<(x2.1.set (x2.2.1-(1:Int)).toNat x2.1[x2.2.1.toNat]).length/\(InK .i64 x2.2.1->InK .i64 (x2.2.1-(1:Int))/\∃(m:Nat),m<n1/\V1 m ((x2.1.set (x2.2.1-(1:Int)).toNat x2.1[x2.2.1.toNat]).set x2.2.1.toNat x2.1[(x2.2.1-(1:Int)).toNat],x2.2.1-(1:Int),()) G)))))/\(¬b.1<b1.1->InK .i64 x1.2.1->InK .i64 (x1.2.1+1)/\∃(m:Nat),m<n/\V m (x2.1,x1.2.1+1,()) G)) X) X/\∃(h2:x2.2.1.toNat<x2.1.length),Wp Y0 Ew D9 (x,x2.1[(x2.2.1-1).toNat].Var,()) H (λ(b:Int×Unit)_ G=>Wp Y0 Ew D9 (x,x2.1[x2.2.1.toNat].Var,()) G (λ(b1:Int×Unit)_ G=>(b.1<b1.1->InK .i64 x2.2.1->InK .i64 (x2.2.1-1)/\(InK .i64 x2.2.1->(InK .i64 x2.2.1->0<=x2.2.1)/\∃(h:x2.2.1.toNat<x2.1.length),∃(h:x2.2.1.toNat<x2.1.length),InK .i64 x2.2.1->InK .i64 (x2.2.1-1)/\(InK .i64 (x2.2.1-1)->(InK .i64 (x2.2.1-1)->0<=x2.2.1-1)/\∃(h3:(x2.2.1-1).toNat<x2.1.length),∃(h4:(x2.2.1-1).toNat<x2.1.length),InK .i64 (x2.2.1-1)->(InK .i64 (x2.2.1-1)->0<=x2.2.1-1)/\∃(h5:(x2.2.1-1).toNat<x2.1.length),(x2.2.1-1).toNat<x2.1.length/\(InK .i64 x2.2.1->(InK .i64 x2.2.1->0<=x2.2.1)/\∃(h6:x2.2.1.toNat<(x2.1.set (x2.2.1-(1:Int)).toNat x2.1[x2.2.1.toNat]).length),x2.2.1.toNat<(x2.1.set (x2.2.1-(1:Int)).toNat x2.1[x2.2.1.toNat]).length/\(InK .i64 x2.2.1->InK .i64 (x2.2.1-(1:Int))/\∃(m:Nat),m<n1/\V1 m ((x2.1.set (x2.2.1-(1:Int)).toNat x2.1[x2.2.1.toNat]).set x2.2.1.toNat x2.1[(x2.2.1-(1:Int)).toNat],x2.2.1-(1:Int),()) G)))))/\(¬b.1<b1.1->InK .i64 x1.2.1->InK .i64 (x1.2.1+1)/\∃(m:Nat),m<n/\V m (x2.1,x1.2.1+1,()) G)) X) X))/\(¬(0:Int)<x2.2.1->dup (InK .i64 x1.2.1->InK .i64 (x1.2.1+1)/\∃(m:Nat),m<n/\V m (x2.1,x1.2.1+1,()) H)))/\(¬x1.2.1<(↑([]++p1).length:Int)->x1.1.length<=9223372036854775807->∃(V:Nat->Int×List Ck×Nat×Unit->HP),(∃(n:Nat),V n (0,x1.1,0,()) H)/\∀(n:Nat)(x2:Int×List Ck×Nat×Unit)(H:HY),V n x2 H->(x2.2.2.1<x1.1.length->x2.2.2.1<=9223372036854775807->∃(h:x2.2.2.1<x2.2.1.length),∃(h:x2.2.2.1<x2.2.1.length),(x2.2.1[x2.2.2.1].Yes=true->Wp Y0 Hm Gh (x,x2.2.1[x2.2.2.1].Var,1,x2.1,()) H (λ(b:Int×Unit)_ G=>x2.2.2.1+1<=9223372036854775807/\∃(m:Nat),m<n/\V m (b.1,x2.2.1,x2.2.2.1+1,()) G) X)/\(¬x2.2.1[x2.2.2.1].Yes=true->Wp Y0 Hm Gh (x,x2.2.1[x2.2.2.1].Var,x2.1,1,()) H (λ(b:Int×Unit)_ G=>x2.2.2.1+1<=9223372036854775807/\∃(m:Nat),m<n/\V m (b.1,x2.2.1,x2.2.2.1+1,()) G) X))/\(¬x2.2.2.1<x1.1.length->Q (x2.1,()) () H)))
theorem Amn x p1 H Q X(hyp_:Acq x p1 H Q X):Wp Y0 Acj Uw (x,p1,()) H Q X:=wF Tryz.f144 {lp:=[(12,⟨[(7,.one (.dat I6)),(58,.one (.own (.u 11))),(60,.nat)],[0,58,59],true⟩),(6,⟨[(4,.one (.own (.u 11))),(6,.one (.dat I6))],[0,4,14,15],true⟩),(3,⟨[(4,.one (.own (.u 11))),(15,.one (.dat I6))],[0,4,14],true⟩)]} (by kernel_rfl) hyp_ (by kernel_rfl)
def Zm(m:Option Nat)(l:List Ck)(H:HY)(Q:Int×Unit->UU)(X:PX):Prop:=l.length<=9223372036854775807->∃(V:Nat->Nat×Unit->HP),(∃(n:Nat),V n (0,()) H)/\∀(n:Nat)(x:Nat×Unit)(H:HY),V n x H->(x.1<l.length->x.1<=9223372036854775807->∃(h:x.1<l.length),(l[x.1].Var<0->dup (Q (9,()) () H))/\(¬l[x.1].Var<0->Wp Y0 Gj Fl (m,()) H (λ(b:Int×Unit)_ G=>(b.1<=l[x.1].Var->Q (9,()) () G)/\(¬b.1<=l[x.1].Var->x.1+1<=9223372036854775807/\∃(m:Nat),m<n/\V m (x.1+1,()) G)) X))/\(¬x.1<l.length->l.length<=9223372036854775807->∃(V:Nat->Bool×Nat×Unit->HP),(∃(n:Nat),V n (false,0,()) H)/\∀(n:Nat)(x:Bool×Nat×Unit)(H:HY),V n x H->(x.2.1<l.length->x.2.1<=9223372036854775807->∃(h:x.2.1<l.length),0<=x.2.1/\x.2.1<=l.length/\((List.take (x.2.1-0) (List.drop 0 l)).length<=9223372036854775807->∃(V1:Nat->Bool×(Int×Bool×Unit)×Nat×Unit->HP),(∃(n:Nat),V1 n (x.1,(l[x.2.1].Var,l[x.2.1].Yes,()),0,()) H)/\∀(n1:Nat)(x1:Bool×(Int×Bool×Unit)×Nat×Unit)(H:HY),V1 n1 x1 H->(x1.2.2.1<(List.take (x.2.1-0) (List.drop 0 l)).length->x1.2.2.1<=9223372036854775807->∃(h:x1.2.2.1<(List.take (x.2.1-0) (List.drop 0 l)).length),(x1.2.1.1=(List.take (x.2.1-0) (List.drop 0 l))[x1.2.2.1].Var->(x1.2.1.1=(List.take (x.2.1-0) (List.drop 0 l))[x1.2.2.1].Var->Q (6,()) () H)/\(¬x1.2.1.1=(List.take (x.2.1-0) (List.drop 0 l))[x1.2.2.1].Var->Q (0,()) () H))/\(¬x1.2.1.1=(List.take (x.2.1-0) (List.drop 0 l))[x1.2.2.1].Var->x1.2.2.1+1<=9223372036854775807/\∃(m1:Nat),m1<n1/\V1 m1 (decide (x1.2.1.1=(List.take (x.2.1-0) (List.drop 0 l))[x1.2.2.1].Var),(x1.2.1.1,x1.2.1.2.1,()),x1.2.2.1+1,()) H))/\(¬x1.2.2.1<(List.take (x.2.1-0) (List.drop 0 l)).length->x.2.1+1<=9223372036854775807/\∃(m:Nat),m<n/\V m (x1.1,x.2.1+1,()) H)))/\(¬x.2.1<l.length->(x.1=true->Q (6,()) () H)/\(¬x.1=true->Q (0,()) () H)))
theorem Ai7 m l H Q X(hyp_:Zm m l H Q X):Wp Y0 Tk Pd (m,l,()) H Q X:=wF Tryz.f143 {lp:=[(12,⟨[(7,.one (.dat .bool)),(9,.blk [.dat I6,.dat .bool]),(40,.nat)],[1,29,30,31,38,39],true⟩),(9,⟨[(7,.one (.dat .bool)),(31,.nat)],[1,29,30],true⟩),(2,⟨[(14,.nat)],[0,1,12,13],true⟩)],hd:=[(4,[6])]} (by kernel_rfl) hyp_ (by kernel_rfl)
def Ru(l:Ae)(H:HY)(Q:Int×Unit->UU)(X:PX):Prop:=l.Bits.length<=9223372036854775807->∃(V:Nat->Int×Nat×Unit->Prop),(∃(n:Nat),H=H/\V n (0,0,()))/\∀(n:Nat)(x:Int×Nat×Unit),V n x->(x.2.1<l.Bits.length->x.2.1<=9223372036854775807->∃(h:x.2.1<l.Bits.length),InK .i64 x.1->InK .i64 l.Bits[x.2.1]->InK .i64 (x.1+l.Bits[x.2.1])/\x.2.1+1<=9223372036854775807/\∃(m:Nat),m<n/\H=H/\V m (x.1+l.Bits[x.2.1],x.2.1+1,()))/\(¬x.2.1<l.Bits.length->Q (x.1,()) () H)
theorem Aak l H Q X(hyp_:Ru l H Q X):Wp Y0 Mq Ja (l,()) H Q X:=wF Tryz.f89 {lp:=[(3,⟨[(3,.one (.dat I6)),(9,.nat)],[7,8],false⟩)],im:=[1]} (by kernel_rfl) hyp_ (by kernel_rfl)
def Rv(l:Ae)(name:ByteArray)(H:HY)(Q:Int×Unit->UU)(X:PX):Prop:=l.Ag.length<=9223372036854775807->∃(V:Nat->Int×Unit->Prop),(∃(n:Nat),H=H/\V n (0,()))/\∀(n:Nat)(x:Int×Unit),V n x->(x.1<(↑l.Ag.length:Int)->InK .i64 x.1->(InK .i64 x.1->0<=x.1)/\∃(h:x.1.toNat<l.Ag.length),(l.Ag[x.1.toNat].Name=name->Q (x.1,()) () H)/\(¬l.Ag[x.1.toNat].Name=name->InK .i64 x.1->InK .i64 (x.1+1)/\∃(m:Nat),m<n/\H=H/\V m (x.1+1,())))/\(¬x.1<(↑l.Ag.length:Int)->Q (-1,()) () H)
theorem Aal l name H Q X(hyp_:Rv l name H Q X):Wp Y0 Je Gp (l,name,()) H Q X:=wF Tryz.f96 {lp:=[(2,⟨[(10,.one (.dat I6))],[1,8,9],false⟩)],im:=[2]} (by kernel_rfl) hyp_ (by kernel_rfl)
def T9(l:Ae)(i:Int)(H:HY)(Q:List Int×Unit->UU)(X:PX):Prop:=(i<0->Q ([],()) () H)/\(¬i<0->l.Bits.length<=9223372036854775807->((↑l.Bits.length:Int)<=i->Q ([],()) () H)/\(¬(↑l.Bits.length:Int)<=i->InK .i64 i->(InK .i64 i->0<=i)/\∃(h:i.toNat<l.Bits.length),∃(V:Nat->List Int×Nat×Unit->Prop),(∃(n:Nat),H=H/\V n ([],0,()))/\∀(n:Nat)(x:List Int×Nat×Unit),V n x->((↑x.2.1:Int)<l.Bits[i.toNat]->InK .i64 i->(InK .i64 i->0<=i)/\∃(h:i.toNat<l.At.length),InK .i64 l.At[i.toNat]->x.2.1<=9223372036854775807->InK .i64 (l.At[i.toNat]+(↑x.2.1:Int))/\(InK .i64 (l.At[i.toNat]+(↑x.2.1:Int))->InK .i64 (2*(l.At[i.toNat]+(↑x.2.1:Int)))/\(x.1.length+[(2:Int)*(l.At[i.toNat]+(↑x.2.1:Int))].length)*8<=140737488355328/\x.2.1+1<=9223372036854775807/\∃(m:Nat),m<n/\H=H/\V m (x.1++[(2:Int)*(l.At[i.toNat]+(↑x.2.1:Int))],x.2.1+1,())))/\(¬(↑x.2.1:Int)<l.Bits[i.toNat]->Q (x.1,()) () H)))
theorem Adu l i H Q X(hyp_:T9 l i H Q X):Wp Y0 Li Ip (l,i,()) H Q X:=wF Tryz.f123 {lp:=[(5,⟨[(5,.one (.own I6)),(21,.nat)],[1,2,20],false⟩)],im:=[2]} (by kernel_rfl) hyp_ (by kernel_rfl)
def Sl(l:Ae)(i:Int)(H:HY)(Q:List Int×Unit->UU)(X:PX):Prop:=Wp Y0 Li Ip (l,i,()) H (λ(b:List Int×Unit)_ G=>b.1.length<=9223372036854775807->∃(V:Nat->List Int×Nat×Unit->Prop),(∃(n:Nat),G=G/\V n ([],0,()))/\∀(n:Nat)(x:List Int×Nat×Unit),V n x->(x.2.1<b.1.length->x.2.1<=9223372036854775807->∃(h:x.2.1<b.1.length),InK .i64 b.1[x.2.1]->InK .i64 (b.1[x.2.1]+1)/\(x.1.length+[b.1[x.2.1]+1].length)*8<=140737488355328/\x.2.1+1<=9223372036854775807/\∃(m:Nat),m<n/\G=G/\V m (x.1++[b.1[x.2.1]+1],x.2.1+1,()))/\(¬x.2.1<b.1.length->Q (x.1,()) () G)) X
theorem Acm l i H Q X(hyp_:Sl l i H Q X):Wp Y0 J9 Hj (l,i,()) H Q X:=wF Tryz.f53 {lp:=[(3,⟨[(5,.one (.own I6)),(12,.nat)],[10,11],false⟩)],im:=[2]} (by kernel_rfl) hyp_ (by kernel_rfl)
def Agq(n:Int)(H:HY)(Q:Int×Unit->UU)(X:PX):Prop:=∃(V:Nat->Nat×Unit->Prop),(∃(n:Nat),H=H/\V n (0,()))/\∀(n1:Nat)(x:Nat×Unit),V n1 x->(x.1<63->x.1<=9223372036854775807->(BinOp.shl=BinOp.shr->InK .i64 1)/\(0:Int)<=(↑x.1:Int)/\(n<=Go.IntKind.wrap .i64 (1*2^min (↑x.1:Int).toNat 64)->Q ((↑x.1:Int),()) () H)/\(¬n<=Go.IntKind.wrap .i64 (1*2^min (↑x.1:Int).toNat 64)->x.1+1<=9223372036854775807/\∃(m:Nat),m<n1/\H=H/\V m (x.1+1,())))/\(¬x.1<63->Q (63,()) () H)
theorem Aqn n H Q X(hyp_:Agq n H Q X):Wp Y0 Aah Ut (n,()) H Q X:=wF Tryz.f85 {lp:=[(2,⟨[(4,.nat)],[0],false⟩)]} (by kernel_rfl) hyp_ (by kernel_rfl)
def Yw(v:Bi)(H:HY)(Q:Int×Unit->UU)(X:PX):Prop:=(v.Bool=true->Q (2,()) () H)/\(¬v.Bool=true->(v.Hi<v.Lo->Q (0,()) () H)/\(¬v.Hi<v.Lo->InK .i64 v.Hi->InK .i64 v.Lo->InK IntKind.u64 (IntKind.u64.wrap v.Hi)->InK IntKind.u64 (IntKind.u64.wrap v.Lo)->(IntKind.u64.wrap (IntKind.u64.wrap v.Hi-IntKind.u64.wrap v.Lo)<1073741824->InK IntKind.u64 (IntKind.u64.wrap (IntKind.u64.wrap v.Hi-IntKind.u64.wrap v.Lo))->InK .i64 (Go.IntKind.wrap .i64 (IntKind.u64.wrap (IntKind.u64.wrap v.Hi-IntKind.u64.wrap v.Lo)))->InK .i64 (Go.IntKind.wrap .i64 (IntKind.u64.wrap (IntKind.u64.wrap v.Hi-IntKind.u64.wrap v.Lo))+1)/\Q (Go.IntKind.wrap .i64 (IntKind.u64.wrap (IntKind.u64.wrap v.Hi-IntKind.u64.wrap v.Lo))+1,()) () H)/\(¬IntKind.u64.wrap (IntKind.u64.wrap v.Hi-IntKind.u64.wrap v.Lo)<1073741824->Q (1073741825,()) () H)))
theorem Aif v H Q X(hyp_:Yw v H Q X):Wp Y0 Te O7 (v,()) H Q X:=wF Tryz.f86 {im:=[1]} (by kernel_rfl) hyp_ (by kernel_rfl)
end
section
def Hv(l:List Ck):B.Fn:=λa=>l.all λt=>a t.Var==t.Yes
variable {l:List Ck}
theorem O2{a:B.As}:Hv l a=true↔∀t∈l,a t.Var=t.Yes:=by unfold Hv;rw[List.all_eq_true];simp
theorem Aq8{m:List Ck}(h:l.Perm m):Hv l=Hv m:=by funext a;rw[Bool.eq_iff_iff,O2,O2];exact⟨λh1 t ht=>h1 t (h.mem_iff.2 ht),λh1 t ht=>h1 t (h.mem_iff.1 ht)⟩
theorem Aht{b:Nat}{M:Mn}{H:HY}{X:PX}{Q:Int×Unit->UU}(hM:MnH H b M)(hI:MI M)(hv:∀t∈l,0<=t.Var/\t.Var<M.S.n)(hd:(l.map (·.Var)).Nodup)(h:Q (0,()) () H):Wp Y0 Tk Pd (some b,l,()) H Q X:=by
 refine Ai7 _ _ _ _ _ ?_;unfold Zm;refine λ_=>⟨λn z H'=>H'=H/\n=l.length-z.1/\z.1<=l.length,⟨_,rfl,rfl,Nat.zero_le _⟩,?_⟩
 rintro n ⟨k,_⟩ H' ⟨rfl,hn0,hk0⟩;have hn:n=l.length-k:=hn0;have hk:k<=l.length:=hk0;clear hn0 hk0;refine⟨λhkl hb=>?_,λhkl _=>?_⟩
 .have hkl':k<l.length:=hkl;have hb:k<=9223372036854775807:=hb;have hv':=hv l[k] (List.getElem_mem hkl');refine⟨hkl',λhneg=>?_,λ_=>P5 hM hI ⟨λhge=>?_,λ_=>⟨by show k+1<=_;omega,l.length-(k+1),by omega,rfl,rfl,by show k+1<=_;omega⟩⟩⟩
  .have hneg:l[k].Var<0:=hneg;omega
  .have hge:M.S.n<=l[k].Var:=hge;omega
 .refine⟨λn z H''=>H''=H'/\n=l.length-z.2.1/\z.2.1<=l.length/\z.1=false,⟨_,rfl,rfl,Nat.zero_le _,rfl⟩,?_⟩;rintro n2 ⟨tw,q,_⟩ H'' ⟨rfl,hn2,hq0,htw⟩;have hn2:n2=l.length-q:=hn2;have hq:q<=l.length:=hq0;have htw:tw=false:=htw;subst htw;refine⟨λhql hb=>?_,λ_=>⟨λh'=>(by cases h'),λ_=>h⟩⟩;have hql':q<l.length:=hql;have hb:q<=9223372036854775807:=hb;refine⟨hql',Nat.zero_le _,hq,λ_=>⟨λn z H3=>H3=H''/\n=q-z.2.2.1/\z.2.2.1<=q/\z.1=false/\z.2.1.1=l[q].Var,⟨_,rfl,rfl,Nat.zero_le _,rfl,rfl⟩,?_⟩⟩;rintro n3 ⟨tw,⟨xv,xy,_⟩,j,_⟩ H3 ⟨rfl,hn3,hj0,htw,hxv⟩;have hn3:n3=q-j:=hn3;have hj:j<=q:=hj0;have htw:tw=false:=htw;have hxv:xv=l[q].Var:=hxv;subst htw hxv;have hlen:(List.take (q-0) (List.drop 0 l)).length=q:=by simp;omega
  refine⟨λhjl hbj=>?_,λhjl=>?_⟩
  .have hjq:j<q:=by have hjl:j<(List.take (q-0) (List.drop 0 l)).length:=hjl;omega
   have hbj:j<=9223372036854775807:=hbj;have hne:l[q].Var≠l[j].Var:=λe=>by
    have h1:(l.map (·.Var))[q]'(by simpa using hql')=(l.map (·.Var))[j]'(by simp;omega):=by simpa using e
    have:=(List.getElem_inj hd).1 h1;omega
   have hget:(List.take (q-0) (List.drop 0 l))[j]'(by omega)=l[j]:=by simp
   refine⟨hjl,λe=>?_,λ_=>⟨by show j+1<=_;omega,q-(j+1),by omega,rfl,rfl,by show j+1<=_;omega,?_,rfl⟩⟩
   .have e:l[q].Var=((List.take (q-0) (List.drop 0 l))[j]'(by omega)).Var:=e;rw[hget]at e;exact absurd e hne
   .show decide (l[q].Var=((List.take (q-0) (List.drop 0 l))[j]'(by omega)).Var)=false;rw[hget];simpa using hne
  .exact⟨by show q+1<=_;omega,l.length-(q+1),by omega,rfl,rfl,by show q+1<=_;omega,rfl⟩
def lvI(lv:Int->Int)(s:List Ck)(j:Nat):Int:=match s[j]? with
 |some t=>lv t.Var
 |none=>0
variable {lv:Int->Int} {s:List Ck}
theorem J7{j:Nat}(h:j<s.length):lvI lv s j=lv s[j].Var:=by unfold lvI;rw[List.getElem?_eq_getElem h]
variable {k:Nat}
theorem Ax2(h0:0<k)(h:k<s.length)(j:Nat):lvI lv ((s.set (k-1) s[k]).set k (s[k-1]'(by omega))) j=if j=k then lvI lv s (k-1) else if j=k-1 then lvI lv s k else lvI lv s j:=by
 unfold lvI;by_cases e:j=k
 .subst e;rw[if_pos rfl,List.getElem?_set_self (by simpa using h),List.getElem?_eq_getElem (by omega:j-1<s.length)]
 .rw[if_neg e,List.getElem?_set_ne (Ne.symm e)];by_cases e2:j=k-1
  .subst e2;rw[if_pos rfl,List.getElem?_set_self (by omega),List.getElem?_eq_getElem h]
  .rw[if_neg e2,List.getElem?_set_ne (Ne.symm e2)]
def Srt(lv:Int->Int)(s:List Ck)(i:Nat)(k:Nat):Prop:=(∀a b,a<b->b<i->a≠k->b≠k->lvI lv s b<=lvI lv s a)/\∀b,k<b->b<i->lvI lv s b<=lvI lv s k
theorem Srt.done{i:Nat}(h:Srt lv s (i+1) k)(hk:k<=i)(h0:k=0∨lvI lv s k<=lvI lv s (k-1)):∀a b,a<b->b<i+1->lvI lv s b<=lvI lv s a:=λa b hab hb=>by
 by_cases ha:a=k
 .subst ha;exact h.2 b hab hb
 .by_cases hbk:b=k
  .subst hbk;rcases h0 with h0|h0
   .omega
   .by_cases e:a=b-1
    .rw[e];exact h0
    .exact Int.le_trans h0 (h.1 a (b-1) (by omega) (by omega) ha (by omega))
  .exact h.1 a b hab hb ha hbk
theorem Srt.step{i:Nat}(h:Srt lv s (i+1) k)(h0:0<k)(hk:k<=i)(hl:i<s.length)(hlt:lvI lv s (k-1)<lvI lv s k):Srt lv ((s.set (k-1) (s[k]'(by omega))).set k (s[k-1]'(by omega))) (i+1) (k-1):=by
 have sw:=Ax2 (lv:=lv) (s:=s) h0 (by omega:k<s.length);refine⟨λa b hab hb ha hbk=>?_,λb hb1 hb=>?_⟩
 .rw[sw,sw];by_cases e1:b=k
  .rw[if_pos e1,if_neg (by omega),if_neg ha];exact h.1 a (k-1) (by omega) (by omega) (by omega) (by omega)
  .rw[if_neg e1,if_neg hbk];by_cases e2:a=k
   .rw[if_pos e2];exact h.1 (k-1) b (by omega) hb (by omega) e1
   .rw[if_neg e2,if_neg ha];exact h.1 a b hab hb e2 e1
 .rw[sw,sw,if_neg (by omega:k-1≠k),if_pos rfl];by_cases e1:b=k
  .rw[if_pos e1];exact Int.le_of_lt hlt
  .rw[if_neg e1,if_neg (by omega)];exact h.2 b (by omega) hb
end
theorem Ay8{n:Int}{l:List Ck}(hv:∀t∈l,0<=t.Var/\t.Var<n):B.RD n (Hv l):=λa b hab=>by rw[Bool.eq_iff_iff,O2,O2];exact⟨λh t ht=>by rw[<-hab _ (hv t ht).1 (hv t ht).2];exact h t ht,λh t ht=>by rw[hab _ (hv t ht).1 (hv t ht).2];exact h t ht⟩
theorem Avf{lv:Int->Int}{s:List Ck}{j:Nat}(hd:(s.map (·.Var)).Nodup)(hj:j<s.length)(h1:∀a b,a<b->b<s.length->lvI lv s b<lvI lv s a):B.Cof lv (lv s[j].Var) (Hv s) (Hv (s.take (j+1))):=by
 classical
 let b:B.As:=λv=>decide (∃t∈s,t.Var=v/\t.Yes=true);have hb:∀t∈s,b t.Var=t.Yes:=λt ht=>by
  show decide _=t.Yes;cases hy:t.Yes with
  |true=>exact decide_eq_true ⟨t,ht,rfl,hy⟩
  |false=>
   refine decide_eq_false λ⟨t',ht',e,hy'⟩=>?_;obtain⟨p,hp,rfl⟩:=List.mem_iff_getElem.1 ht;obtain⟨q,hq,rfl⟩:=List.mem_iff_getElem.1 ht';have:(s.map (·.Var))[q]'(by simpa using hq)=(s.map (·.Var))[p]'(by simpa using hp):=by simpa using e
   have:=(List.getElem_inj hd).1 this;subst this;rw[hy]at hy';cases hy'
 refine⟨false,b,λa=>?_⟩;rw[Bool.false_xor,Bool.eq_iff_iff,O2,O2];constructor
 .intro h t ht;obtain⟨q,hq,rfl⟩:=List.mem_iff_getElem.1 ht;unfold B.mix;by_cases hqj:q<j+1
  .rw[if_neg]
   .exact h _ (List.mem_take_iff_getElem.2 ⟨q,by omega,rfl⟩)
   .by_cases e:q=j
    .subst e;omega
    .have:=h1 q j (by omega) hj;rw[J7 hq,J7 hj]at this;omega
  .rw[if_pos]
   .exact hb _ (List.getElem_mem hq)
   .have:=h1 j q (by omega) hq;rw[J7 hq,J7 hj]at this;exact this
 .intro h t ht;obtain⟨q,hq,rfl⟩:=List.mem_take_iff_getElem.1 ht;have hq':q<s.length:=by omega
  have:=h s[q] (List.getElem_mem hq');unfold B.mix at this;rw[if_neg]at this
  .exact this
  .by_cases e:q=j
   .subst e;omega
   .have:=h1 q j (by omega) hj;rw[J7 hq',J7 hj]at this;omega
theorem Aq7{s:List Ck}{j:Nat}(hj:j<s.length){F:B.Fn}(hF:F=Hv (s.take j)):(λa:B.As=>if a s[j].Var=true then (if s[j].Yes=true then F a else false) else (if s[j].Yes=true then false else F a))=Hv (s.take (j+1)):=by subst hF;funext a;rw[List.take_succ_eq_append_getElem hj];unfold Hv;rw[List.all_append];simp only[List.all_cons,List.all_nil,Bool.and_true];cases a s[j].Var<;>cases s[j].Yes<;>simp
theorem Ape{b:Nat}{M:Mn}{l:List Ck}{H:HY}{X:PX}{Q:Int×Int×Unit->UU}(hM:MG H b M)(hn:M.nx<576460752303423487)(hl:M.hs.length<=60000)(hlen:l.length<=1000)(hv:∀t∈l,0<=t.Var/\t.Var<M.S.n)(hd:(l.map (·.Var)).Nodup)(hq:∀M' H',MG H' b M'->New M M' (Hv l)->FrH b M H H'->Q (M.nx,0,()) () H'):Wp Y0 O1 Mc (some b,l,()) H Q X:=by
 refine Aq6 _ _ _ _ _ ?_;unfold Ahu;refine⟨λh=>absurd h (by simp),λ_=>Aht hM.h hM.i hv hd ⟨λh=>absurd rfl h,λ_=>?_⟩⟩;refine Aj4 (Fs:=[Hv l]) (F:=Hv l) hM hn hl (by simp) (λF hF=>?_) ?_ hq
 .rw[List.mem_singleton]at hF;subst hF;exact Ay8 hv
 intro M1 H1 c X' Q' cx iI iV kp fr hpan hfin;refine Amn _ _ _ _ _ ?_;unfold Acq;have nn:M1.S.n=M.S.n:=kp.n;have e0:([]++l:List Ck)=l:=rfl;refine⟨by omega,λ_=>⟨λn z H'=>H'=H1/\z.1.Perm l/\∃i:Nat,z.2.1=i/\i<=l.length/\n=l.length-i/\∀a b,a<b->b<i->lvI M1.lv z.1 b<=lvI M1.lv z.1 a,⟨_,rfl,List.Perm.refl _,0,rfl,Nat.zero_le _,rfl,λa b _ hb=>absurd hb (Nat.not_lt_zero b)⟩,?_⟩⟩;rintro n ⟨s,i0,_⟩ H' ⟨rfl,hp,i,hi0,hi,hn0,hs⟩;have hp:s.Perm l:=hp;have hi0:i0=(i:Int):=hi0;have hs:∀a b,a<b->b<i->lvI M1.lv s b<=lvI M1.lv s a:=hs;subst hi0;have hsl:s.length=l.length:=hp.length_eq;refine⟨λhil=>?_,λhil _=>?_⟩
 .have hil':i<l.length:=by have hil:(i:Int)<(l.length:Int):=hil;omega
  refine⟨λn1 z H''=>H''=H'/\z.1.Perm l/\∃k:Nat,z.2.1=k/\k<=i/\n1=k/\Srt M1.lv z.1 (i+1) k,⟨i,rfl,hp,i,rfl,Nat.le_refl _,rfl,λa b hab hb ha hbk=>hs a b hab (by omega),λb h1 h2=>by omega⟩,?_⟩;rintro n1 ⟨s1,k0,_⟩ H'' ⟨rfl,hp1,k,hk0,hk,hn1,hS⟩;have hp1:s1.Perm l:=hp1;have hk0:k0=(k:Int):=hk0;have hS:Srt M1.lv s1 (i+1) k:=hS;subst hk0;have hsl1:s1.length=l.length:=hp1.length_eq;have nxt:(k=0∨lvI M1.lv s1 k<=lvI M1.lv s1 (k-1))->InK .i64 (i:Int)->InK .i64 ((i:Int)+1)/\∃m,m<n/\(H''=H''/\s1.Perm l/\∃i':Nat,(i:Int)+1=i'/\i'<=l.length/\m=l.length-i'/\∀a b,a<b->b<i'->lvI M1.lv s1 b<=lvI M1.lv s1 a):=λh0 _=>
   ⟨Bk.2 (by omega),l.length-(i+1),by omega,rfl,hp1,i+1,rfl,by omega,rfl,hS.done hk h0⟩
  refine⟨λhkp _=>?_,λhkp=>Akk (nxt (.inl ?_))⟩
  .have hkp':0<k:=by have hkp:(0:Int)<(k:Int):=hkp;omega
   have hk1:k<s1.length:=by omega
   have hk2:k-1<s1.length:=by omega
   have t1:((k:Int)-1).toNat=k-1:=by omega
   have t0:((k:Int)).toNat=k:=by omega
   have ik:InK .i64 ((k:Int)-1):=Bk.2 (by omega);have ek:(k:Int)-1=((k-1:Nat):Int):=by omega
   have sw:lvA M1.S.lv (s1[k-1]'hk2).Var<lvA M1.S.lv (s1[k]'hk1).Var->InK .i64 (k:Int)->InK .i64 ((k:Int)-1)/\∃m,m<n1/\(H''=H''/\((s1.set (k-1) (s1[k]'hk1)).set k (s1[k-1]'hk2)).Perm l/\∃k':Nat,(k:Int)-1=k'/\k'<=i/\m=k'/\Srt M1.lv ((s1.set (k-1) (s1[k]'hk1)).set k (s1[k-1]'hk2)) (i+1) k'):=λhlt _=>
    ⟨ik,k-1,by rw[hn1];omega,rfl,(List.set_set_perm hk2 hk1).trans hp1,k-1,ek,Nat.le_trans (Nat.sub_le k 1) hk,rfl,hS.step hkp' hk (by show i<s1.length;omega) (by rw[J7 hk1,J7 hk2];exact hlt)⟩
   have no:¬lvA M1.S.lv (s1[k-1]'hk2).Var<lvA M1.S.lv (s1[k]'hk1).Var->k=0∨lvI M1.lv s1 k<=lvI M1.lv s1 (k-1):=λh=>.inr (by rw[J7 hk1,J7 hk2];exact Int.not_lt.1 h);simp only[t0,t1,List.length_set];refine⟨ik,λ_=>⟨λ_=>by omega,hk2,hk2,λ_=>⟨λ_=>by omega,hk1,Kv cx ⟨hk1,Kv cx ⟨λhlt _=>⟨ik,λ_=>⟨λ_=>by omega,hk1,hk1,λ_=>⟨ik,λ_=>⟨λ_=>by omega,hk2,hk2,λ_=>⟨λ_=>by omega,hk2,hk2,λ_=>⟨λ_=>by omega,hk1,hk1,sw hlt⟩⟩⟩⟩⟩⟩,λhge=>nxt (no hge)⟩⟩,hk1,Kv cx (Kv cx ⟨λhlt _=>⟨ik,λ_=>⟨λ_=>by omega,hk1,hk1,λ_=>⟨ik,λ_=>⟨λ_=>by omega,hk2,hk2,λ_=>⟨λ_=>by omega,hk2,hk2,λ_=>⟨λ_=>by omega,hk1,hk1,sw hlt⟩⟩⟩⟩⟩⟩,λhge=>nxt (no hge)⟩)⟩⟩⟩
  .have hkp:¬(0:Int)<(k:Int):=hkp;omega
 .have hil':i=l.length:=by have hil:¬(i:Int)<(l.length:Int):=hil;omega
  subst hil';have hd':(s.map (·.Var)).Nodup:=(hp.map _).nodup_iff.2 hd;have hv':∀t∈s,0<=t.Var/\t.Var<M1.S.n:=λt ht=>by rw[nn];exact hv t (hp.mem_iff.1 ht)
  have hst:∀a b,a<b->b<s.length->lvI M1.lv s b<lvI M1.lv s a:=λa b hab hb=>by
   have h1:=hs a b hab (by omega);rw[J7 hb,J7 (by omega:a<s.length)]at h1 ⊢;have hne:M1.lv s[b].Var≠M1.lv (s[a]'(by omega)).Var:=λe=>by
    have va:=hv' _ (List.getElem_mem (by omega:a<s.length));have vb:=hv' _ (List.getElem_mem hb);have:=iI.si.C6.od.inj _ _ vb.1 vb.2 va.1 va.2 e;have h2:(s.map (·.Var))[b]'(by simpa using hb)=(s.map (·.Var))[a]'(by simp;omega):=by simpa using this
    have:=(List.getElem_inj hd').1 h2;omega
   omega
  have hF:Hv s=Hv l:=Aq8 hp;refine⟨λn z H''=>z.2.1=s/\n=s.length-z.2.2.1/\z.2.2.1<=s.length/\∃M2,CxH H'' c b M2/\Stp M1 M2/\Yu M1 M2 [Hv l]/\FrM b M1 H' H''/\M2.ws=M1.ws/\M2.At (match s[z.2.2.1-1]? with|some t=>if z.2.2.1=0 then M2.S.n else M2.lv t.Var|none=>M2.S.n) z.1/\B.den M2.T z.1=Hv (s.take z.2.2.1),⟨_,rfl,rfl,Nat.zero_le _,M1,cx,Stp.refl iI.si iV,Yu.refl,FrM.refl,rfl,?_,?_⟩,?_⟩
  .have:(match s[0-1]? with|some t=>if (0:Nat)=0 then M1.S.n else M1.lv t.Var|none=>M1.S.n)=M1.S.n:=by split<;>rfl
   show M1.At (match s[0-1]? with|some t=>if (0:Nat)=0 then M1.S.n else M1.lv t.Var|none=>M1.S.n) 0;rw[this];exact Amt (Int.le_refl _)
  .show B.den M1.T 0=Hv (s.take 0);rw[B.Pq];funext a;rfl
  rintro n2 ⟨r,s2,j,_⟩ H2 ⟨e2,hn2,hj0,M2,cx2,st2,cov2,f2,w2,a2,d2⟩;have e2:s2=s:=e2;subst e2;have hn2:n2=s2.length-j:=hn2;have hj:j<=s2.length:=hj0;replace a2:M2.At (match s2[j-1]? with|some t=>if j=0 then M2.S.n else M2.lv t.Var|none=>M2.S.n) r:=a2;replace d2:B.den M2.T r=Hv (s2.take j):=d2;obtain⟨i2,kp2⟩:=st2.kp iI (by rw[w2];exact Nat.le_refl _);refine⟨λhjl _=>?_,λhjl=>?_⟩
  .have hjl':j<s2.length:=hjl;have hv2:=hv' _ (List.getElem_mem hjl');have hv3:0<=s2[j].Var/\s2[j].Var<M2.S.n:=by rw[st2.n];exact hv2
   have hlvn:=(i2.si.C6.od.rng _ hv3.1 hv3.2).2;have hlow:M2.lv s2[j].Var+1<=(match s2[j-1]? with|some t=>if j=0 then M2.S.n else M2.lv t.Var|none=>M2.S.n):=by
    by_cases h0:j=0
    .subst h0;split
     .exact hlvn
     .exact hlvn
    .have hj1:j-1<s2.length:=by omega
     rw[List.getElem?_eq_getElem hj1];simp only[h0,if_false];have:=hst (j-1) j (by omega) hjl';rw[J7 hjl',J7 hj1]at this;rw[st2.lv];omega
   have hAt:M2.At (M2.lv s2[j].Var+1) r:=⟨a2.1,Int.le_trans hlow a2.2⟩
   have h1At:M2.At (M2.lv s2[j].Var+1) 1:=at_one hlvn;have key:∀lo hi:Int,((s2[j].Yes=true/\lo=1/\hi=r)∨(¬s2[j].Yes=true/\lo=r/\hi=1))->Wp Y0 Hm Gh (some c,s2[j].Var,lo,hi,()) H2 (λ(b_1:Int×Unit)(_:Unit)(H3:HY)=>j+1<=9223372036854775807/\∃m,m<n2/\(s2=s2/\m=s2.length-(j+1)/\j+1<=s2.length/\∃M3,CxH H3 c b M3/\Stp M1 M3/\Yu M1 M3 [Hv l]/\FrM b M1 H' H3/\M3.ws=M1.ws/\M3.At (match s2[(j+1)-1]? with|some t=>if j+1=0 then M3.S.n else M3.lv t.Var|none=>M3.S.n) b_1.1/\B.den M3.T b_1.1=Hv (s2.take (j+1)))) X':=λlo hi hc=>by
    have hden:(λa:B.As=>if a s2[j].Var=true then B.den M2.T hi a else B.den M2.T lo a)=Hv (s2.take (j+1)):=by
     rw[<-Aq7 hjl' d2];funext a;rcases hc with ⟨hy,rfl,rfl⟩|⟨hy,rfl,rfl⟩
     .simp only[hy,if_true];rw[B.Jo]
     .have hy:s2[j].Yes=false:=by simpa using hy
      simp only[hy];rw[B.Jo];simp
    have hAll:M2.At (M2.lv s2[j].Var+1) lo/\M2.At (M2.lv s2[j].Var+1) hi:=by
     rcases hc with ⟨_,rfl,rfl⟩|⟨_,rfl,rfl⟩
     .exact⟨h1At,hAt⟩
     .exact⟨hAt,h1At⟩
    refine Akl (F:=Hv l) cx2 i2.si st2.mv hv3 hAll.1 hAll.2 ?_ (λM3 H3 lf cx3 st3 cov3 f3 hp=>?_) λe M3 H3 cx3 st3 cov3 f3 w3 a3 d3=>⟨by show j+1<=_;omega,s2.length-(j+1),by omega,rfl,rfl,by omega,M3,cx3,st2.trans st3,cov2.trans (cov3.l (List.mem_singleton.2 rfl)),f2.trans f3 st2.bs,w3.trans w2,?_,?_⟩
    .rw[hden,<-hF,st2.lv];exact Avf hd' hjl' hst
    .exact hpan M3 H3 lf cx3 (st2.trans st3) (cov2.trans (cov3.l (List.mem_singleton.2 rfl))) (f2.trans f3 st2.bs) (hp.step w2)
    .rw[Nat.add_sub_cancel,List.getElem?_eq_getElem hjl'];simp only[Nat.succ_ne_zero,if_false];rw[st3.lv];exact a3
    .exact d3.trans hden
   exact⟨hjl',hjl',λhy=>key 1 r (.inl ⟨hy,rfl,rfl⟩),λhy=>key r 1 (.inr ⟨hy,rfl,rfl⟩)⟩
  .have hjl':¬j<s2.length:=hjl;have:j=s2.length:=by omega
   subst this;rw[List.take_length]at d2;exact hfin r M2 H2 cx2 st2 cov2 f2 w2 a2.1 (d2.trans hF)
section
set_option maxRecDepth 100000
set_option maxHeartbeats 2000000
def Pt(m:Option Nat)(l:Ae)(H:HY)(Q:Option Nat×Int×Unit->UU)(X:PX):Prop:=(m=none->Q (none,5,()) () H)/\(¬m=none->Wp Y0 Gj Fl (m,()) H (λ(b:Int×Unit)_ G=>Wp Y0 Mq Ja (l,()) G (λ(b1:Int×Unit)_ G=>InK .i64 b1.1->InK .i64 (2*b1.1)/\(b.1<2*b1.1->Q (none,9,()) () G)/\(¬b.1<2*b1.1->∀(b:Nat),G b=none->Q (some b,0,()) () (Ab G b (Ob.st C3 {m:=m,l:={Ag:=l.Ag,Bits:=l.Bits,At:=l.At:Ae},live:=[],e:=(0:Int):Ap})))) X) X)
theorem Tq m l H Q X(hyp_:Pt m l H Q X):Wp Y0 Fm Ep (m,l,()) H Q X:=wF Tryz.f40 {pr:=[(20,1)],im:=[3]} (by kernel_rfl) hyp_ (by kernel_rfl)
def Ad0(w:Option Nat)(h e:Int)(H:HY)(Q:Int×Unit->UU)(X:PX):Prop:=∃(b:Nat),w=some b/\∃(x:Ap),H b=some (Ob.st C3 x)/\(¬x.e=(0:Int)->(e=(0:Int)->{x with l:={Ag:=x.l.Ag,Bits:=x.l.Bits,At:=x.l.At:Ae}}=x/\Wp Y0 Ht Gg (x.m,[h],()) H (λ(b:Int×Unit)_ G=>Q (0,()) () G) X)/\(¬e=(0:Int)->{x with l:={Ag:=x.l.Ag,Bits:=x.l.Bits,At:=x.l.At:Ae}}=x/\Q (0,()) () H))/\(¬¬x.e=(0:Int)->(¬e=(0:Int)->Q (0,()) () (Ab H b (Ob.st C3 {x with l:={Ag:=x.l.Ag,Bits:=x.l.Bits,At:=x.l.At:Ae},e:=e})))/\(¬¬e=(0:Int)->Q (h,()) () (Ab H b (Ob.st C3 {x with l:={Ag:=x.l.Ag,Bits:=x.l.Bits,At:=x.l.At:Ae},live:=C4 x.live h true,e:=e}))))
theorem Adz w h e H Q X(hyp_:Ad0 w h e H Q X):Wp Y0 Bh Be (w,h,e,()) H Q X:=wF Tryz.f54 {} (by kernel_rfl) hyp_ (by kernel_rfl)
def Sq(w:Option Nat)(l:List Int)(H:HY)(Q:Unit->UU)(X:PX):Prop:=l.length<=9223372036854775807->∃(V:Nat->Nat×Unit->HP),(∃(n:Nat),V n (0,()) H)/\∀(n:Nat)(x:Nat×Unit)(H:HY),V n x H->(x.1<l.length->x.1<=9223372036854775807->∃(h:x.1<l.length),∃(b:Nat),w=some b/\∃(x1:Ap),H b=some (Ob.st C3 x1)/\((Ac x1.live l[x.1]).getD false=true->Wp Y0 Ht Gg (x1.m,[l[x.1]],()) (Ab H b (Ob.st C3 {x1 with l:={Ag:=x1.l.Ag,Bits:=x1.l.Bits,At:=x1.l.At:Ae},live:=Ez x1.live l[x.1]})) (λ(b:Int×Unit)_ G=>x.1+1<=9223372036854775807/\∃(m:Nat),m<n/\V m (x.1+1,()) G) X)/\(¬(Ac x1.live l[x.1]).getD false=true->x.1+1<=9223372036854775807/\∃(m:Nat),m<n/\{x1 with l:={Ag:=x1.l.Ag,Bits:=x1.l.Bits,At:=x1.l.At:Ae}}=x1/\V m (x.1+1,()) H))/\(¬x.1<l.length->Q () () H)
theorem Acs w l H Q X(hyp_:Sq w l H Q X):Wp Y0 Ao Al (w,l,()) H Q X:=wF Tryz.f128 {lp:=[(1,⟨[(8,.nat)],[0,6,7],true⟩)]} (by kernel_rfl) hyp_ (by kernel_rfl)
def Uf(w:Option Nat)(do_:Option Nat×List Int×Unit->HY->(Int×Int×Unit->HP)->PX->Prop)(l:List Int)(H:HY)(Q:Int×Unit->UU)(X:PX):Prop:=∃(b:Nat),w=some b/\∃(x:Ap),H b=some (Ob.st C3 x)/\(¬x.e=(0:Int)->{x with l:={Ag:=x.l.Ag,Bits:=x.l.Bits,At:=x.l.At:Ae}}=x/\Q (0,()) () H)/\(¬¬x.e=(0:Int)->{x with l:={Ag:=x.l.Ag,Bits:=x.l.Bits,At:=x.l.At:Ae}}=x/\do_ (x.m,l,()) H (λ(b:Int×Int×Unit)(G:HY)=>Wp Y0 Bh Be (w,b.1,b.2.1,()) G (λ(b:Int×Unit)_ G=>Wp Y0 Ao Al (w,l,()) G (λ(b1 io:Unit)(G:HY)=>Q (b.1,()) () G) X) X) X)
theorem Ady w do_ l H Q X(hyp_:Uf w do_ l H Q X):Wp Y0 Cg B8 (w,do_,l,()) H Q X:=wF Tryz.f56 {} (by kernel_rfl) hyp_ (by kernel_rfl)
def Oq(w:Option Nat)(yes:Bool)(H:HY)(Q:Int×Unit->UU)(X:PX):Prop:=∃(b:Nat),w=some b/\∃(x:Ap),H b=some (Ob.st C3 x)/\({x with l:={Ag:=x.l.Ag,Bits:=x.l.Bits,At:=x.l.At:Ae}}=x/\Wp Y0 N3 Kg (x.m,yes,()) H (λ(b:Int×Unit)_ G=>Wp Y0 Jw Hq (x.m,b.1,()) G (λ(b:Int×Int×Unit)_ G=>Wp Y0 Bh Be (w,b.1,b.2.1,()) G (λ(b:Int×Unit)_ G=>Q (b.1,()) () G) X) X) X)/\{x with l:={Ag:=x.l.Ag,Bits:=x.l.Bits,At:=x.l.At:Ae}}=x/\Wp Y0 N3 Kg (x.m,yes,()) H (λ(b1:Int×Unit)_ G=>∃(x:Ap),G b=some (Ob.st C3 x)/\{x with l:={Ag:=x.l.Ag,Bits:=x.l.Bits,At:=x.l.At:Ae}}=x/\Wp Y0 Jw Hq (x.m,b1.1,()) G (λ(b:Int×Int×Unit)_ G=>Wp Y0 Bh Be (w,b.1,b.2.1,()) G (λ(b:Int×Unit)_ G=>Q (b.1,()) () G) X) X) X
theorem Vz w yes H Q X(hyp_:Oq w yes H Q X):Wp Y0 Cw Cj (w,yes,()) H Q X:=wF Tryz.f59 {} (by kernel_rfl) hyp_ (by kernel_rfl)
def Sp(w:Option Nat)(i n:Int)(Az:Bool)(H:HY)(Q:Int×Unit->UU)(X:PX):Prop:=∃(b:Nat),w=some b/\∃(x:Ap),H b=some (Ob.st C3 x)/\{x with l:={Ag:=x.l.Ag,Bits:=x.l.Bits,At:=x.l.At:Ae}}=x/\Wp Y0 Li Ip ({Ag:=x.l.Ag,Bits:=x.l.Bits,At:=x.l.At:Ae},i,()) H (λ(b1:List Int×Unit)_ G=>∃(M:List Int×Unit->HP),(∀(x:List Int×Unit)(H:HY),M x H->∃(x1:Ap),H b=some (Ob.st C3 x1)/\(InK .i64 i->(InK .i64 i->0<=i)/\∃(h:i.toNat<x1.l.Ag.length),{x1 with l:={Ag:=x1.l.Ag,Bits:=x1.l.Bits,At:=x1.l.At:Ae}}=x1/\∃(M:Int×Unit->HP),(∀(x2:Int×Unit)(H:HY),M x2 H->x.1.length<=9223372036854775807->x.1.length<=9223372036854775807->x.1.length<=9223372036854775807->(0:Int)<=(↑x.1.length:Int)/\(↑x.1.length:Int)=(↑x.1.length:Int)/\(↑x.1.length:Int).toNat*16<=281474976710656/\(x.1.length<=9223372036854775807->∃(V:Nat->List Ck×Nat×Unit->HP),(∃(n:Nat),V n (List.replicate (↑x.1.length:Int).toNat {Var:=(0:Int),Yes:=false:Ck},0,()) H)/\∀(n:Nat)(x3:List Ck×Nat×Unit)(H:HY),V n x3 H->(x3.2.1<x.1.length->x3.2.1<=9223372036854775807->∃(h:x3.2.1<x.1.length),InK .i64 x2.1->x3.2.1<=9223372036854775807->(BinOp.shr=BinOp.shr->InK .i64 x2.1)/\(0:Int)<=(↑x3.2.1:Int)/\(InK .i64 (x2.1.fdiv (2^min (↑x3.2.1:Int).toNat 64))->x3.2.1<=9223372036854775807->∃(h1:x3.2.1<x3.1.length),x3.2.1<x3.1.length/\x3.2.1+1<=(9223372036854775807:Nat)/\∃(m:Nat),m<n/\V m (x3.1.set x3.2.1 {Var:=x.1[x3.2.1],Yes:=decide (D0 BinOp.and .i64 (x2.1.fdiv (2^min (↑x3.2.1:Int).toNat 64)) (1:Int)=(1:Int)):Ck},x3.2.1+1,()) H))/\(¬x3.2.1<x.1.length->∃(x:Ap),H b=some (Ob.st C3 x)/\{x with l:={Ag:=x.l.Ag,Bits:=x.l.Bits,At:=x.l.At:Ae}}=x/\Wp Y0 O1 Mc (x.m,x3.1,()) H (λ(b:Int×Int×Unit)_ G=>Wp Y0 Bh Be (w,b.1,b.2.1,()) G (λ(b:Int×Unit)_ G=>Q (b.1,()) () G) X) X)))/\(¬x1.l.Ag[i.toNat].Bool=true->∃(x:Ap),H b=some (Ob.st C3 x)/\(InK .i64 i->(InK .i64 i->0<=i)/\∃(h:i.toNat<x.l.Ag.length),InK .i64 n->InK .i64 x.l.Ag[i.toNat].Lo->InK .i64 (n-x.l.Ag[i.toNat].Lo)/\{x with l:={Ag:=x.l.Ag,Bits:=x.l.Bits,At:=x.l.At:Ae}}=x/\M (n-x.l.Ag[i.toNat].Lo,()) H))/\(¬¬x1.l.Ag[i.toNat].Bool=true->M (n,()) H)))/\(Az=true->∃(x:Ap),G b=some (Ob.st C3 x)/\{x with l:={Ag:=x.l.Ag,Bits:=x.l.Bits,At:=x.l.At:Ae}}=x/\Wp Y0 J9 Hj ({Ag:=x.l.Ag,Bits:=x.l.Bits,At:=x.l.At:Ae},i,()) G (λ(b:List Int×Unit)_ G=>M (b.1,()) G) X)/\(¬Az=true->M (b1.1,()) G)) X
theorem Acr w i n Az H Q X(hyp_:Sp w i n Az H Q X):Wp Y0 Cr Ci (w,i,n,Az,()) H Q X:=wF Tryz.f63 {lp:=[(8,⟨[(10,.one (.own (.u 11))),(52,.nat)],[0,2,10,50,51],true⟩)],jn:=[(19,⟨[(9,.one (.dat (.sl I6)))],[0,1,2,3],true⟩),(35,⟨[(2,.one (.dat I6))],[0,1,3,9],true⟩)]} (by kernel_rfl) hyp_ (by kernel_rfl)
def Uh(w to:Option Nat)(n h:Int)(H:HY)(Q:Unit->UU)(X:PX):Prop:=∃(r:Nat),to=some r/\∃(m:List (Int×Int)),H r=some (Ob.mp (Ty.int .i64) (Ty.int .i64) m)/\((Ac m n).isSome=true->Wp Y0 Cg B8 (w,λ(a:Option Nat×List Int×Unit)(H:HY)(Q:Int×Int×Unit->HP)(X:Nat->Lf Y0.D->HP)=>Wp Y0 Rs P0 (a.1,a.2.1,()) H (λ(b:Int×Int×Unit)(x:Unit)(G:HY)=>Q (b.1,b.2.1,()) G) X,[(Ac m n).getD 0,h],()) H (λ(b:Int×Unit)_ G=>∃(r:Nat),to=some r/\∃(m:List (Int×Int)),G r=some (Ob.mp (Ty.int .i64) (Ty.int .i64) m)/\Q () () (Ab G r (Ob.mp (Ty.int .i64) (Ty.int .i64) (C4 m n b.1)))) X)/\(¬(Ac m n).isSome=true->∃(r:Nat),to=some r/\∃(m:List (Int×Int)),H r=some (Ob.mp (Ty.int .i64) (Ty.int .i64) m)/\Q () () (Ab H r (Ob.mp (Ty.int .i64) (Ty.int .i64) (C4 m n h))))
theorem Ad2 w to n h H Q X(hyp_:Uh w to n h H Q X):Wp Y0 C0 Cp (w,to,n,h,()) H Q X:=wF Tryz.f134 {} (by kernel_rfl) hyp_ (by kernel_rfl)
def Xj(v:Bi)(H:HY)(Q:Int×Int×Unit->UU)(X:PX):Prop:=(v.Bool=true->Q (0,1,()) () H)/\(¬v.Bool=true->Q (v.Lo,v.Hi,()) () H)
theorem Ah1 v H Q X(hyp_:Xj v H Q X):Wp Y0 Kr Iq (v,()) H Q X:=wF Tryz.f133 {im:=[1]} (by kernel_rfl) hyp_ (by kernel_rfl)
def Rz(w:Option Nat)(Az:Bool)(H:HY)(Q:Int×Unit->UU)(X:PX):Prop:=Wp Y0 Cw Cj (w,true,()) H (λ(b:Int×Unit)_ G=>∃(b1:Nat),w=some b1/\∃(x:Ap),G b1=some (Ob.st C3 x)/\(x.l.Ag.length<=9223372036854775807->{x with l:={Ag:=x.l.Ag,Bits:=x.l.Bits,At:=x.l.At:Ae}}=x/\∃(V:Nat->Int×Nat×Unit->HP),(∃(n:Nat),V n (b.1,0,()) G)/\∀(n:Nat)(x1:Int×Nat×Unit)(H:HY),V n x1 H->(x1.2.1<x.l.Ag.length->x1.2.1<=9223372036854775807->∃(h:x1.2.1<x.l.Ag.length),Wp Y0 Cw Cj (w,false,()) H (λ(b:Int×Unit)_ G=>Wp Y0 Kr Iq (x.l.Ag[x1.2.1],()) G (λ(b2:Int×Int×Unit)_ G=>∃(V1:Nat->Int×Int×Unit->HP),(∃(n:Nat),V1 n (b.1,b2.1,()) G)/\∀(n1:Nat)(x:Int×Int×Unit)(H:HY),V1 n1 x H->(x.2.1<=b2.2.1->Wp Y0 Cr Ci (w,(↑x1.2.1:Int),x.2.1,Az,()) H (λ(b:Int×Unit)_ G=>Wp Y0 Cg B8 (w,λ(a:Option Nat×List Int×Unit)(H:HY)(Q:Int×Int×Unit->HP)(X:Nat->Lf Y0.D->HP)=>Wp Y0 Rs P0 (a.1,a.2.1,()) H (λ(b:Int×Int×Unit)(x:Unit)(G:HY)=>Q (b.1,b.2.1,()) G) X,[x.1,b.1],()) G (λ(b:Int×Unit)_ G=>InK .i64 x.2.1->InK .i64 (x.2.1+1)/\∃(m:Nat),m<n1/\V1 m (b.1,x.2.1+1,()) G) X) X)/\(¬x.2.1<=b2.2.1->Wp Y0 Cg B8 (w,λ(a:Option Nat×List Int×Unit)(H:HY)(Q:Int×Int×Unit->HP)(X:Nat->Lf Y0.D->HP)=>Wp Y0 D6 Du (a.1,a.2.1,()) H (λ(b:Int×Int×Unit)(x:Unit)(G:HY)=>Q (b.1,b.2.1,()) G) X,[x1.1,x.1],()) H (λ(b:Int×Unit)_ G=>x1.2.1+1<=9223372036854775807/\∃(m:Nat),m<n/\V m (b.1,x1.2.1+1,()) G) X)) X) X)/\(¬x1.2.1<x.l.Ag.length->Q (x1.1,()) () H))) X
theorem Aam w Az H Q X(hyp_:Rz w Az H Q X):Wp Y0 Gu Fb (w,Az,()) H Q X:=wF Tryz.f67 {lp:=[(8,⟨[(8,.one (.dat I6)),(11,.one (.dat I6))],[0,1,5,6,10,18,19,20],true⟩),(3,⟨[(5,.one (.dat I6)),(20,.nat)],[0,1,18,19],true⟩)]} (by kernel_rfl) hyp_ (by kernel_rfl)
def Tr(m:Option Nat)(l:Ae)(Az:Bool)(H:HY)(Q:Int×Int×Unit->UU)(X:PX):Prop:=Wp Y0 Fm Ep (m,l,()) H (λ(b:Option Nat×Int×Unit)_ G=>(¬b.2.1=(0:Int)->Q (0,b.2.1,()) () G)/\(¬¬b.2.1=(0:Int)->Wp Y0 Gu Fb (b.1,Az,()) G (λ(b1:Int×Unit)_ G=>Wp Y0 El Dw (b.1,[b1.1],()) G (λ(b:Int×Unit)_ G=>Q (b1.1,b.1,()) () G) X) X)) X
theorem Zn m l Az H Q X(hyp_:Tr m l Az H Q X):Wp Y0 L4 Js (m,l,Az,()) H Q X:=wF Tryz.f20 {im:=[4]} (by kernel_rfl) hyp_ (by kernel_rfl)
def Zp(m:Option Nat)(l:Ae)(s:List Int)(Az:Bool)(H:HY)(Q:Int×Int×Unit->UU)(X:PX):Prop:=Wp Y0 Fm Ep (m,l,()) H (λ(b:Option Nat×Int×Unit)_ G=>(¬b.2.1=(0:Int)->Q (0,b.2.1,()) () G)/\(¬¬b.2.1=(0:Int)->Wp Y0 Ach Sc (l,s,()) G (λ(b:List Bool×Int×Unit)_ G=>(¬b.2.1=(0:Int)->Q (0,b.2.1,()) () G)/\(¬¬b.2.1=(0:Int)->Wp Y0 Yr Qo (l,()) G (λ(b1:List Int×Unit)_ G=>(Az=true->Wp Y0 W8 P2 (l,()) G (λ(b2:List Int×Unit)_ G=>b.1.length<=9223372036854775807->b.1.length<=9223372036854775807->b.1.length<=9223372036854775807->(0:Int)<=(↑b.1.length:Int)/\(↑b.1.length:Int)=(↑b.1.length:Int)/\(↑b.1.length:Int).toNat*16<=281474976710656/\(b.1.length<=9223372036854775807->∃(V:Nat->List Int×List Ck×List Bool×Nat×Unit->HP),(∃(n:Nat),V n (b2.1,List.replicate (↑b.1.length:Int).toNat {Var:=(0:Int),Yes:=false:Ck},b.1,0,()) G)/\∀(n:Nat)(x:List Int×List Ck×List Bool×Nat×Unit)(H:HY),V n x H->(x.2.2.2.1<b.1.length->x.2.2.2.1<=9223372036854775807->∃(h:x.2.2.2.1<x.2.2.1.length),∃(h:x.2.2.2.1<x.2.2.1.length),x.2.2.2.1<=9223372036854775807->∃(h1:x.2.2.2.1<x.1.length),∃(h2:x.2.2.2.1<x.1.length),x.2.2.2.1<=9223372036854775807->∃(h3:x.2.2.2.1<x.2.1.length),x.2.2.2.1<x.2.1.length/\x.2.2.2.1+1<=9223372036854775807/\∃(m:Nat),m<n/\V m (x.1,x.2.1.set x.2.2.2.1 {Var:=x.1[x.2.2.2.1],Yes:=x.2.2.1[x.2.2.2.1]:Ck},x.2.2.1,x.2.2.2.1+1,()) H)/\(¬x.2.2.2.1<b.1.length->Wp Y0 O1 Mc (m,x.2.1,()) H (λ(b:Int×Int×Unit)_ G=>Q (b.1,b.2.1,()) () G) X))) X)/\(¬Az=true->b.1.length<=9223372036854775807->b.1.length<=9223372036854775807->b.1.length<=9223372036854775807->(0:Int)<=(↑b.1.length:Int)/\(↑b.1.length:Int)=(↑b.1.length:Int)/\(↑b.1.length:Int).toNat*16<=281474976710656/\(b.1.length<=9223372036854775807->∃(V:Nat->List Int×List Ck×List Bool×Nat×Unit->HP),(∃(n:Nat),V n (b1.1,List.replicate (↑b.1.length:Int).toNat {Var:=(0:Int),Yes:=false:Ck},b.1,0,()) G)/\∀(n:Nat)(x:List Int×List Ck×List Bool×Nat×Unit)(H:HY),V n x H->(x.2.2.2.1<b.1.length->x.2.2.2.1<=9223372036854775807->∃(h:x.2.2.2.1<x.2.2.1.length),∃(h:x.2.2.2.1<x.2.2.1.length),x.2.2.2.1<=9223372036854775807->∃(h1:x.2.2.2.1<x.1.length),∃(h2:x.2.2.2.1<x.1.length),x.2.2.2.1<=9223372036854775807->∃(h3:x.2.2.2.1<x.2.1.length),x.2.2.2.1<x.2.1.length/\x.2.2.2.1+1<=9223372036854775807/\∃(m:Nat),m<n/\V m (x.1,x.2.1.set x.2.2.2.1 {Var:=x.1[x.2.2.2.1],Yes:=x.2.2.1[x.2.2.2.1]:Ck},x.2.2.1,x.2.2.2.1+1,()) H)/\(¬x.2.2.2.1<b.1.length->Wp Y0 O1 Mc (m,x.2.1,()) H (λ(b:Int×Int×Unit)_ G=>Q (b.1,b.2.1,()) () G) X)))) X)) X)) X
theorem Aja m l s Az H Q X(hyp_:Zp m l s Az H Q X):Wp Y0 Tm Pf (m,l,s,Az,()) H Q X:=wF Tryz.f21 {lp:=[(12,⟨[(14,.one (.own I6)),(15,.one (.own (.u 11))),(44,.one (.own .bool)),(46,.nat)],[0,14,15,44,45],true⟩)],im:=[5]} (by kernel_rfl) hyp_ (by kernel_rfl)
def Zo(m:Option Nat)(l:Ae)(t:A6)(H:HY)(Q:Int×Int×Unit->UU)(X:PX):Prop:=Wp Y0 Fm Ep (m,l,()) H (λ(b:Option Nat×Int×Unit)_ G=>(¬b.2.1=(0:Int)->Q (0,b.2.1,()) () G)/\(¬¬b.2.1=(0:Int)->Wp Y0 Lh Iz (l.Ag,t,true,()) G (λ(b1:Ai×Int×Unit)_ G=>(¬b1.2.1=(0:Int)->Q (0,b1.2.1,()) () G)/\(¬¬b1.2.1=(0:Int)->(¬b1.1.Bool=true->Q (0,13,()) () G)/\(¬¬b1.1.Bool=true->Wp Y0 Mr Jb (b.1,t,()) G (λ(b2:Int×Unit)_ G=>Wp Y0 El Dw (b.1,[b2.1],()) G (λ(b:Int×Unit)_ G=>Q (b2.1,b.1,()) () G) X) X))) X)) X
theorem Ai9 m l t H Q X(hyp_:Zo m l t H Q X):Wp Y0 Tl Pe (m,l,t,()) H Q X:=wF Tryz.f12 {im:=[4,5]} (by kernel_rfl) hyp_ (by kernel_rfl)
end
section
structure WK(H:HY)(wb b:Nat)(M0 M:Mn)(L:Ae)(lv:List (Int×Bool)):Prop where
 ob:H wb=some (.st C3 ({m:=some b,l:=L,live:=lv,e:=0}:Ap))
 mg:MG H b M
 bs:F8 M0 M
 n0:2<=M0.nx
 nx:M0.nx<=M.nx
 nd:mnd lv
 tr:∀p∈lv,p.2=true
 lo:∀h,h<M0.nx->M.Ba h=M0.Ba h/\Ac lv h=none
 hi:∀h,M0.nx<=h->((Ac lv h).isSome=true↔M.Ba h≠none)
 ln:M.hs.length=M0.hs.length+lv.length
def FrW(wb b:Nat)(M:Mn)(H H':HY):Prop:=∀c,H c≠none->c≠wb->K0 b M c->H' c=H c
variable {wb b:Nat} {M:Mn} {H:HY}
theorem FrW.refl:FrW wb b M H H:=λ_ _ _ _=>rfl
variable {H':HY}
theorem FrW.trans{H'':HY}(h:FrW wb b M H H')(k:FrW wb b M H' H''):FrW wb b M H H'':=λc a0 a1 a2=>by have e:=h c a0 a1 a2;rw[k c (by rw[e];exact a0) a1 a2,e]
theorem FrH.w(f:FrH b M H H'):FrW wb b M H H':=λc a0 _ n=>f.at a0 n
theorem FrW.same{wb b:Nat}{M M':Mn}{H H':HY}(f:FrW wb b M' H H')(e:F8 M M'):FrW wb b M H H':=λc a0 a1 n=>f c a0 a1 (n.same e)
variable {c:Nat} {M':Mn}
theorem K0.back(h:K0 b M' c)(e:F8 M M'):K0 b M c:=⟨h.b,by rw[<-e.mb];exact h.mb,by rw[<-e.sb];exact h.sb,by rw[<-e.bl];exact h.bl,by rw[<-e.bp];exact h.bp,by rw[<-e.tb];exact h.tb⟩
theorem MG.notM{m:Nat}{x:Y0.O m}(h:MG H b M)(hc:H c=some (.st m x))(h0:m≠Eo)(h5:m≠Da)(h1:m≠A8)(h2:m≠Eb)(h3:m≠Ek)(h4:m≠Ct):K0 b M c:=by refine⟨By hc h.h.ob h0,By hc h.h.me h5,By hc h.h.st.st h1,By hc h.h.st.lv h2,By hc h.h.st.po h3,λhm=>?_⟩;obtain⟨v,hv,e⟩:=List.mem_iff_getElem.1 hm;exact By hc (h.h.st.ta v hv) h4 e.symm
theorem MG.set{m:Nat}{x:Y0.O m}{y:Ob Y0}(h:MG H b M)(hc:H c=some (.st m x))(n:K0 b M c):MG (Ab H c y) b M:=⟨h.h.other n hc,h.i,h.v,h.e,h.n8,h.rm⟩
variable {M0:Mn} {L:Ae} {lv:List (Int×Bool)}
theorem WK.wn(h:WK H wb b M0 M L lv):K0 b M wb:=h.mg.notM h.ob (by decide) (by decide) (by decide) (by decide) (by decide) (by decide)
theorem WK.live(h:WK H wb b M0 M L lv){g:Int}(hg:(Ac lv g).isSome=true):M0.nx<=g/\g<M.nx/\1<g/\∃F,M.Ba g=some F:=by
 have h1:M0.nx<=g:=by refine Classical.byContradiction λhn=>?_;rw[(h.lo g (by omega)).2]at hg;cases hg
 have h2:=(h.hi g h1).1 hg;cases e:M.Ba g with
 |none=>exact absurd e h2
 |some F=>
  obtain⟨x,hx,_⟩:=Mn.Ju e;have h3:=h.mg.i.ok g x hx;refine⟨h1,h3.2.2,?_,F,rfl⟩;have:=h.n0;omega
theorem Ad7{F:B.Fn}{X:PX}{Q:Int×Unit->UU}(w:WK H wb b M0 M L lv)(g:MG H' b M')(nw:New M M' F)(f:FrH b M H H')(h:∀H'',WK H'' wb b M0 M' L (C4 lv M.nx true)->Ac lv M.nx=none->FrW wb b M H H''->Q (M.nx,()) () H''):Wp Y0 Bh Be (some wb,M.nx,0,()) H' Q X:=by
 refine Adz _ _ _ _ _ _ ?_;have hob:H' wb=some (.st C3 ({m:=some b,l:=L,live:=lv,e:=0}:Ap)):=by rw[f.at (by rw[w.ob];simp) w.wn];exact w.ob
 have hnone:Ac lv M.nx=none:=by
  cases e:Ac lv M.nx with
  |none=>rfl
  |some t=>
   have h1:=(w.hi M.nx w.nx).1 (by rw[e];rfl);refine absurd (Mn.X2.2 ?_) h1;cases e2:Ac M.hs M.nx with
   |none=>rfl
   |some x=>have:=(w.mg.i.ok _ _ e2).2.2;omega
 refine⟨wb,rfl,_,hob,λh=>absurd rfl h,λ_=>⟨λh=>absurd rfl h,λ_=>?_⟩⟩;have n':K0 b M' wb:=w.wn.same nw.bs;refine h _ ⟨Aj _ _ _,g.set hob n',w.bs.trans nw.bs,w.n0,by rw[nw.nx];have:=w.nx;omega,Pm w.nd _ _,λp hp=>(Agt hp).elim (w.tr p) id,λk hk=>?_,λk hk=>?_,?_⟩ hnone (f.w.trans λc _ a1 _=>Ad _ _ a1)
 .have hne:k≠M.nx:=by have:=w.nx;omega
  rw[nw.Ba,if_neg hne,D4,if_neg hne];exact w.lo k hk
 .rw[nw.Ba,D4];split
  .simp
  .exact w.hi k hk
 .rw[nw.ln,Rn hnone,w.ln];omega
theorem WK.gone{g:Int}(w:WK H wb b M0 M L lv)(hg:(Ac lv g).isSome=true)(g':MG H' b M')(gn:A81 M M' g)(hob:H' wb=some (.st C3 ({m:=some b,l:=L,live:=Ez lv g,e:=0}:Ap))):WK H' wb b M0 M' L (Ez lv g)/\(Ez lv g).length+1=lv.length:=by
 have hl:=w.live hg;have len:∀{m:List (Int×Bool)},(Ac m g).isSome=true->(Ez m g).length+1=m.length:=by
  intro m;induction m with
  |nil=>intro h;cases h
  |cons p m ih=>
   intro h;unfold Ez;split
   .rfl
   .rename_i hp;have h:(if p.1=g then some p.2 else Ac m g).isSome=true:=h;rw[if_neg hp]at h;rw[List.length_cons,List.length_cons,ih h]
 have mem:∀{m:List (Int×Bool)}{p:Int×Bool},p∈Ez m g->p∈m:=by
  intro m;induction m with
  |nil=>intro p h;exact h
  |cons q m ih=>
   intro p h;unfold Ez at h;split at h
   .exact List.mem_cons_of_mem _ h
   .rcases List.mem_cons.1 h with rfl|h
    .exact List.mem_cons_self
    .exact List.mem_cons_of_mem _ (ih h)
 refine⟨⟨hob,g',w.bs.trans gn.bs,w.n0,by rw[gn.nx];exact w.nx,Abx w.nd _,λp hp=>w.tr p (mem hp),λk hk=>?_,λk hk=>?_,?_⟩,len hg⟩
 .have hne:k≠g:=by omega
  rw[gn.Ba,if_neg hne,Nc w.nd,if_neg hne];exact w.lo k hk
 .rw[gn.Ba,Nc w.nd];split
  .simp
  .exact w.hi k hk
 .have:=gn.ln;have:=len hg;have:=w.ln;omega
theorem Aa0{l:List Int}{X:PX}{Q:Unit->UU}(w:WK H wb b M0 M L lv)(hn:M.nx<576460752303423487)(hll:l.length<=1000000)(h:∀M' lv' H',WK H' wb b M0 M' L lv'->M'.nx=M.nx->(∀k,Ac lv' k=if k∈l then none else Ac lv k)->(∀k,M'.Ba k=if k∈l/\(Ac lv k).isSome=true then none else M.Ba k)->lv'.length<=lv.length->(l.Nodup->(∀k∈l,(Ac lv k).isSome=true)->lv'.length+l.length=lv.length)->FrW wb b M H H'->Q () () H'):Wp Y0 Ao Al (some wb,l,()) H Q X:=by
 refine Acs _ _ _ _ _ ?_;unfold Sq;refine λ_=>⟨λn z H'=>n=l.length-z.1/\z.1<=l.length/\∃M' lv',WK H' wb b M0 M' L lv'/\F8 M M'/\M'.nx=M.nx/\(∀k,Ac lv' k=if k∈l.take z.1 then none else Ac lv k)/\(∀k,M'.Ba k=if k∈l.take z.1/\(Ac lv k).isSome=true then none else M.Ba k)/\lv'.length<=lv.length/\(l.Nodup->(∀k∈l,(Ac lv k).isSome=true)->lv'.length+z.1=lv.length)/\FrW wb b M H H',⟨_,rfl,Nat.zero_le _,M,lv,w,.refl,rfl,λk=>by simp,λk=>by simp,Nat.le_refl _,λ_ _=>rfl,FrW.refl⟩,?_⟩
 rintro n ⟨j,_⟩ H' ⟨hn0,hj0,M',lv',w',bs,nx,e1,e2,le0,le1,f⟩;have hnj:n=l.length-j:=hn0;have hj:j<=l.length:=hj0;replace e1:∀k,Ac lv' k=if k∈l.take j then none else Ac lv k:=e1
 replace e2:∀k,M'.Ba k=if k∈l.take j/\(Ac lv k).isSome=true then none else M.Ba k:=e2
 replace le1:l.Nodup->(∀k∈l,(Ac lv k).isSome=true)->lv'.length+j=lv.length:=le1;clear hn0 hj0;refine⟨λhjl _=>?_,λhjl=>?_⟩
 .have hjl':j<l.length:=hjl;have tk:∀k,k∈l.take (j+1)↔k∈l.take j∨k=l[j]:=λk=>by rw[List.take_succ_eq_append_getElem hjl',List.mem_append,List.mem_singleton]
  refine⟨hjl',wb,rfl,_,w'.ob,λht=>?_,λht=>⟨by show j+1<=_;omega,l.length-(j+1),by omega,rfl,rfl,by show j+1<=_;omega,M',lv',w',bs,nx,λk=>?_,λk=>?_,le0,λhnd hall=>?_,f⟩⟩
  .have ht:(Ac lv' l[j]).getD false=true:=ht;have hs:(Ac lv' l[j]).isSome=true:=by
    cases e:Ac lv' l[j] with
    |none=>rw[e]at ht;cases ht
    |some t=>rfl
   obtain⟨g1,g2,g3,F,hF⟩:=w'.live hs;refine Abz (M:=M') (w'.mg.set w'.ob w'.wn) (by omega) g3 hF λM2 H2 e mg2 gn f2=>?_;have hob2:H2 wb=some (.st C3 ({m:=some b,l:=L,live:=Ez lv' l[j],e:=0}:Ap)):=by rw[f2.at (by rw[Aj];simp) w'.wn,Aj]
   obtain⟨w2,len2⟩:=w'.gone hs mg2 gn hob2;have hnt:l[j]∉l.take j:=λhm=>by have:=e1 l[j];rw[if_pos hm]at this;rw[this]at hs;cases hs
   have hs0:(Ac lv l[j]).isSome=true:=by have:=e1 l[j];rw[if_neg hnt]at this;rw[<-this];exact hs
   refine⟨by show j+1<=_;omega,l.length-(j+1),by omega,rfl,by show j+1<=_;omega,M2,_,w2,bs.trans gn.bs,gn.nx.trans nx,λk=>?_,λk=>?_,by omega,λhnd hall=>?_,(f.trans λc _ a1 _=>Ad _ _ a1).trans (f2.w.same bs)⟩
   .show _=if k∈l.take (j+1) then none else Ac lv k
    rw[Nc w'.nd,e1];by_cases hk:k=l[j]
    .rw[if_pos hk,if_pos ((tk k).2 (.inr hk))]
    .rw[if_neg hk];by_cases hm:k∈l.take j
     .rw[if_pos hm,if_pos ((tk k).2 (.inl hm))]
     .rw[if_neg hm,if_neg λh=>((tk k).1 h).elim hm hk]
   .show _=if k∈l.take (j+1)/\(Ac lv k).isSome=true then none else M.Ba k
    rw[gn.Ba,e2];by_cases hk:k=l[j]
    .rw[if_pos hk,if_pos ⟨(tk k).2 (.inr hk),by rw[hk];exact hs0⟩]
    .rw[if_neg hk];by_cases hm:k∈l.take j
     .have:=(tk k).2 (.inl hm);simp only[hm,this]
     .have:¬k∈l.take (j+1):=λh=>((tk k).1 h).elim hm hk;simp only[hm,this]
   .have:=le1 hnd hall;show (Ez lv' l[j]).length+(j+1)=lv.length;omega
  .have hn':Ac lv' l[j]=none:=by
    cases e:Ac lv' l[j] with
    |none=>rfl
    |some t=>
     have:=w'.tr _ (Nu e);simp only at this;subst this;have ht:¬(Ac lv' l[j]).getD false=true:=ht;rw[e]at ht;exact absurd rfl ht
   show _=if k∈l.take (j+1) then none else Ac lv k
   rw[e1];by_cases hk:k=l[j]
   .subst hk;have:=e1 l[j];rw[hn']at this;rw[if_pos ((tk _).2 (.inr rfl)),<-this]
   .by_cases hm:k∈l.take j
    .rw[if_pos hm,if_pos ((tk k).2 (.inl hm))]
    .rw[if_neg hm,if_neg λh=>((tk k).1 h).elim hm hk]
  .have hn':Ac lv' l[j]=none:=by
    cases e:Ac lv' l[j] with
    |none=>rfl
    |some t=>
     have:=w'.tr _ (Nu e);simp only at this;subst this;have ht:¬(Ac lv' l[j]).getD false=true:=ht;rw[e]at ht;exact absurd rfl ht
   show _=if k∈l.take (j+1)/\(Ac lv k).isSome=true then none else M.Ba k
   rw[e2];by_cases hk:k=l[j]
   .subst hk;have h1:=e1 l[j];rw[hn']at h1;by_cases hm:l[j]∈l.take j
    .have:=(tk l[j]).2 (.inl hm);simp only[hm,this]
    .rw[if_neg hm]at h1;rw[if_neg (λh=>hm h.1),if_neg (λh=>by rw[<-h1]at h;cases h.2)]
   .by_cases hm:k∈l.take j
    .have:=(tk k).2 (.inl hm);simp only[hm,this]
    .have:¬k∈l.take (j+1):=λh=>((tk k).1 h).elim hm hk;simp only[hm,this]
  .exfalso;have hnt:l[j]∉l.take j:=λhm=>by obtain⟨q,hq,e⟩:=List.mem_iff_getElem.1 hm;rw[List.length_take]at hq;rw[List.getElem_take]at e;have:=(List.getElem_inj hnd).1 e;omega
   have h1:=e1 l[j];rw[if_neg hnt]at h1;have h2:=hall l[j] (List.getElem_mem hjl');rw[<-h1]at h2;obtain⟨t,ht2⟩:=Option.isSome_iff_exists.1 h2;have:=w'.tr _ (Nu ht2);simp only at this;subst this;have ht:¬(Ac lv' l[j]).getD false=true:=ht;rw[ht2]at ht;exact ht rfl
 .have hjl':¬j<l.length:=hjl;have:j=l.length:=by omega
  subst this;rw[List.take_length]at e1 e2;exact h M' lv' H' w' nx e1 e2 le0 le1 f
end
end Go.Proofs.YtcbkbpjlbmalmaaGreatDoor
