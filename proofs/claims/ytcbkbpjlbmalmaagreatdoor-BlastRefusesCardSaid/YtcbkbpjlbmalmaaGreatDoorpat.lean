/-
  The unique tables: ranging over a table. The store: turn, wants. (Merged by program out of 5 texts.)
-/
import Derived.Test.YtcbkbpjlbmalmaaGreatDoorpas
import Derived.Test.YtcbkbpjlbmalmaaGreatDoorpan
namespace Go.Proofs.YtcbkbpjlbmalmaaGreatDoor
open Go Go.X Go.Y
section
set_option maxRecDepth 100000
set_option maxHeartbeats 2000000
def Rh(s:Option Nat)(x y:Int)(H:HY)(Q:List A9×Unit->UU)(X:PX):Prop:=∀(b:Nat),H b=none->∃(b1:Nat),s=some b1/\∃(x1:Aa),Ab H b (Ob.st Bm []) b1=some (Ob.st A8 x1)/\(InK .i64 x->(InK .i64 x->0<=x)/\∃(h:x.toNat<x1.tables.length),∃(h:x.toNat<x1.tables.length),x1=x1/\∀(l:Nat)(r:Loop),Ab H b (Ob.st Bm []) l=none->Wp Y0 Lr Ib (λ(a:Af×Int×Unit)(H:HY)(Q:Bool×Unit->HP)(X:Nat->Lf Y0.D->HP)=>H l=some (Ob.lp r)/\H l=some (Ob.lp r)/\∃(b2:Nat),s=some b2/\∃(x:Aa),Ab H l (Ob.lp (Dy r)) b2=some (Ob.st A8 x)/\x=x/\Wp Y0 Bf Bc (x.Bs,a.2.1,()) (Ab H l (Ob.lp (Dy r))) (λ(b3:Am×Bool×Unit)_ G=>Wp Y0 Ij F6 (s,b3.1.Lo,y,()) G (λ(b4:Int×Int×Unit)_ G=>Wp Y0 Ij F6 (s,b3.1.Hi,y,()) G (λ(b5:Int×Int×Unit)_ G=>(¬b4.1=b4.2.1->∃(x:List A9),G b=some (Ob.st Bm x)/\(x.length+[{n:=b3.1,ll:=b4.1,lh:=b4.2.1,hl:=b5.1,hh:=b5.2.1:A9}].length)*72<=140737488355328/\Ab G b (Ob.st Bm (x++[{n:=b3.1,ll:=b4.1,lh:=b4.2.1,hl:=b5.1,hh:=b5.2.1:A9}])) l=some (Ob.lp (Dy r))/\Q (true,()) (Ab (Ab G b (Ob.st Bm (x++[{n:=b3.1,ll:=b4.1,lh:=b4.2.1,hl:=b5.1,hh:=b5.2.1:A9}]))) l (Ob.lp r)))/\(¬¬b4.1=b4.2.1->(¬b5.1=b5.2.1->∃(x:List A9),G b=some (Ob.st Bm x)/\(x.length+[{n:=b3.1,ll:=b4.1,lh:=b4.2.1,hl:=b5.1,hh:=b5.2.1:A9}].length)*72<=140737488355328/\Ab G b (Ob.st Bm (x++[{n:=b3.1,ll:=b4.1,lh:=b4.2.1,hl:=b5.1,hh:=b5.2.1:A9}])) l=some (Ob.lp (Dy r))/\Q (true,()) (Ab (Ab G b (Ob.st Bm (x++[{n:=b3.1,ll:=b4.1,lh:=b4.2.1,hl:=b5.1,hh:=b5.2.1:A9}]))) l (Ob.lp r)))/\(¬¬b5.1=b5.2.1->G l=some (Ob.lp (Dy r))/\Q (true,()) (Ab G l (Ob.lp r))))) X) X) X,x1.tables[x.toNat],()) (Ab (Ab H b (Ob.st Bm [])) l (Ob.lp r)) (λ(b2 io:Unit)(G:HY)=>(G l=some (Ob.lp r)/\∀(r':Loop),∃(x:List A9),Ab G l (Ob.lp r') b=some (Ob.st Bm x)/\Q (x,()) () (Dp (Ab G l (Ob.lp r')) b))∨G l=some (Ob.lp (Vy r Code.ret))/\∀(r':Loop),Q ([],()) () (Ab G l (Ob.lp r'))) X)
theorem Z5 s x y H Q X(hyp_:Rh s x y H Q X):Wp Y0 Mj I4 (s,x,y,()) H Q X:=wFS Tryz.f208 {pr:=[(7,48)],im:=[3,5],il:=ilT,tk:=[70]} (by kernel_rfl) hyp_ (by kernel_rfl)
def Qq(s:Option Nat)(x:Int)(l:List A9)(H:HY)(Q:Int×Unit->UU)(X:PX):Prop:=l.length<=9223372036854775807->∃(V:Nat->List (Af×Bool)×Nat×Nat×Unit->HP),(∃(n:Nat),V n ([],0,0,()) H)/\∀(n:Nat)(x1:List (Af×Bool)×Nat×Nat×Unit)(H:HY),V n x1 H->(x1.2.2.1<l.length->x1.2.2.1<=9223372036854775807->∃(h:x1.2.2.1<l.length),[{a0:=l[x1.2.2.1].ll,a1:=l[x1.2.2.1].hl:Af},{a0:=l[x1.2.2.1].lh,a1:=l[x1.2.2.1].hh:Af}].length<=9223372036854775807->∃(V1:Nat->List (Af×Bool)×Nat×List Af×Nat×Unit->HP),(∃(n:Nat),V1 n (x1.1,x1.2.1,[{a0:=l[x1.2.2.1].ll,a1:=l[x1.2.2.1].hl:Af},{a0:=l[x1.2.2.1].lh,a1:=l[x1.2.2.1].hh:Af}],0,()) H)/\∀(n1:Nat)(x2:List (Af×Bool)×Nat×List Af×Nat×Unit)(H:HY),V1 n1 x2 H->(x2.2.2.2.1<[{a0:=l[x1.2.2.1].ll,a1:=l[x1.2.2.1].hl:Af},{a0:=l[x1.2.2.1].lh,a1:=l[x1.2.2.1].hh:Af}].length->x2.2.2.2.1<=9223372036854775807->∃(h:x2.2.2.2.1<x2.2.2.1.length),∃(h:x2.2.2.2.1<x2.2.2.1.length),∃(b:Nat),s=some b/\∃(x3:Aa),H b=some (Ob.st A8 x3)/\(InK .i64 x->(InK .i64 x->0<=x)/\∃(h1:x.toNat<x3.tables.length),∃(h2:x.toNat<x3.tables.length),x3=x3/\Wp Y0 Fy Et (x3.tables[x.toNat],A7 x2.2.2.1[x2.2.2.2.1].a0 (Bt x2.2.2.1[x2.2.2.2.1].a1),A7 x2.2.2.1[x2.2.2.2.1].a1 (Bt x2.2.2.1[x2.2.2.2.1].a1),()) H (λ(b:Int×Bool×Unit)_ G=>(A7 x2.2.2.1[x2.2.2.2.1].a0 (Bt x2.2.2.1[x2.2.2.2.1].a1)=A7 x2.2.2.1[x2.2.2.2.1].a1 (Bt x2.2.2.1[x2.2.2.2.1].a1)->x2.2.2.2.1+1<=9223372036854775807/\∃(m:Nat),m<n1/\V1 m (x2.1,x2.2.1,x2.2.2.1,x2.2.2.2.1+1,()) G)/\(¬A7 x2.2.2.1[x2.2.2.2.1].a0 (Bt x2.2.2.1[x2.2.2.2.1].a1)=A7 x2.2.2.1[x2.2.2.2.1].a1 (Bt x2.2.2.1[x2.2.2.2.1].a1)->(b.2.1=true->x2.2.2.2.1+1<=9223372036854775807/\∃(m:Nat),m<n1/\V1 m (x2.1,x2.2.1,x2.2.2.1,x2.2.2.2.1+1,()) G)/\(¬b.2.1=true->((Ac x2.1 {a0:=A7 x2.2.2.1[x2.2.2.2.1].a0 (Bt x2.2.2.1[x2.2.2.2.1].a1),a1:=A7 x2.2.2.1[x2.2.2.2.1].a1 (Bt x2.2.2.1[x2.2.2.2.1].a1):Af}).getD false=true->x2.2.2.2.1+1<=9223372036854775807/\∃(m:Nat),m<n1/\V1 m (x2.1,x2.2.1,x2.2.2.1,x2.2.2.2.1+1,()) G)/\(¬(Ac x2.1 {a0:=A7 x2.2.2.1[x2.2.2.2.1].a0 (Bt x2.2.2.1[x2.2.2.2.1].a1),a1:=A7 x2.2.2.1[x2.2.2.2.1].a1 (Bt x2.2.2.1[x2.2.2.2.1].a1):Af}).getD false=true->x2.2.1+1<=9223372036854775807/\x2.2.2.2.1+1<=9223372036854775807/\∃(m:Nat),m<n1/\V1 m (C4 x2.1 {a0:=A7 x2.2.2.1[x2.2.2.2.1].a0 (Bt x2.2.2.1[x2.2.2.2.1].a1),a1:=A7 x2.2.2.1[x2.2.2.2.1].a1 (Bt x2.2.2.1[x2.2.2.2.1].a1):Af} true,x2.2.1+1,x2.2.2.1,x2.2.2.2.1+1,()) G)))) X))/\(¬x2.2.2.2.1<[{a0:=l[x1.2.2.1].ll,a1:=l[x1.2.2.1].hl:Af},{a0:=l[x1.2.2.1].lh,a1:=l[x1.2.2.1].hh:Af}].length->x1.2.2.1+1<=9223372036854775807/\∃(m:Nat),m<n/\V m (x2.1,x2.2.1,x1.2.2.1+1,()) H))/\(¬x1.2.2.1<l.length->Q ((↑x1.2.1:Int),()) () H)
theorem Yj s x l H Q X(hyp_:Qq s x l H Q X):Wp Y0 Lt Ie (s,x,l,()) H Q X:=wF Tryz.f209 {lp:=[(7,⟨[(7,.map (.u 17) .bool),(8,.nat),(36,.one (.own (.u 17))),(38,.nat)],[0,1,20,21,22,36,37],true⟩),(4,⟨[(7,.map (.u 17) .bool),(8,.nat),(22,.nat)],[0,1,20,21],true⟩)]} (by kernel_rfl) hyp_ (by kernel_rfl)
def Rk(s:Option Nat)(level:Int)(H:HY)(Q:Int×Unit->UU)(X:PX):Prop:=(s=none->Q (5,()) () H)/\(¬s=none->(level<0->Q (2,()) () H)/\(¬level<0->∃(b:Nat),s=some b/\∃(x:Aa),H b=some (Ob.st A8 x)/\∃(b1:Nat),x.levels=some b1/\x=x/\∃(x:Bd),H b1=some (Ob.st Eb x)/\(x.vars.length<=9223372036854775807->x.vars.length<=9223372036854775807->InK .i64 ((↑x.vars.length:Int)-1)/\((↑x.vars.length:Int)-(1:Int)<=level->x=x/\Q (2,()) () H)/\(¬(↑x.vars.length:Int)-(1:Int)<=level->x=x/\Wp Y0 D7 Dg (s,()) H (λ(b2:Int×Unit)_ G=>∃(x:Aa),G b=some (Ob.st A8 x)/\∃(b3:Nat),x.levels=some b3/\x=x/\∃(x:Bd),G b3=some (Ob.st Eb x)/\(InK .i64 level->(InK .i64 level->0<=level)/\∃(h:level.toNat<x.vars.length),∃(h:level.toNat<x.vars.length),x=x/\∃(x1:Aa),G b=some (Ob.st A8 x1)/\∃(b4:Nat),x1.levels=some b4/\x1=x1/\∃(x2:Bd),G b4=some (Ob.st Eb x2)/\(InK .i64 level->InK .i64 (level+1)/\(InK .i64 (level+1)->(InK .i64 (level+1)->0<=level+1)/\∃(h1:(level+1).toNat<x2.vars.length),∃(h2:(level+1).toNat<x2.vars.length),x2=x2/\Wp Y0 Mj I4 (s,x.vars[level.toNat],x2.vars[(level+(1:Int)).toNat],()) G (λ(b5:List A9×Unit)_ G=>Wp Y0 Lt Ie (s,x.vars[level.toNat],b5.1,()) G (λ(b6:Int×Unit)_ G=>Wp Y0 Mm I7 (s,()) G (λ(b7:Int×Unit)_ G=>Wp Y0 N0 J6 (s,()) G (λ(b8:Int×Unit)_ G=>InK .i64 b7.1->InK .i64 b8.1->InK .i64 (b7.1-b8.1)/\(b7.1-b8.1<b6.1->Q ((7:Int),()) () G)/\(¬b7.1-b8.1<b6.1->∃(x3:Aa),G b=some (Ob.st A8 x3)/\x3=x3/\Wp Y0 Ls Ic (x3.levels,level,()) G (λ(b9 io:Unit)(G:HY)=>b5.1.length<=(9223372036854775807:Nat)->∃(V:Nat->Nat×Unit->HP),(∃(n:Nat),V n (0,()) G)/\∀(n:Nat)(x4:Nat×Unit)(H:HY),V n x4 H->(x4.1<b5.1.length->x4.1<=(9223372036854775807:Nat)->∃(h3:x4.1<b5.1.length),∃(x5:Aa),H b=some (Ob.st A8 x5)/\(InK .i64 x.vars[level.toNat]->(InK .i64 x.vars[level.toNat]->0<=x.vars[level.toNat])/\∃(h4:x.vars[level.toNat].toNat<x5.tables.length),∃(h5:x.vars[level.toNat].toNat<x5.tables.length),x5=x5/\Wp Y0 Gm E9 (x5.tables[x.vars[level.toNat].toNat],b5.1[x4.1].n.Lo,b5.1[x4.1].n.Hi,()) H (λ(b:Int×Unit)_ G=>x4.1+1<=(9223372036854775807:Nat)/\∃(m:Nat),m<n/\V m (x4.1+1,()) G) X))/\(¬x4.1<b5.1.length->b5.1.length<=(9223372036854775807:Nat)->∃(V:Nat->Nat×Unit->HP),(∃(n:Nat),V n (0,()) H)/\∀(n:Nat)(x5:Nat×Unit)(H:HY),V n x5 H->(x5.1<b5.1.length->x5.1<=(9223372036854775807:Nat)->∃(h3:x5.1<b5.1.length),Wp Y0 D3 Dd (s,x.vars[level.toNat],b5.1[x5.1].ll,b5.1[x5.1].hl,()) H (λ(b10:Int×Unit)_ G=>Wp Y0 D3 Dd (s,x.vars[level.toNat],b5.1[x5.1].lh,b5.1[x5.1].hh,()) G (λ(b11:Int×Unit)_ G=>Wp Y0 B9 B3 (s,b10.1,()) G (λ(b12 io:Unit)(G:HY)=>Wp Y0 B9 B3 (s,b11.1,()) G (λ(b13 io:Unit)(G:HY)=>∃(x:Aa),G b=some (Ob.st A8 x)/\x=x/\Wp Y0 Cy Co (x.Bs,{ID:=b5.1[x5.1].n.ID,Var:=x2.vars[(level+1).toNat],Lo:=b10.1,Hi:=b11.1,Refs:=b5.1[x5.1].n.Refs:Am},()) G (λ(b14:Int×Unit)_ G=>∃(x:Aa),G b=some (Ob.st A8 x)/\(InK .i64 x2.vars[(level+(1:Int)).toNat]->(InK .i64 x2.vars[(level+(1:Int)).toNat]->0<=x2.vars[(level+(1:Int)).toNat])/\∃(h:x2.vars[(level+(1:Int)).toNat].toNat<x.tables.length),∃(h:x2.vars[(level+(1:Int)).toNat].toNat<x.tables.length),x=x/\Wp Y0 Fe Eh (x.tables[x2.vars[(level+(1:Int)).toNat].toNat],b10.1,b11.1,b5.1[x5.1].n.ID,()) G (λ(b:Int×Unit)_ G=>Wp Y0 Ca B4 (s,b5.1[x5.1].n.Lo,()) G (λ(b io:Unit)(G:HY)=>Wp Y0 Ca B4 (s,b5.1[x5.1].n.Hi,()) G (λ(b io:Unit)(G:HY)=>x5.1+1<=(9223372036854775807:Nat)/\∃(m:Nat),m<n/\V m (x5.1+1,()) G) X) X) X)) X) X) X) X) X)/\(¬x5.1<b5.1.length->Wp Y0 D7 Dg (s,()) H (λ(b:Int×Unit)_ G=>Q ((0:Int),()) () G) X))) X)) X) X) X) X)))) X))))
theorem Z8 s level H Q X(hyp_:Rk s level H Q X):Wp Y0 Ff Ed (s,level,()) H Q X:=wF Tryz.f163 {lp:=[(17,⟨[(98,.nat)],[0,5,6,96,97],true⟩),(12,⟨[(77,.nat)],[0,5,6,7,75,76],true⟩)],hd:=[(19,[11])]} (by kernel_rfl) hyp_ (by kernel_rfl)
def Qm(yield:Af×Int×Unit->HY->(Bool×Unit->HP)->PX->Prop)(p1:Option Nat)(H:HY)(Q:Unit->UU)(X:PX):Prop:=(p1=none->Q () () H)/\(¬p1=none->∃(b:Nat),p1=some b/\∃(x:Ay),H b=some (Ob.st Ct x)/\(some (Seg.blk (Y:=Y0) [AV.own (2)])=some (Seg.blk [AV.own (2)])/\True)/\∃(V:List (Af×Int)->List Af×Unit->HP),({i:=1,b:=b,n:=7,x:=none:Opn Y0}={i:=1,b:=b,n:=7,x:=none:Opn Y0}/\(some (Seg.blk (Y:=Y0) [AV.own (2)])=some (Seg.blk [AV.own (2)])/\True)/\V x.ids ([],()) H)/\∀(left:List (Af×Int))(x1:List Af×Unit)(H1:HY),V left x1 H1->(left=[]->(∃(tb:Nat),∃(y:Ay),p1=some tb/\Ab H1 b (Ob.st Ct x) tb=some (Ob.st Ct y))/\x1.1.length<4611686018427387904/\∀(xs':List Af),xs'.Perm x1.1->xs'.length<=9223372036854775807->∃(V:Nat->List Af×Nat×Unit->HP),(∃(n:Nat),V n (xs',0,()) (Ab H1 b (Ob.st Ct x)))/\∀(n:Nat)(x:List Af×Nat×Unit)(H:HY),V n x H->(x.2.1<xs'.length->x.2.1<=9223372036854775807->∃(h:x.2.1<x.1.length),∃(h:x.2.1<x.1.length),∃(b:Nat),p1=some b/\∃(x2:Ay),H b=some (Ob.st Ct x2)/\x2=x2/\yield (x.1[x.2.1],(Ac x2.ids x.1[x.2.1]).getD 0,()) H (λ(b:Bool×Unit)(G:HY)=>(¬b.1=true->Q () () G)/\(¬¬b.1=true->x.2.1+1<=9223372036854775807/\∃(m:Nat),m<n/\V m (x.1,x.2.1+1,()) G)) X)/\(¬x.2.1<xs'.length->Q () () H))/\∀(l1:List (Af×Int))(p:Af×Int)(l2:List (Af×Int)),left=l1++p::l2->(x1.1.length+[p.1].length)*16<=140737488355328/\{i:=1,b:=b,n:=7,x:=none:Opn Y0}={i:=1,b:=b,n:=7,x:=none:Opn Y0}/\(some (Seg.blk (Y:=Y0) [AV.own (2)])=some (Seg.blk [AV.own (2)])/\True)/\V (l1++l2) (x1.1++[p.1],()) H1)
theorem Yg yield p1 H Q X(hyp_:Qm yield p1 H Q X):Wp Y0 Lr Ib (yield,p1,()) H Q X:=wFS Tryz.f268 {lp:=[(8,⟨[(25,.one (.own (.u 17))),(27,.nat)],[0,1,25,26],true⟩),(3,⟨[(3,.one (.own (.u 17)))],[0,1,13],true⟩)],il:=ilS,hd:=[(10,[6])]} (by kernel_rfl) hyp_ (by kernel_rfl)
def Age(room:Int)(H:HY)(Q:Option Nat×Int×Unit->UU)(X:PX):Prop:=(room<1->Q (none,2,()) () H)/\(¬room<1->((1048576:Int)<room->Q (none,2,()) () H)/\(¬(1048576:Int)<room->((0:Int)<=1/\(1:Int)=(1:Int)/\Int.toNat (1:Int)*40<=281474976710656/\(0:Int)<=1/\(1:Int)=(1:Int)/\Int.toNat (1:Int)*1<=281474976710656/\∀(b:Nat),H b=none->Q (some b,0,()) () (Ab H b (Ob.st Ek {room:=room,at_:=List.replicate (Int.toNat (1:Int)) {ID:=(0:Int),Var:=(0:Int),Lo:=(0:Int),Hi:=(0:Int),Refs:=(0:Int):Am},taken:=List.replicate (Int.toNat (1:Int)) false,free:=[],many:=(0:Int):Av})))/\(0:Int)<=1/\(1:Int)=(1:Int)/\Int.toNat (1:Int)*1<=281474976710656/\(0:Int)<=1/\(1:Int)=(1:Int)/\Int.toNat (1:Int)*40<=281474976710656/\∀(b:Nat),H b=none->Q (some b,0,()) () (Ab H b (Ob.st Ek {room:=room,at_:=List.replicate (Int.toNat (1:Int)) {ID:=(0:Int),Var:=(0:Int),Lo:=(0:Int),Hi:=(0:Int),Refs:=(0:Int):Am},taken:=List.replicate (Int.toNat (1:Int)) false,free:=[],many:=(0:Int):Av}))))
theorem Aqf room H Q X(hyp_:Age room H Q X):Wp Y0 Aag Uq (room,()) H Q X:=wF Tryz.f151 {pr:=[(14,6)]} (by kernel_rfl) hyp_ (by kernel_rfl)
end
section
variable {x:Av}
theorem Alq{k:Nat}(h:k<x.taken.length):pTk x (k:Int)=x.taken[k]:=by unfold pTk;simp [h]
theorem Anz{p:Nat}{y:FT Y0 [.int .i64] [.bool]}{H:HY}{X:PX}{Q:Unit->UU}(hI:Iw x)(J:Nat->HP)(h0:J 0 H)(hp:∀k H,J k H->H p=some (.st Ek x))(hy:∀(k:Nat)H(Q:Bool×Unit->HP),pTk x k=true->J k H->(∀H',J (k+1) H'->Q (true,()) H')->y ((k:Int),()) H Q X)(hs:∀(k:Nat)H,pTk x k=false->k<x.at_.length->J k H->J (k+1) H)(hq:∀H,J x.at_.length H->Q () () H):Wp Y0 Nz J5 (y,some p,()) H Q X:=by
 refine Abj _ _ _ _ _ ?_;unfold Sd;have hL:x.at_.length<2000000:=by have:=hI.len;have:=hI.room;omega
 refine⟨λh=>absurd h (by simp),λ_=>⟨p,rfl,x,hp _ _ h0,λ_=>⟨rfl,λn z H'=>n=x.at_.length-z.1/\z.1<=x.at_.length/\J z.1 H',⟨_,rfl,Nat.zero_le _,h0⟩,?_⟩⟩⟩;rintro n ⟨k,_⟩ H' ⟨hn0,hk0,hJ0⟩;have hn:n=x.at_.length-k:=hn0;have hk:k<=x.at_.length:=hk0;have hJ:J k H':=hJ0;clear hn0 hk0 hJ0;refine⟨λhkl=>?_,λhkl=>?_⟩
 .have hkl':k<x.at_.length:=hkl;have hkt:k<x.taken.length:=by rw[<-hI.ln];exact hkl'
  have nxt:∀H'',J (k+1) H''->∃m,m<n/\(m=x.at_.length-(k+1)/\k+1<=x.at_.length/\J (k+1) H''):=λH'' h=>⟨x.at_.length-(k+1),by omega,rfl,by omega,h⟩
  refine⟨p,rfl,x,hp _ _ hJ,λ_=>⟨hkt,hkt,λht=>⟨rfl,?_⟩,λht=>⟨by show k+1<=_;omega,?_⟩⟩⟩
  .refine hy k H' _ ((Alq hkt).trans ht) hJ λH'' h=>⟨λh=>absurd rfl h,λ_=>⟨by show k+1<=_;omega,nxt H'' h⟩⟩
  .have ht':pTk x k=false:=by rw[Alq hkt];simpa using ht
   obtain⟨m,h1,h2⟩:=nxt H' (hs k H' ht' hkl' hJ);exact⟨m,h1,rfl,h2⟩
 .have hkl':¬k<x.at_.length:=hkl;have:k=x.at_.length:=by omega
  subst this;exact hq H' hJ
theorem Alo{p:Nat}{y:FT Y0 [.u 13] [.bool]}{H0:HY}{X:PX}{Q:Unit->UU}(hI:Iw x)(J:Nat->HP)(h0:J 0 H0)(hp:∀k H,J k H->H p=some (.st Ek x))(hl:∀l k H o,H0 l=none->J k H->J k (Ab H l o))(hy:∀(k:Nat)(n:Am)H(Q:Bool×Unit->HP),pNd x k=some n->J k H->(∀H',J (k+1) H'->(∀c,H0 c=none->H' c=H c)->Q (true,()) H')->y (n,()) H Q X)(hs:∀(k:Nat)H,pNd x k=none->k<x.at_.length->J k H->J (k+1) H)(hq:∀H,J x.at_.length H->Q () () H):Wp Y0 Mi I1 (y,some p,()) H0 Q X:=by
 refine Z2 _ _ _ _ _ ?_;unfold Rf;intro l r hl0;have hpl:p≠l:=λe=>by have:=hp _ _ h0;rw[e,hl0]at this;cases this
 refine Anz hI (λk H=>J k H/\H l=some (.lp r)) ⟨hl l 0 H0 _ hl0 h0,Aj _ _ _⟩ (λk H h=>hp k H h.1) (λk H Q' ht hJ h=>?_) (λk H ht hk hJ=>⟨hs k H ?_ hk hJ.1,hJ.2⟩) λH hJ=>.inl ⟨hJ.2,λr'=>hq _ (hl l _ H _ hl0 hJ.1)⟩
 .obtain⟨t1,t2,n,t3,t4⟩:=hI.tk ht;obtain⟨hlt,hget⟩:=List.getElem?_eq_some_iff.1 t4;have e:n=x.at_[((k:Int)).toNat]'hlt:=hget.symm;refine⟨hJ.2,hJ.2,p,rfl,x,by rw[Ad _ _ hpl];exact hp _ _ hJ.1,λ_=>⟨λ_=>by show (0:Int)<=(k:Int);omega,hlt,hlt,rfl,?_⟩⟩;have:=hy k n (Ab H l (.lp (Dy r))) (λb H'=>(¬b.1=true->H' l=some (Ob.lp (Dy r))/\Q' (false,()) (Ab H' l (Ob.lp (Vy r Code.ret))))/\(¬¬b.1=true->H' l=some (Ob.lp (Dy r))/\Q' (true,()) (Ab H' l (Ob.lp r)))) t3 (hl l k H _ hl0 hJ.1) λH' hJ' hfr=>⟨λh=>absurd rfl h,λ_=>⟨by rw[hfr l hl0,Aj],h _ ⟨hl l _ H' _ hl0 hJ',Aj _ _ _⟩⟩⟩
  rw[e]at this;exact this
 .unfold pNd;rw[ht];rfl
end
section
def FrN(b:Nat)(S:Sto)(H H':HY):Prop:=∀c,H c≠none->c≠b->c≠S.bl->c≠S.bp->c∉S.tb->H' c=H c
variable {b:Nat} {S:Sto} {H:HY}
theorem FrE.n{H':HY}(h:FrE b S H H'):FrN b S H H':=λc _ a1 a2 a3 a4=>h c a1 a2 a3 a4
theorem FrN.refl:FrN b S H H:=λ_ _ _ _ _ _=>rfl
theorem FrN.trans{S':Sto}{H' H'':HY}(h:FrN b S H H')(k:FrN b S' H' H'')(h1:S'.bl=S.bl)(h2:S'.bp=S.bp)(h3:S'.tb=S.tb):FrN b S H H'':=λc a0 a1 a2 a3 a4=>by have e:=h c a0 a1 a2 a3 a4;rw[k c (by rw[e];exact a0) a1 (by rw[h1];exact a2) (by rw[h2];exact a3) (by rw[h3];exact a4),e]
def gl(S:Sto):Nat->List Am
 |0=>[]
 |k+1=>gl S k++(match pNd S.po k with
  |some n=>if cnA S.cn k=0 then [n] else []
  |none=>[])
theorem Aqx{S:Sto}(hI:Iw S.po){n:Am}:∀{k:Nat},n∈gl S k↔pNd S.po n.ID=some n/\cnA S.cn n.ID=0/\0<=n.ID/\n.ID<k
 |0=>by simp only[gl,List.not_mem_nil,false_iff];intro ⟨_,_,h1,h2⟩;omega
 |k+1=>by
  simp only[gl,List.mem_append,Aqx hI (k:=k)];constructor
  .rintro(⟨h1,h2,h3,h4⟩|h)
   .exact⟨h1,h2,h3,by omega⟩
   .split at h
    .rename_i m hm;split at h
     .rename_i h0;rw[List.mem_singleton]at h;subst h;have:=hI.id _ _ hm;exact⟨by rw[this];exact hm,by rw[this];exact h0,by omega,by omega⟩
     .cases h
    .cases h
  .rintro⟨h1,h2,h3,h4⟩;by_cases e:n.ID=k
   .right;rw[e]at h1 h2;rw[h1];simp only[h2,if_true,List.mem_singleton]
   .exact .inl ⟨h1,h2,h3,by omega⟩
theorem Ayl{S:Sto}(hI:Iw S.po):∀{k:Nat},((gl S k).map (·.ID)).Nodup/\(gl S k).length<=k
 |0=>by simp [gl]
 |k+1=>by
  obtain⟨h1,h2⟩:=Ayl hI (k:=k);simp only[gl];split
  .rename_i m hm;split
   .rename_i h0;refine⟨?_,by simp;omega⟩;rw[List.map_append,List.nodup_append];refine⟨h1,by simp,λa ha b hb=>?_⟩;obtain⟨n,hn,rfl⟩:=List.mem_map.1 ha;have:=((Aqx hI).1 hn).2.2.2;have h3:=hI.id _ _ hm;simp only[List.map_cons,List.map_nil,List.mem_singleton]at hb;omega
   .simpa using ⟨h1,by omega⟩
  .simpa using ⟨h1,by omega⟩
structure Ah8(S S':Sto)(l:List Int):Prop where
 po:Iw S'.po
 nd:∀j,pNd S'.po j=if j∈l then none else pNd S.po j
 many:S'.po.many=S.po.many-l.length
 room:S'.po.room=S.po.room
 len:S'.po.at_.length=S.po.at_.length
 lv:S'.lv=S.lv
 tb:S'.tb=S.tb
 bl:S'.bl=S.bl
 bp:S'.bp=S.bp
 cn:S'.cn=S.cn
 tn:∀v:Nat,v<S.tb.length->mnd (S'.ta v).ids
 tg:∀v:Nat,v<S.tb.length->∀lo hi i,Ac (S'.ta v).ids (⟨lo,hi⟩:K2)=some i↔i∉l/\tbl S.po i=some ⟨(v:Int),lo,hi⟩
theorem Ah8.refl(h:SI S):Ah8 S S []:=⟨h.sc.po,λj=>by simp,by simp,rfl,rfl,rfl,rfl,rfl,rfl,rfl,h.tn,λv hv lo hi i=>by simpa using h.tg v hv lo hi i⟩
structure Clt(S S':Sto):Prop where
 lv:S'.lv=S.lv
 tb:S'.tb=S.tb
 bl:S'.bl=S.bl
 bp:S'.bp=S.bp
 room:S'.po.room=S.po.room
 tbl:∀i,tbl S'.po i=if cnA S.cn i=0 then none else YtcbkbpjlbmalmaaGreatDoor.tbl S.po i
 rf:∀i,rfA S'.po i=rfA S.po i
 cn:S'.cn=S.cn
theorem Ah8.si{S':Sto}{l:List Int}(h:SI S)(c:Ah8 S S' l)(hl:∀i,i∈l↔tbl S.po i≠none/\cnA S.cn i=0):SI {S' with dead:=0}/\Clt S {S' with dead:=0}:=by
 have ht:∀i,tbl S'.po i=if cnA S.cn i=0 then none else tbl S.po i:=λi=>by
  unfold tbl;rw[c.nd];by_cases h1:i∈l
  .rw[if_pos h1,if_pos ((hl i).1 h1).2];rfl
  .rw[if_neg h1];by_cases h2:cnA S.cn i=0
   .rw[if_pos h2];have:tbl S.po i=none:=by
     cases e:tbl S.po i with
     |none=>rfl
     |some d=>exact absurd ((hl i).2 ⟨by rw[e];simp,h2⟩) h1
    exact this
   .rw[if_neg h2]
 have hsub:∀i d,tbl S'.po i=some d->tbl S.po i=some d/\cnA S.cn i≠0:=λi d hd=>by
  rw[ht]at hd;split at hd
  .cases hd
  .rename_i h0;exact⟨hd,h0⟩
 have hpos:∀i d,tbl S'.po i=some d->0<cnA S.cn i:=λi d hd=>by have:=hsub i d hd;have:=h.sc.cn.nn this.1;omega
 have hrf:∀i,rfA S'.po i=rfA S.po i:=λi=>by
  unfold rfA;rw[c.nd];by_cases h1:i∈l
  .rw[if_pos h1];obtain⟨h2,h3⟩:=(hl i).1 h1;cases e:tbl S.po i with
   |none=>exact absurd e h2
   |some d=>
    have h4:=h.sc.cn.ge e;have h5:=h.rf i;unfold rfA at h4 h5;cases hn:pNd S.po i with
    |none=>rfl
    |some n=>rw[hn]at h4 h5;simp only at h4 h5 ⊢;omega
  .rw[if_neg h1]
 have hkid:∀i d,tbl S'.po i=some d->B.Ok (tbl S'.po) d.lo/\B.Ok (tbl S'.po) d.hi:=λi d hd=>by
  obtain⟨h1,h2⟩:=hsub i d hd;obtain⟨k1,k2⟩:=h.kids i d h1;have one:∀e,B.Ok (tbl S.po) e->(e/2=d.lo/2∨e/2=d.hi/2)->B.Ok (tbl S'.po) e:=λe he hm=>by
   refine⟨he.1,?_⟩;rcases he.2 with h3|⟨d',hd'⟩
   .exact .inl h3
   .have:=h.sc.cn.kid (λ_=>h.rf _) h1 (hpos i d hd) hd' hm;exact .inr ⟨d',by rw[ht,if_neg (by omega)];exact hd'⟩
  exact⟨one _ k1 (.inl rfl),one _ k2 (.inr rfl)⟩
 have hcut:=h.C6.cut Sto.P4 (λi d hd=>(hsub i d hd).1) hkid;have hn:S'.n=S.n:=by unfold Sto.n;rw[c.tb]
 have hpt:∀i p,B.pt (tbl S'.po) (cnA S.cn) i p=B.pt (tbl S.po) (cnA S.cn) i p:=λi p=>by
  unfold B.pt;rw[ht];by_cases h0:cnA S.cn p=0
  .rw[if_pos h0];cases tbl S.po p with
   |none=>rfl
   |some d=>simp only;rw[if_neg (by omega)]
  .rw[if_neg h0]
 refine⟨⟨⟨c.po,⟨λ{i d}hd=>?_,λ{i d}hd=>?_,λ{i d}hd=>?_⟩,λi d hd=>?_,?_⟩,?_,?_,?_,?_,c.tb▸c.tn,?_,λi=>by rw[hrf];exact h.rf i⟩,c.lv,c.tb,c.bl,c.bp,c.room,ht,hrf,c.cn⟩
 .show 0<i/\i<(S'.po.at_.length:Int);rw[c.len];exact h.sc.cn.dom (hsub i d hd).1
 .show 0<=cnA S'.cn i;rw[c.cn];exact h.sc.cn.nn (hsub i d hd).1
 .show cnA S'.cn i=rfA S'.po i+B.sm S'.po.at_.length (B.pt (tbl S'.po) (cnA S'.cn) i);rw[c.cn,c.len,hrf,h.sc.cn.eq (hsub i d hd).1];congr 1;exact(B.Il λk _ _=>hpt i k).symm
 .show i.toNat<S'.cn.length;rw[c.cn];exact h.sc.ln i d (hsub i d hd).1
 .show (0:Int)=B.sm S'.po.at_.length (B.zr (tbl S'.po) (cnA S'.cn));rw[B.Il (g:=λ_=>0) λk _ _=>?_,B.Afd];unfold B.zr;rw[c.cn];cases e:tbl S'.po k with
  |none=>rfl
  |some d=>have:=hpos k d e;simp only;rw[if_neg (by omega)]
 .show B.Good S'.n (lvA S'.lv) (tbl S'.po);rw[hn,c.lv];exact hcut.1
 .show S'.lv.vars.length=S'.tb.length;rw[c.lv,c.tb];exact h.vl
 .show S'.lv.level.length=S'.tb.length;rw[c.lv,c.tb];exact h.ll
 .show ∀(l:Nat)(v:Int),S'.lv.vars[l]?=some v->0<=v/\v<S'.n/\lvA S'.lv v=(l:Int);rw[c.lv,hn];exact h.inv
 .intro v hv lo hi i;show Ac (S'.ta v).ids (⟨lo,hi⟩:K2)=some i↔tbl S'.po i=some ⟨(v:Int),lo,hi⟩;have hv':v<S.tb.length:=by rw[<-c.tb];exact hv
  rw[c.tg v hv',ht];constructor
  .rintro⟨h1,h2⟩;rw[if_neg λh0=>h1 ((hl i).2 ⟨by rw[h2];simp,h0⟩)];exact h2
  .intro h1;split at h1
   .cases h1
   .rename_i h0;exact⟨λhi=>h0 ((hl i).1 hi).2,h1⟩
end
section
variable {S:Sto}
theorem Dc.old{H H':HY}{b:Nat}(h:Dc H b S)(f:∀c,H c≠none->H' c=H c):Dc H' b S:=by
 refine⟨?_,?_,?_,h.nd,λv hv=>?_⟩
 .rw[f _ (by rw[h.st];simp)];exact h.st
 .rw[f _ (by rw[h.lv];simp)];exact h.lv
 .rw[f _ (by rw[h.po];simp)];exact h.po
 .rw[f _ (by rw[h.ta v hv];simp)];exact h.ta v hv
variable {k:Nat}
theorem A1p(h:pNd S.po k=none):gl S (k+1)=gl S k:=by simp [gl,h]
variable {n:Am}
theorem A1r(h:pNd S.po k=some n)(h0:cnA S.cn k=0):gl S (k+1)=gl S k++[n]:=by simp [gl,h,h0]
theorem A1q(h:pNd S.po k=some n)(h0:¬cnA S.cn k=0):gl S (k+1)=gl S k:=by simp [gl,h,h0]
theorem Ah8.step{S1:Sto}{l:List Int}(h:SI S)(c:Ah8 S S1 l)(hn:pNd S.po n.ID=some n)(hl:n.ID∉l){x':Av}(hx:Iw x')(hj:∀j,pNd x' j=if j=n.ID then none else pNd S1.po j)(hm:x'.many=S1.po.many-1)(hr:x'.room=S1.po.room)(hle:x'.at_.length=S1.po.at_.length){t:Ay}(ht:t=⟨Ez (S1.ta n.Var.toNat).ids (⟨n.Lo,n.Hi⟩:K2)⟩):Ah8 S {S1 with ta:=λw=>if w=n.Var.toNat then t else S1.ta w,po:=x'} (n.ID::l):=by
 subst ht;have hd:=Ln hn;have hv:0<=n.Var/\n.Var<S.n:=(h.C6.var hd).2;have hv':n.Var.toNat<S.tb.length:=by have:=hv.2;unfold Sto.n at this;omega
 have hvv:((n.Var.toNat:Nat):Int)=n.Var:=by omega
 refine⟨hx,λj=>?_,?_,hr.trans c.room,hle.trans c.len,c.lv,c.tb,c.bl,c.bp,c.cn,λv hv2=>?_,λv hv2 lo hi i=>?_⟩
 .show pNd x' j=_;rw[hj,c.nd];by_cases e:j=n.ID
  .simp [e]
  .simp [e]
 .show x'.many=_;rw[hm,c.many];simp;omega
 .show mnd (if v=n.Var.toNat then _ else S1.ta v).ids;split
  .exact Abx (c.tn _ hv') _
  .exact c.tn v hv2
 .show Ac (if v=n.Var.toNat then _ else S1.ta v).ids (⟨lo,hi⟩:K2)=some i↔_;by_cases e:v=n.Var.toNat
  .subst e;rw[if_pos rfl];simp only;rw[Nc (c.tn _ hv')];by_cases ek:(⟨lo,hi⟩:K2)=⟨n.Lo,n.Hi⟩
   .rw[if_pos ek];obtain⟨rfl,rfl⟩:lo=n.Lo/\hi=n.Hi:=by injection ek with a b;exact⟨a,b⟩
    constructor
    .intro hh;cases hh
    .rintro⟨h1,h2⟩;exfalso;rw[<-h.tg _ hv']at h2;have h3:=(h.tg _ hv' n.Lo n.Hi n.ID).2 (by rw[hd,hvv]);rw[h2]at h3;injection h3 with h3
     exact h1 (by simp [h3])
   .rw[if_neg ek,c.tg _ hv'];constructor
    .rintro⟨h1,h2⟩;refine⟨λhm=>?_,h2⟩;rcases List.mem_cons.1 hm with e|hm
     .rw[e,hd]at h2;injection h2 with h2
      injection h2 with _ a b
      exact ek (by rw[a,b])
     .exact h1 hm
    .rintro⟨h1,h2⟩;exact⟨λhm=>h1 (List.mem_cons_of_mem _ hm),h2⟩
  .rw[if_neg e,c.tg v hv2];constructor
   .rintro⟨h1,h2⟩;refine⟨λhm=>?_,h2⟩;rcases List.mem_cons.1 hm with e2|hm
    .rw[e2,hd]at h2;injection h2 with h2
     injection h2 with a _ _
     have:n.Var=(v:Int):=a;omega
    .exact h1 hm
   .rintro⟨h1,h2⟩;exact⟨λhm=>h1 (List.mem_cons_of_mem _ hm),h2⟩
theorem Azd(h:SI S)(hd:S.dead=0):Clt S S:=by
 refine⟨rfl,rfl,rfl,rfl,rfl,λi=>?_,λ_=>rfl,rfl⟩;split
 .rename_i h0;cases e:tbl S.po i with
  |none=>rfl
  |some d=>
   have h1:=h.sc.dead;have h2:=h.sc.cn.dom e;have h3:=B.A22 (f:=B.zr (tbl S.po) (cnA S.cn)) (m:=S.po.at_.length) (λ_ _ _=>Avv.1) (Int.le_of_lt h2.1) h2.2;have h4:B.zr (tbl S.po) (cnA S.cn) i=1:=by unfold B.zr;rw[e];simp [h0]
   omega
 .rfl
theorem K5{b:Nat}{H:HY}{X:PX}{Q:Int×Unit->UU}(hS:Dc H b S)(hI:SI S)(h:∀S' H' k,Dc H' b S'->SI S'->Clt S S'->FrN b S H H'->Q (k,()) () H'):Wp Y0 D7 Dg (some b,()) H Q X:=by
 refine Vv _ _ _ _ ?_;unfold Om;refine⟨λh=>absurd h (by simp),λ_=>⟨b,rfl,S.ob,hS.st,λhd=>⟨rfl,h S H 0 hS hI (Azd hI hd) FrN.refl⟩,λhd=>⟨rfl,λb2 hb2=>?_⟩⟩⟩;have hP:=hI.sc.po;have hL:S.po.at_.length<2000000:=by have:=hP.len;have:=hP.room;omega
 have bne:∀{c:Nat}{o:Ob Y0},H c=some o->c≠b2:=λhc e=>by rw[e,hb2]at hc;cases hc
 refine⟨b,rfl,S.ob,by rw[Ad _ _ (bne hS.st)];exact hS.st,rfl,λl r hl0=>?_⟩;have hlb:l≠b2:=λe=>by rw[e,Aj]at hl0;cases hl0
 have hl:H l=none:=by rw[Ad _ _ hlb]at hl0;exact hl0
 have lne:∀{c:Nat},H c≠none->c≠l:=λhc e=>hc (by rw[e];exact hl);have bne':∀{c:Nat},H c≠none->c≠b2:=λhc e=>hc (by rw[e];exact hb2);refine Alo hP (λk H'=>H' b2=some (.st E0 (gl S k))/\H' l=some (.lp r)/\∀c,H c≠none->H' c=H c) ⟨?_,Aj _ _ _,λc hc=>?_⟩ (λk H' hJ=>(hS.old hJ.2.2).po) (λl' k H' o hl' hJ=>?_) (λk n H' Q' hn hJ hQ=>?_) (λk H' hn hk hJ=>?_) λH' hJ=>.inl ⟨hJ.2.1,λr'=>⟨gl S S.po.at_.length,?_,λ_=>?_⟩⟩
 .rw[Ad _ _ (Ne.symm hlb),Aj];rfl
 .rw[Ad _ _ (lne hc),Ad _ _ (bne' hc)]
 .have e1:l'≠l:=λe=>by rw[e,Aj]at hl';cases hl'
  have e2:l'≠b2:=λe=>by rw[e,Ad _ _ (Ne.symm hlb),Aj]at hl';cases hl'
  rw[Ad _ _ e1,Ad _ _ e2]at hl';exact⟨by rw[Ad _ _ (Ne.symm e2)];exact hJ.1,by rw[Ad _ _ (Ne.symm e1)];exact hJ.2.1,λc hc=>by rw[Ad _ _ (λe=>hc (by rw[e];exact hl'))];exact hJ.2.2 c hc⟩
 .obtain⟨j1,j2,j3⟩:=hJ;have hid:=hP.id _ _ hn;have hk:k<S.cn.length:=by have:=hI.sc.ln k _ (Ln hn);simpa using this
  have hkk:n.ID.toNat=k:=by omega
  have hgk:∀(h:n.ID.toNat<S.cn.length),S.cn[n.ID.toNat]=cnA S.cn k:=λh=>by rw[<-hid,Afn (by omega) h]
  have hlt:n.ID.toNat<S.cn.length:=by omega
  have hlen:=(Ayl hP (k:=k)).2;have hkL:k<S.po.at_.length:=by have:=hI.sc.cn.dom (Ln hn);omega
  have st':Ab H' l (Ob.lp (Dy r)) b=some (Ob.st A8 S.ob):=by rw[Ad _ _ (lne (by rw[hS.st];simp))];exact(hS.old j3).st
  refine⟨j2,j2,b,rfl,S.ob,st',λ_=>⟨λ_=>(by show 0<=n.ID;omega),hlt,hlt,λh0=>⟨rfl,gl S k,?_,?_,?_,?_⟩,λh0=>⟨rfl,Aj _ _ _,?_⟩⟩⟩
  .rw[Ad _ _ (Ne.symm hlb)];exact j1
  .show ((gl S k).length+1)*40<=_;omega
  .rw[Ad _ _ hlb,Aj]
  .have h0':cnA S.cn k=0:=(hgk hlt).symm.trans h0;refine hQ _ ⟨?_,Aj _ _ _,λc hc=>?_⟩ λc hc=>?_
   .rw[Ad _ _ (Ne.symm hlb),Aj,A1r hn h0']
   .rw[Ad _ _ (lne hc),Ad _ _ (bne' hc),Ad _ _ (lne hc)];exact j3 c hc
   .have e1:c≠l:=λe=>by rw[e,Aj]at hc;cases hc
    have e2:c≠b2:=λe=>by rw[e,Ad _ _ (Ne.symm hlb),Aj]at hc;cases hc
    rw[Ad _ _ e1,Ad _ _ e2,Ad _ _ e1]
  .have h0':¬cnA S.cn k=0:=λe=>h0 ((hgk hlt).trans e);refine hQ _ ⟨?_,Aj _ _ _,λc hc=>?_⟩ λc hc=>?_
   .rw[Ad _ _ (Ne.symm hlb),Ad _ _ (Ne.symm hlb),A1q hn h0'];exact j1
   .rw[Ad _ _ (lne hc),Ad _ _ (lne hc)];exact j3 c hc
   .have e1:c≠l:=λe=>by rw[e,Aj]at hc;cases hc
    rw[Ad _ _ e1,Ad _ _ e1]
 .obtain⟨j1,j2,j3⟩:=hJ;exact⟨by rw[A1p hn];exact j1,j2,j3⟩
 .rw[Ad _ _ (Ne.symm hlb)];exact hJ.1
 .obtain⟨j1,j2,j3⟩:=hJ;have hg:∀n,n∈gl S S.po.at_.length↔pNd S.po n.ID=some n/\cnA S.cn n.ID=0/\0<=n.ID/\n.ID<S.po.at_.length:=λn=>Aqx hP;obtain⟨g1,g2⟩:=Ayl hP (k:=S.po.at_.length);generalize gl S S.po.at_.length=gs at hg g1 g2;have s0:Dc (Dp (Ab H' l (Ob.lp r')) b2) b S/\FrN b S H (Dp (Ab H' l (Ob.lp r')) b2):=by
   have f:∀c,H c≠none->Dp (Ab H' l (Ob.lp r')) b2 c=H c:=λc hc=>by unfold Dp;rw[if_neg (bne' hc),Ad _ _ (lne hc)];exact j3 c hc
   exact⟨hS.old f,λc hc _ _ _ _=>f c hc⟩
  refine⟨λn x H2=>x.1.1=gs/\n=gs.length-x.2.1/\x.2.1<=gs.length/\∃S1,Dc H2 b S1/\Ah8 S S1 ((gs.take x.2.1).map (·.ID))/\S1.dead=S.dead/\FrN b S H H2,⟨_,rfl,rfl,Nat.zero_le _,S,s0.1,Ah8.refl hI,rfl,s0.2⟩,?_⟩;rintro m ⟨⟨xs,_⟩,k,_⟩ H2 ⟨e0,hm0,hk0,S1,s1,c1,d1,f1⟩;have e0:xs=gs:=e0;have hm:m=gs.length-k:=hm0;have hk:k<=gs.length:=hk0;replace c1:Ah8 S S1 ((gs.take k).map (·.ID)):=c1;subst e0;clear hm0 hk0;refine⟨λhkl _=>?_,λhkl=>?_⟩
  .have hkl':k<xs.length:=hkl;obtain⟨hn,h0,hid0,hid1⟩:=(hg xs[k]).1 (List.getElem_mem hkl');have hd:=Ln hn;have hv:=hI.C6.var hd;simp only at hv;have hv':(xs[k]).Var.toNat<S.tb.length:=by have:=hv.2.2;unfold Sto.n at this;omega
   have hv1:(xs[k]).Var.toNat<S1.tb.length:=by rw[c1.tb];exact hv'
   have hvv:(((xs[k]).Var.toNat:Nat):Int)=(xs[k]).Var:=by omega
   have hnl:(xs[k]).ID∉(xs.take k).map (·.ID):=λhmem=>by
    have h1:xs.map (·.ID)=(xs.take k).map (·.ID)++(xs[k]).ID::(xs.drop (k+1)).map (·.ID):=by rw[<-List.map_cons,<-List.map_append,<-List.drop_eq_getElem_cons hkl',List.take_append_drop]
    rw[h1,List.nodup_append]at g1;exact g1.2.2 _ hmem _ (List.mem_cons_self) rfl
   have hob:S1.ob.tables[(xs[k]).Var.toNat]'(by simpa [Sto.ob] using hv1)=some S1.tb[(xs[k]).Var.toNat]:=by simp [Sto.ob]
   have cut:Wp Y0 Gm E9 (S1.ob.tables[(xs[k]).Var.toNat]'(by simpa [Sto.ob] using hv1),(xs[k]).Lo,(xs[k]).Hi,()) H2 (λ(b_2:Int×Unit)io H'=>∃(b_3:Nat),some b=some b_3/\∃(x_3:Aa),H' b_3=some (Ob.st A8 x_3)/\({levels:=x_3.levels,Bs:=x_3.Bs,tables:=x_3.tables,counts:=x_3.counts,dead:=x_3.dead}:Aa)=x_3/\
     Wp Y0 It Gk (x_3.Bs,(xs[k]).ID,()) H' (λ(b_4:Int×Unit)io H'=>k+1<=9223372036854775807/\∃(m':Nat),m'<m/\(xs=xs/\m'=xs.length-(k+1)/\k+1<=xs.length/\∃S1,Dc H' b S1/\Ah8 S S1 ((xs.take (k+1)).map (·.ID))/\S1.dead=S.dead/\FrN b S H H')) X) X:=by
    rw[hob]
    refine Afz (s1.ta _ hv1) ((c1.tg _ hv' _ _ _).2 ⟨hnl,by rw[hd,hvv]⟩) ⟨b,rfl,?_⟩
    obtain⟨s2,f2⟩:=s1.Awm hv1 ⟨Ez (S1.ta (xs[k]).Var.toNat).ids (⟨(xs[k]).Lo,(xs[k]).Hi⟩:K2)⟩
    refine⟨_,s2.st,rfl,?_⟩
    refine Aln (m:=xs[k]) s2.po c1.po (by rw[c1.nd,if_neg hnl];exact hn) λx' hx hj hm' hr hle=>?_
    obtain⟨s3,f3⟩:=s2.Awn x'
    refine⟨by show k+1<=_;omega,xs.length-(k+1),by omega,rfl,rfl,by show k+1<=_;omega,_,s3,?_,d1,?_⟩
    .have:=c1.step hI hn hnl hx hj hm' hr hle rfl
     have hmem:∀j,j∈(xs[k]).ID::(xs.take k).map (·.ID)↔j∈(xs.take k).map (·.ID)++[(xs[k]).ID]:=λj=>by rw[List.mem_append,List.mem_cons,List.mem_singleton];exact or_comm
     have e:(xs.take (k+1)).map (·.ID)=(xs.take k).map (·.ID)++[(xs[k]).ID]:=by show (xs.take (k+1)).map (·.ID)=_;rw[List.take_succ_eq_append_getElem hkl',List.map_append];rfl
     rw[e]
     refine⟨this.po,λj=>?_,?_,this.room,this.len,this.lv,this.tb,this.bl,this.bp,this.cn,this.tn,λv hv lo hi i=>?_⟩
     .rw[this.nd];simp only[hmem j]
     .rw[this.many];simp
     .rw[this.tg v hv,hmem i]
    .exact(f1.trans (f2.trans f3 rfl rfl rfl).n c1.bl c1.bp c1.tb)
   refine⟨hkl',b,rfl,⟨S1.ob,s1.st,λ_=>⟨λ_=>hv.2.1,by simpa [Sto.ob] using hv1,by simpa [Sto.ob] using hv1,rfl,cut⟩⟩,S1.ob,s1.st,λ_=>⟨λ_=>hv.2.1,by simpa [Sto.ob] using hv1,by simpa [Sto.ob] using hv1,rfl,cut⟩⟩
  .have hkl':¬k<xs.length:=hkl;have:k=xs.length:=by omega
   subst this;rw[List.take_length]at c1;obtain⟨s2,f2⟩:=s1.Adb S1.cn 0;obtain⟨i1,i2⟩:=c1.si hI λi=>by
    rw[List.mem_map];constructor
    .rintro⟨n,hn,rfl⟩;have:=(hg n).1 hn;exact⟨by rw[Ln this.1];simp,this.2.1⟩
    .rintro⟨h1,h2⟩;cases e:tbl S.po i with
     |none=>exact absurd e h1
     |some d=>
      obtain⟨n,hn,_⟩:=Kd e;have hid:=hP.id _ _ hn;have hdm:=hI.sc.cn.dom e;exact⟨n,(hg n).2 ⟨by rw[hid];exact hn,by rw[hid];exact h2,by omega,by omega⟩,hid⟩
   exact⟨b,rfl,S1.ob,s1.st,λ_=>h {S1 with dead:=0} _ _ s2 i1 i2 (f1.trans f2.n c1.bl c1.bp c1.tb)⟩
end
section
section
variable {κ β:Type} [DecidableEq κ]
theorem Lz:∀{m:List (κ×β)}{p:κ×β},mnd m->p∈m->Ac m p.1=some p.2
 |q::m,p,h,hp=>by
  obtain⟨h1,h2⟩:=List.nodup_cons.1 h;show (if q.1=p.1 then some q.2 else Ac m p.1)=some p.2;rcases List.mem_cons.1 hp with rfl|hp
  .exact if_pos rfl
  .rw[if_neg λe=>h1 (by show q.1∈_;rw[e];exact List.mem_map_of_mem (f:=Prod.fst) hp)];exact Lz h2 hp
theorem Nu:∀{m:List (κ×β)}{k:κ}{v:β},Ac m k=some v->(k,v)∈m
 |q::m,k,v,h=>by
  have h:(if q.1=k then some q.2 else Ac m k)=some v:=h;split at h
  .rename_i e;cases h;subst e;exact List.mem_cons_self
  .exact List.mem_cons_of_mem _ (Nu h)
end
theorem Asv{α:Type}(f:α->Nat){l:List α}{n:Nat}(hn:l.Nodup)(hf:∀a∈l,f a<n)(hi:∀a∈l,∀b∈l,f a=f b->a=b):l.length<=n:=by
 have h1:(l.map f).Nodup:=by rw[List.Nodup,List.pairwise_map];exact hn.imp_of_mem λ{a b}ha hb hne e=>hne (hi a ha b hb e)
 have:=Na (m:=List.range n) h1 λk hk=>by obtain⟨a,ha,rfl⟩:=List.mem_map.1 hk;exact List.mem_range.2 (hf a ha)
 simpa using this
theorem Anc{b:Nat}{x:Ay}{y:FT Y0 [.u 17,.int .i64] [.bool]}{H0:HY}{X:PX}{Q:Unit->UU}(hx:H0 b=some (.st Ct x))(hnd:mnd x.ids)(hlen:x.ids.length<=2000000)(J:List K2->HP)(h0:J [] H0)(hp:∀d H,J d H->H b=some (.st Ct x))(hy:∀(d:List K2)(k:K2)(i:Int)H(Q:Bool×Unit->HP),J d H->Ac x.ids k=some i->k∉d->d.length<2000000->(∀H',J (d++[k]) H'->Q (true,()) H')->y (k,i,()) H Q X)(hq:∀d H,J d H->d.Nodup->(∀k i,Ac x.ids k=some i->k∈d)->Q () () H):Wp Y0 Lr Ib (y,some b,()) H0 Q X:=by
 refine Yg _ _ _ _ _ ?_;unfold Qm;refine⟨λh=>absurd h (by simp),λ_=>⟨b,rfl,x,hx,⟨rfl,trivial⟩,λleft z H=>H=H0/\∃d:List (K2×Int),d.map (·.1)=z.1/\(d++left).Perm x.ids,⟨rfl,⟨rfl,trivial⟩,⟨rfl,[],rfl,List.Perm.refl _⟩⟩,?_⟩⟩;rintro left ⟨ks,_⟩ H ⟨rfl,d,hd,hpm⟩;have hd:d.map (·.1)=ks:=hd;subst hd;refine⟨λhl=>?_,λl1 p l2 hl=>?_⟩
 .subst hl;rw[List.append_nil]at hpm;have hlen':d.length<=2000000:=by rw[hpm.length_eq];exact hlen
  refine⟨⟨b,x,rfl,Aj _ _ _⟩,by show (d.map (·.1)).length<_;rw[List.length_map];omega,λxs hxs _=>?_⟩;rw[Q5 hx];have hxs:xs.Perm (d.map (·.1)):=hxs;have hxl:xs.length<=2000000:=by rw[hxs.length_eq,List.length_map];exact hlen'
  have hxk:xs.Perm (x.ids.map (·.1)):=hxs.trans (hpm.map _);have hxn:xs.Nodup:=hxk.nodup_iff.2 hnd;have hmem:∀k,k∈xs↔∃i,Ac x.ids k=some i:=λk=>by
   rw[hxk.mem_iff];constructor
   .intro h;obtain⟨q,hq,rfl⟩:=List.mem_map.1 h;exact⟨_,Lz hnd hq⟩
   .rintro⟨i,h⟩;exact List.mem_map_of_mem (f:=Prod.fst) (Nu h)
  refine⟨λn z H'=>z.1=xs/\n=xs.length-z.2.1/\z.2.1<=xs.length/\J (xs.take z.2.1) H',⟨_,rfl,rfl,Nat.zero_le _,h0⟩,?_⟩;rintro n ⟨ys,k,_⟩ H' ⟨e0,hn0,hk0,hJ0⟩;have e0:ys=xs:=e0;subst e0;have hn:n=ys.length-k:=hn0;have hk:k<=ys.length:=hk0;have hJ:J (ys.take k) H':=hJ0;clear hn0 hk0 hJ0;refine⟨λhkl _=>?_,λhkl=>?_⟩
  .have hkl':k<ys.length:=hkl;obtain⟨i,hi⟩:=(hmem ys[k]).1 (List.getElem_mem hkl');refine⟨hkl',hkl',b,rfl,x,hp _ _ hJ,rfl,?_⟩;have hi':(Ac x.ids ys[k]).getD 0=i:=by rw[hi];rfl
   show y (ys[k],(Ac x.ids ys[k]).getD 0,()) H' _ X;rw[hi'];refine hy (ys.take k) ys[k] i H' _ hJ hi (λhm=>?_) (by rw[List.length_take];omega) λH'' hJ''=>⟨λh=>absurd rfl h,λ_=>⟨by show k+1<=_;omega,ys.length-(k+1),by omega,rfl,rfl,by show k+1<=_;omega,?_⟩⟩
   .obtain⟨j,hj,e⟩:=List.mem_iff_getElem.1 hm;rw[List.length_take]at hj;rw[List.getElem_take]at e;have:=(List.getElem_inj hxn).1 e;omega
   .show J (ys.take (k+1)) H'';rw[List.take_succ_eq_append_getElem hkl'];exact hJ''
  .have hkl':¬k<ys.length:=hkl;have:k=ys.length:=by omega
   subst this;rw[List.take_length]at hJ;exact hq ys H' hJ hxn λk i h=>(hmem k).2 ⟨i,h⟩
 .subst hl;have hl2:d.length+1<=x.ids.length:=by rw[<-hpm.length_eq];simp;omega
  refine⟨?_,rfl,⟨rfl,trivial⟩,rfl,d++[p],by simp,?_⟩
  .show ((d.map (·.1)).length+1)*16<=_;rw[List.length_map];omega
  .refine List.Perm.trans ?_ hpm;rw[List.append_assoc];exact List.Perm.append_left d (by simpa using (List.perm_middle (a:=p) (l₁:=l1) (l₂:=l2)).symm)
theorem SI.A7g{S:Sto}(h:SI S){v:Nat}(hv:v<S.tb.length):(S.ta v).ids.length<=2000000:=by
 have hn:=h.tn v hv;have key:∀p∈(S.ta v).ids,tbl S.po p.2=some ⟨(v:Int),p.1.a0,p.1.a1⟩:=λp hp=>(h.tg v hv p.1.a0 p.1.a1 p.2).1 (Lz hn hp);refine Asv (λp=>p.2.toNat) (?_:(S.ta v).ids.Nodup) (λp hp=>?_) λp hp q hq e=>?_
 .have:((S.ta v).ids.map (·.1)).Nodup:=hn;rw[List.Nodup,List.pairwise_map]at this;exact this.imp λh e=>h (by rw[e])
 .have:=h.ib (key p hp);omega
 .have h1:=key p hp;have h2:=key q hq;have:=h.ib h1;have:=h.ib h2;have e:p.2=q.2:=by have e:p.2.toNat=q.2.toNat:=e;omega
  rw[<-e,h1]at h2;have h3:=Option.some.inj h2;have e1:p.1.a0=q.1.a0:=congrArg B.Nd.lo h3;have e2:p.1.a1=q.1.a1:=congrArg B.Nd.hi h3;obtain⟨⟨a,b⟩,c⟩:=p;obtain⟨⟨a',b'⟩,c'⟩:=q;simp only at e e1 e2;subst e e1 e2;rfl
structure TnE(S:Sto)(x y:Int)(t:A9):Prop where
 nd:pNd S.po t.n.ID=some t.n
 v:t.n.Var=x
 l:(t.ll,t.lh)=B.sp (tbl S.po) y t.n.Lo
 h:(t.hl,t.hh)=B.sp (tbl S.po) y t.n.Hi
 ne:t.ll≠t.lh∨t.hl≠t.hh
def kyT(t:A9):K2:=⟨t.n.Lo,t.n.Hi⟩
theorem Aik{b:Nat}{S:Sto}{x y:Int}{H:HY}{X:PX}{Q:List A9×Unit->UU}(hS:Dc H b S)(hI:SI S)(hx:0<=x/\x<S.n)(h:∀L H',Dc H' b S->FrN b S H H'->(L.map (·.n.ID)).Nodup->L.length<=2000000->(∀t∈L,TnE S x y t)->(∀i n,pNd S.po i=some n->n.Var=x->(B.isV (tbl S.po) y n.Lo∨B.isV (tbl S.po) y n.Hi)->∃t∈L,t.n=n)->Q (L,()) () H'):Wp Y0 Mj I4 (some b,x,y,()) H Q X:=by
 refine Z5 _ _ _ _ _ _ ?_;unfold Rh;intro b2 hb2;have hP:=hI.sc.po;have bne:∀{c:Nat},H c≠none->c≠b2:=λhc e=>hc (by rw[e];exact hb2);have hx':x.toNat<S.tb.length:=by have:=hx.2;unfold Sto.n at this;omega
 have hxx:((x.toNat:Nat):Int)=x:=by omega
 refine⟨b,rfl,S.ob,by rw[Ad _ _ (bne (by rw[hS.st];simp))];exact hS.st,λ_=>⟨λ_=>hx.1,by simpa [Sto.ob] using hx',by simpa [Sto.ob] using hx',rfl,λl r hl0=>?_⟩⟩;have hlb:l≠b2:=λe=>by rw[e,Aj]at hl0;cases hl0
 have hl:H l=none:=by rw[Ad _ _ hlb]at hl0;exact hl0
 have lne:∀{c:Nat},H c≠none->c≠l:=λhc e=>hc (by rw[e];exact hl);have hob:S.ob.tables[x.toNat]'(by simpa [Sto.ob] using hx')=some S.tb[x.toNat]:=by simp [Sto.ob]
 rw[hob];have old0:∀c,H c≠none->Ab (Ab H b2 (Ob.st Bm [])) l (Ob.lp r) c=H c:=λc hc=>by rw[Ad _ _ (lne hc),Ad _ _ (bne hc)]
 have hg:=hI.tg x.toNat hx';simp only[hxx]at hg;refine Anc (x:=S.ta x.toNat) (hS.old old0 |>.ta x.toNat hx') (hI.tn _ hx') (hI.A7g hx') (λd H'=>∃L:List A9,H' b2=some (.st Bm L)/\H' l=some (.lp r)/\(∀c,H c≠none->H' c=H c)/\L.length<=d.length/\(L.map kyT).Nodup/\(∀t∈L,TnE S x y t/\kyT t∈d)/\
  ∀i n,pNd S.po i=some n->n.Var=x->(⟨n.Lo,n.Hi⟩:K2)∈d->(B.isV (tbl S.po) y n.Lo∨B.isV (tbl S.po) y n.Hi)->∃t∈L,t.n=n) ?_ (λd H'⟨L,_,_,h3,_⟩=>(hS.old h3).ta x.toNat hx') (λd k i H' Q'⟨L,j1,j2,j3,j4,j5,j6,j7⟩hk hkd hdl hQ=>?_) λd H'⟨L,j1,j2,j3,j4,j5,j6,j7⟩hdn hall=>.inl ⟨j2,λr'=>⟨L,?_,?_⟩⟩
 .exact⟨[],by rw[Ad _ _ (Ne.symm hlb),Aj],Aj _ _ _,old0,Nat.le_refl _,List.nodup_nil,λt ht=>absurd ht List.not_mem_nil,λi n _ _ hd=>absurd hd List.not_mem_nil⟩
 .have hd:=(hg k.a0 k.a1 i).1 hk;obtain⟨n,hn,hv,hlo,hhi⟩:=Kd hd;simp only at hv hlo hhi;have hid:=hP.id _ _ hn;have old1:∀c,H c≠none->Ab H' l (Ob.lp (Dy r)) c=H c:=λc hc=>by rw[Ad _ _ (lne hc)];exact j3 c hc
  have s1:=hS.old old1;refine⟨j2,j2,b,rfl,S.ob,s1.st,rfl,?_⟩;refine Kj (x:=S.po) s1.po hP (λh0=>absurd (h0.symm.trans hn) (by simp)) λn' hn'=>?_;have:n'=n:=by rw[hn]at hn';cases hn';rfl
  subst this;obtain⟨kl,kh⟩:=hI.kids _ _ hd;simp only at kl kh;rw[<-hlo]at kl;rw[<-hhi]at kh;refine Wf s1 hP kl (Wf s1 hP kh ?_);have hkey:(⟨n'.Lo,n'.Hi⟩:K2)=k:=by rw[hlo,hhi]
  have yes:((B.sp (tbl S.po) y n'.Lo).1≠(B.sp (tbl S.po) y n'.Lo).2∨(B.sp (tbl S.po) y n'.Hi).1≠(B.sp (tbl S.po) y n'.Hi).2)->∃z:List A9,Ab H' l (Ob.lp (Dy r)) b2=some (Ob.st Bm z)/\(z.length+1)*72<=140737488355328/\Ab (Ab H' l (Ob.lp (Dy r))) b2 (Ob.st Bm (z++[⟨n',(B.sp (tbl S.po) y n'.Lo).1,(B.sp (tbl S.po) y n'.Lo).2,(B.sp (tbl S.po) y n'.Hi).1,(B.sp (tbl S.po) y n'.Hi).2⟩])) l=some (Ob.lp (Dy r))/\
    Q' (true,()) (Ab (Ab (Ab H' l (Ob.lp (Dy r))) b2 (Ob.st Bm (z++[⟨n',(B.sp (tbl S.po) y n'.Lo).1,(B.sp (tbl S.po) y n'.Lo).2,(B.sp (tbl S.po) y n'.Hi).1,(B.sp (tbl S.po) y n'.Hi).2⟩]))) l (Ob.lp r)):=λhne=>by
   refine⟨L,by rw[Ad _ _ (Ne.symm hlb)];exact j1,by omega,by rw[Ad _ _ hlb,Aj],hQ _ ⟨L++[⟨n',(B.sp (tbl S.po) y n'.Lo).1,(B.sp (tbl S.po) y n'.Lo).2,(B.sp (tbl S.po) y n'.Hi).1,(B.sp (tbl S.po) y n'.Hi).2⟩],by rw[Ad _ _ (Ne.symm hlb),Aj];rfl,Aj _ _ _,λc hc=>by rw[Ad _ _ (lne hc),Ad _ _ (bne hc),Ad _ _ (lne hc)];exact j3 c hc,by simp;omega,?_,λt ht=>?_,λi2 n2 h2 hv2 hd2 hy2=>?_⟩⟩
   .rw[List.map_append,List.nodup_append]
    refine⟨j5,by simp,λa ha c hc=>?_⟩
    obtain⟨t,ht,rfl⟩:=List.mem_map.1 ha
    simp only[List.map_cons,List.map_nil,List.mem_singleton]at hc
    intro e
    rw[hc]at e
    have:=(j6 t ht).2
    rw[e]at this
    exact hkd (by rw[<-hkey];exact this)
   .rcases List.mem_append.1 ht with ht|ht
    .exact⟨(j6 t ht).1,List.mem_append_left _ (j6 t ht).2⟩
    .rw[List.mem_singleton]at ht
     subst ht
     refine⟨⟨by rw[hid];exact hn,hv,rfl,rfl,hne⟩,List.mem_append_right _ ?_⟩
     rw[List.mem_singleton];exact hkey
   .rcases List.mem_append.1 hd2 with hd2|hd2
    .obtain⟨t,ht,e⟩:=j7 i2 n2 h2 hv2 hd2 hy2
     exact⟨t,List.mem_append_left _ ht,e⟩
    .rw[List.mem_singleton]at hd2
     have e1:n2.Lo=k.a0:=congrArg Af.a0 hd2
     have e2:n2.Hi=k.a1:=congrArg Af.a1 hd2
     have h3:=Ln h2
     rw[hv2,e1,e2]at h3
     have:i2=i:=hI.C6.uni h3 hd
     subst this
     rw[hn]at h2;cases h2
     exact⟨_,List.mem_append_right _ (List.mem_singleton.2 rfl),rfl⟩
  refine⟨λhne=>yes (.inl hne),λhe1=>⟨λhne=>yes (.inr hne),λhe2=>⟨Aj _ _ _,hQ _ ⟨L,?_,Aj _ _ _,λc hc=>?_,by simp;omega,j5,λt ht=>⟨(j6 t ht).1,List.mem_append_left _ (j6 t ht).2⟩,λi2 n2 h2 hv2 hd2 hy2=>?_⟩⟩⟩⟩
  .rw[Ad _ _ (Ne.symm hlb),Ad _ _ (Ne.symm hlb)];exact j1
  .rw[Ad _ _ (lne hc),Ad _ _ (lne hc)];exact j3 c hc
  .rcases List.mem_append.1 hd2 with hd2|hd2
   .exact j7 i2 n2 h2 hv2 hd2 hy2
   .exfalso;rw[List.mem_singleton]at hd2;have e1:n2.Lo=k.a0:=congrArg Af.a0 hd2;have e2:n2.Hi=k.a1:=congrArg Af.a1 hd2;have h3:=Ln h2;rw[hv2,e1,e2]at h3;have:i2=i:=hI.C6.uni h3 hd;subst this;rw[hn]at h2;cases h2;rcases hy2 with h4|h4
    .exact(hI.C6.Ajn.1 h4) (Classical.not_not.1 he1)
    .exact(hI.C6.Ajn.1 h4) (Classical.not_not.1 he2)
 .rw[Ad _ _ (Ne.symm hlb)];exact j1
 .have f:∀c,H c≠none->Dp (Ab H' l (Ob.lp r')) b2 c=H c:=λc hc=>by unfold Dp;rw[if_neg (bne hc),Ad _ _ (lne hc)];exact j3 c hc
  refine h L _ (hS.old f) (λc hc _ _ _ _=>f c hc) ?_ ?_ (λt ht=>(j6 t ht).1) λi n hn hv hy=>?_
  .rw[List.Nodup,List.pairwise_map]at j5 ⊢;refine j5.imp_of_mem λ{s t}hs ht hne e=>hne ?_;have h1:=(j6 s hs).1.nd;have h2:=(j6 t ht).1.nd;rw[e,h2]at h1;unfold kyT;rw[Option.some.inj h1]
  .have h1:(L.map kyT).length<=(S.ta x.toNat).ids.length:=by
    have:=Na (m:=(S.ta x.toNat).ids.map (·.1)) j5 λk hk=>by obtain⟨t,ht,rfl⟩:=List.mem_map.1 hk;have:=Ln (j6 t ht).1.nd;rw[(j6 t ht).1.v]at this;exact List.mem_map_of_mem (f:=Prod.fst) (Nu ((hg _ _ _).2 this))
    simpa using this
   rw[List.length_map]at h1;have:=hI.A7g hx';omega
  .have h1:=Ln hn;rw[hv]at h1;exact j7 i n hn hv (hall _ _ ((hg _ _ _).2 h1)) hy
end
end Go.Proofs.YtcbkbpjlbmalmaaGreatDoor
