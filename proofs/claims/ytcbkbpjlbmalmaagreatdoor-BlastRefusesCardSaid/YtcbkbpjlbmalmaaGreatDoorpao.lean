/-
  Maps with keys that differ; the unique tables; the levels. (Merged by program out of 4 texts.)
-/
import Derived.Test.YtcbkbpjlbmalmaaGreatDoorpan
namespace Go.Proofs.YtcbkbpjlbmalmaaGreatDoor
open Go Go.X Go.Y
section
set_option maxRecDepth 100000
set_option maxHeartbeats 2000000
def T5(s:Option Nat)(f:Int)(H:HY)(Q:Bool×Unit->UU)(X:PX):Prop:=(s=none->Q (false,()) () H)/\(¬s=none->(f<0->Q (false,()) () H)/\(¬f<0->∃(b:Nat),s=some b/\(∃(x:Aa),H b=some (Ob.st A8 x)/\({levels:=x.levels,Bs:=x.Bs,tables:=x.tables,counts:=x.counts,dead:=x.dead:Aa}=x/\Wp Y0 Bf Bc (x.Bs,Aw f,()) H (λ(b:Am×Bool×Unit)_ G=>(Aw f=(0:Int)->Q (true,()) () G)/\(¬Aw f=(0:Int)->Q (b.2.1,()) () G)) X)/\{levels:=x.levels,Bs:=x.Bs,tables:=x.tables,counts:=x.counts,dead:=x.dead:Aa}=x/\Wp Y0 Bf Bc (x.Bs,Aw f,()) H (λ(b:Am×Bool×Unit)_ G=>(Aw f=(0:Int)->Q (true,()) () G)/\(¬Aw f=(0:Int)->Q (b.2.1,()) () G)) X)/\∃(x:Aa),H b=some (Ob.st A8 x)/\{levels:=x.levels,Bs:=x.Bs,tables:=x.tables,counts:=x.counts,dead:=x.dead:Aa}=x/\Wp Y0 Bf Bc (x.Bs,Aw f,()) H (λ(b:Am×Bool×Unit)_ G=>(Aw f=(0:Int)->Q (true,()) () G)/\(¬Aw f=(0:Int)->Q (b.2.1,()) () G)) X))
theorem Adn s f H Q X(hyp_:T5 s f H Q X):Wp Y0 Fg Ei (s,f,()) H Q X:=wF Tryz.f189 {} (by kernel_rfl) hyp_ (by kernel_rfl)
def T6(s:Option Nat)(f:Int)(H:HY)(Q:Int×Int×Int×Bool×Unit->UU)(X:PX):Prop:=(s=none->Q (-1,0,0,false,()) () H)/\(¬s=none->(f<0->Q (-1,0,0,false,()) () H)/\(¬f<0->∃(b:Nat),s=some b/\(∃(x:Aa),H b=some (Ob.st A8 x)/\({levels:=x.levels,Bs:=x.Bs,tables:=x.tables,counts:=x.counts,dead:=x.dead:Aa}=x/\Wp Y0 Bf Bc (x.Bs,Aw f,()) H (λ(b:Am×Bool×Unit)_ G=>(¬b.2.1=true->Q (-1,0,0,false,()) () G)/\(¬¬b.2.1=true->Q (b.1.Var,A7 b.1.Lo (Bt f),A7 b.1.Hi (Bt f),true,()) () G)) X)/\{levels:=x.levels,Bs:=x.Bs,tables:=x.tables,counts:=x.counts,dead:=x.dead:Aa}=x/\Wp Y0 Bf Bc (x.Bs,Aw f,()) H (λ(b:Am×Bool×Unit)_ G=>(¬b.2.1=true->Q (-1,0,0,false,()) () G)/\(¬¬b.2.1=true->Q (b.1.Var,A7 b.1.Lo (Bt f),A7 b.1.Hi (Bt f),true,()) () G)) X)/\∃(x:Aa),H b=some (Ob.st A8 x)/\{levels:=x.levels,Bs:=x.Bs,tables:=x.tables,counts:=x.counts,dead:=x.dead:Aa}=x/\Wp Y0 Bf Bc (x.Bs,Aw f,()) H (λ(b:Am×Bool×Unit)_ G=>(¬b.2.1=true->Q (-1,0,0,false,()) () G)/\(¬¬b.2.1=true->Q (b.1.Var,A7 b.1.Lo (Bt f),A7 b.1.Hi (Bt f),true,()) () G)) X))
theorem Ado s f H Q X(hyp_:T6 s f H Q X):Wp Y0 Fh Ej (s,f,()) H Q X:=wF Tryz.f122 {} (by kernel_rfl) hyp_ (by kernel_rfl)
def Qr(s:Option Nat)(f level:Int)(H:HY)(Q:Bool×Unit->UU)(X:PX):Prop:=∃(b:Nat),s=some b/\(∃(x:Aa),H b=some (Ob.st A8 x)/\({levels:=x.levels,Bs:=x.Bs,tables:=x.tables,counts:=x.counts,dead:=x.dead:Aa}=x/\Wp Y0 Bf Bc (x.Bs,Aw f,()) H (λ(b:Am×Bool×Unit)_ G=>(Aw f=(0:Int)->Q (true,()) () G)/\(¬Aw f=(0:Int)->(b.2.1=true->Wp Y0 Cl Cb (s,b.1.Var,()) G (λ(b:Int×Unit)_ G=>Q (decide (level<b.1),()) () G) X)/\(¬b.2.1=true->Q (false,()) () G))) X)/\{levels:=x.levels,Bs:=x.Bs,tables:=x.tables,counts:=x.counts,dead:=x.dead:Aa}=x/\Wp Y0 Bf Bc (x.Bs,Aw f,()) H (λ(b:Am×Bool×Unit)_ G=>(Aw f=(0:Int)->Q (true,()) () G)/\(¬Aw f=(0:Int)->(b.2.1=true->Wp Y0 Cl Cb (s,b.1.Var,()) G (λ(b:Int×Unit)_ G=>Q (decide (level<b.1),()) () G) X)/\(¬b.2.1=true->Q (false,()) () G))) X)/\∃(x:Aa),H b=some (Ob.st A8 x)/\{levels:=x.levels,Bs:=x.Bs,tables:=x.tables,counts:=x.counts,dead:=x.dead:Aa}=x/\Wp Y0 Bf Bc (x.Bs,Aw f,()) H (λ(b:Am×Bool×Unit)_ G=>(Aw f=(0:Int)->Q (true,()) () G)/\(¬Aw f=(0:Int)->(b.2.1=true->Wp Y0 Cl Cb (s,b.1.Var,()) G (λ(b:Int×Unit)_ G=>Q (decide (level<b.1),()) () G) X)/\(¬b.2.1=true->Q (false,()) () G))) X
theorem Yk s f level H Q X(hyp_:Qr s f level H Q X):Wp Y0 Ii F5 (s,f,level,()) H Q X:=wF Tryz.f230 {} (by kernel_rfl) hyp_ (by kernel_rfl)
def Yq(s:Option Nat)(v:Int)(H:HY)(Q:Int×Unit->UU)(X:PX):Prop:=(s=none->Q (-1,()) () H)/\(¬s=none->∃(b:Nat),s=some b/\∃(x:Aa),H b=some (Ob.st A8 x)/\{levels:=x.levels,Bs:=x.Bs,tables:=x.tables,counts:=x.counts,dead:=x.dead:Aa}=x/\Wp Y0 Kq Hg (x.levels,v,()) H (λ(b:Int×Unit)_ G=>Q (b.1,()) () G) X)
theorem Yp s v H Q X(hyp_:Yq s v H Q X):Wp Y0 Cl Cb (s,v,()) H Q X:=wF Tryz.f124 {} (by kernel_rfl) hyp_ (by kernel_rfl)
def Z7(s:Option Nat)(H:HY)(Q:Int×Unit->UU)(X:PX):Prop:=(s=none->Q (0,()) () H)/\(¬s=none->∃(b:Nat),s=some b/\∃(x:Aa),H b=some (Ob.st A8 x)/\∃(b:Nat),x.levels=some b/\{levels:=x.levels,Bs:=x.Bs,tables:=x.tables,counts:=x.counts,dead:=x.dead:Aa}=x/\∃(x:Bd),H b=some (Ob.st Eb x)/\(x.vars.length<=9223372036854775807->{vars:=x.vars,level:=x.level:Bd}=x/\Q ((↑x.vars.length:Int),()) () H))
theorem Z6 s H Q X(hyp_:Z7 s H Q X):Wp Y0 Ml I5 (s,()) H Q X:=wF Tryz.f119 {} (by kernel_rfl) hyp_ (by kernel_rfl)
def Aaa(s:Option Nat)(H:HY)(Q:Int×Unit->UU)(X:PX):Prop:=(s=none->Q (0,()) () H)/\(¬s=none->∃(b:Nat),s=some b/\∃(x:Aa),H b=some (Ob.st A8 x)/\{levels:=x.levels,Bs:=x.Bs,tables:=x.tables,counts:=x.counts,dead:=x.dead:Aa}=x/\Wp Y0 T8 Ou (x.Bs,()) H (λ(b:Int×Unit)_ G=>Q (b.1,()) () G) X)
theorem Z9 s H Q X(hyp_:Aaa s H Q X):Wp Y0 Mm I7 (s,()) H Q X:=wF Tryz.f210 {} (by kernel_rfl) hyp_ (by kernel_rfl)
def Abr(s:Option Nat)(H:HY)(Q:Int×Unit->UU)(X:PX):Prop:=(s=none->Q (0,()) () H)/\(¬s=none->∃(b:Nat),s=some b/\∃(x:Aa),H b=some (Ob.st A8 x)/\{levels:=x.levels,Bs:=x.Bs,tables:=x.tables,counts:=x.counts,dead:=x.dead:Aa}=x/\Wp Y0 Vi Qb (x.Bs,()) H (λ(b:Int×Unit)_ G=>Q (b.1,()) () G) X)
theorem Abq s H Q X(hyp_:Abr s H Q X):Wp Y0 N0 J6 (s,()) H Q X:=wF Tryz.f211 {} (by kernel_rfl) hyp_ (by kernel_rfl)
def Qu(s:Option Nat)(H:HY)(Q:List Int×Unit->UU)(X:PX):Prop:=(s=none->Q ([],()) () H)/\(¬s=none->∃(b:Nat),s=some b/\∃(x:Aa),H b=some (Ob.st A8 x)/\∃(b:Nat),x.levels=some b/\{levels:=x.levels,Bs:=x.Bs,tables:=x.tables,counts:=x.counts,dead:=x.dead:Aa}=x/\∃(x:Bd),H b=some (Ob.st Eb x)/\(0+x.vars.length)*8<=140737488355328/\Q ([]++x.vars,()) () (Ab H b (Ob.st Eb {vars:=x.vars,level:=x.level:Bd})))
theorem Yo s H Q X(hyp_:Qu s H Q X):Wp Y0 F7 Ey (s,()) H Q X:=wF Tryz.f161 {} (by kernel_rfl) hyp_ (by kernel_rfl)
def Md(s:Option Nat)(f:Int)(H:HY)(Q:Unit->UU)(X:PX):Prop:=(Aw f=(0:Int)->Q () () H)/\(¬Aw f=(0:Int)->∃(b:Nat),s=some b/\∃(x:Aa),H b=some (Ob.st A8 x)/\(InK .i64 (Aw f)->(InK .i64 (Aw f)->(0:Int)<=Aw f)/\∃(h:(Aw f).toNat<x.counts.length),∃(h:(Aw f).toNat<x.counts.length),InK .i64 x.counts[(Aw f).toNat]->InK .i64 (x.counts[(Aw f).toNat]+1)/\(InK .i64 (Aw f)->(InK .i64 (Aw f)->(0:Int)<=Aw f)/\∃(h1:(Aw f).toNat<x.counts.length),(Aw f).toNat<x.counts.length/\(InK .i64 (Aw f)->(InK .i64 (Aw f)->(0:Int)<=Aw f)/\∃(h2:(Aw f).toNat<(x.counts.set (Aw f).toNat (x.counts[(Aw f).toNat]+1)).length),∃(h3:(Aw f).toNat<(x.counts.set (Aw f).toNat (x.counts[(Aw f).toNat]+1)).length),((1:Int)<(x.counts.set (Aw f).toNat (x.counts[(Aw f).toNat]+1))[(Aw f).toNat]->Q () () (Ab H b (Ob.st A8 {x with counts:=x.counts.set (Aw f).toNat (x.counts[(Aw f).toNat]+1)})))/\(¬(1:Int)<(x.counts.set (Aw f).toNat (x.counts[(Aw f).toNat]+1))[(Aw f).toNat]->InK .i64 x.dead->InK .i64 (x.dead-1)/\Wp Y0 Bf Bc (x.Bs,Aw f,()) (Ab H b (Ob.st A8 {x with counts:=x.counts.set (Aw f).toNat (x.counts[(Aw f).toNat]+1),dead:=x.dead-1})) (λ(b:Am×Bool×Unit)_ G=>Wp Y0 B9 B3 (s,b.1.Lo,()) G (λ(b1 io:Unit)(G:HY)=>Wp Y0 B9 B3 (s,b.1.Hi,()) G (λ(b io:Unit)(G:HY)=>Q () () G) X) X) X)))))
theorem Ri s f H Q X(hyp_:Md s f H Q X):Wp Y0 B9 B3 (s,f,()) H Q X:=wF Tryz.f215 {} (by kernel_rfl) hyp_ (by kernel_rfl)
def Me(s:Option Nat)(f:Int)(H:HY)(Q:Unit->UU)(X:PX):Prop:=(Aw f=(0:Int)->Q () () H)/\(¬Aw f=(0:Int)->∃(b:Nat),s=some b/\∃(x:Aa),H b=some (Ob.st A8 x)/\(InK .i64 (Aw f)->(InK .i64 (Aw f)->(0:Int)<=Aw f)/\∃(h:(Aw f).toNat<x.counts.length),∃(h:(Aw f).toNat<x.counts.length),InK .i64 x.counts[(Aw f).toNat]->InK .i64 (x.counts[(Aw f).toNat]-1)/\(InK .i64 (Aw f)->(InK .i64 (Aw f)->(0:Int)<=Aw f)/\∃(h1:(Aw f).toNat<x.counts.length),(Aw f).toNat<x.counts.length/\(InK .i64 (Aw f)->(InK .i64 (Aw f)->(0:Int)<=Aw f)/\∃(h2:(Aw f).toNat<(x.counts.set (Aw f).toNat (x.counts[(Aw f).toNat]-1)).length),∃(h3:(Aw f).toNat<(x.counts.set (Aw f).toNat (x.counts[(Aw f).toNat]-1)).length),((0:Int)<(x.counts.set (Aw f).toNat (x.counts[(Aw f).toNat]-1))[(Aw f).toNat]->Q () () (Ab H b (Ob.st A8 {x with counts:=x.counts.set (Aw f).toNat (x.counts[(Aw f).toNat]-1)})))/\(¬(0:Int)<(x.counts.set (Aw f).toNat (x.counts[(Aw f).toNat]-1))[(Aw f).toNat]->InK .i64 x.dead->InK .i64 (x.dead+1)/\Wp Y0 Bf Bc (x.Bs,Aw f,()) (Ab H b (Ob.st A8 {x with counts:=x.counts.set (Aw f).toNat (x.counts[(Aw f).toNat]-1),dead:=x.dead+1})) (λ(b:Am×Bool×Unit)_ G=>Wp Y0 Ca B4 (s,b.1.Lo,()) G (λ(b1 io:Unit)(G:HY)=>Wp Y0 Ca B4 (s,b.1.Hi,()) G (λ(b io:Unit)(G:HY)=>Q () () G) X) X) X)))))
theorem Rj s f H Q X(hyp_:Me s f H Q X):Wp Y0 Ca B4 (s,f,()) H Q X:=wF Tryz.f218 {} (by kernel_rfl) hyp_ (by kernel_rfl)
def Rl(s:Option Nat)(f:Int)(H:HY)(Q:Int×Unit->UU)(X:PX):Prop:=(s=none->Q (5,()) () H)/\(¬s=none->Wp Y0 Fg Ei (s,f,()) H (λ(b:Bool×Unit)_ G=>(¬b.1=true->Q (8,()) () G)/\(¬¬b.1=true->∃(b:Nat),s=some b/\(∃(x:Aa),G b=some (Ob.st A8 x)/\({levels:=x.levels,Bs:=x.Bs,tables:=x.tables,counts:=x.counts,dead:=x.dead:Aa}=x/\Wp Y0 Bf Bc (x.Bs,Aw f,()) G (λ(b1:Am×Bool×Unit)_ G=>(b1.2.1=true->InK .i64 b1.1.Refs->InK .i64 (b1.1.Refs+1)/\∃(x:Aa),G b=some (Ob.st A8 x)/\{levels:=x.levels,Bs:=x.Bs,tables:=x.tables,counts:=x.counts,dead:=x.dead:Aa}=x/\Wp Y0 Cy Co (x.Bs,{ID:=b1.1.ID,Var:=b1.1.Var,Lo:=b1.1.Lo,Hi:=b1.1.Hi,Refs:=b1.1.Refs+1:Am},()) G (λ(b:Int×Unit)_ G=>Wp Y0 B9 B3 (s,f,()) G (λ(b io:Unit)(G:HY)=>Q (0,()) () G) X) X)/\(¬b1.2.1=true->Q (0,()) () G)) X)/\{levels:=x.levels,Bs:=x.Bs,tables:=x.tables,counts:=x.counts,dead:=x.dead:Aa}=x/\Wp Y0 Bf Bc (x.Bs,Aw f,()) G (λ(b1:Am×Bool×Unit)_ G=>(b1.2.1=true->InK .i64 b1.1.Refs->InK .i64 (b1.1.Refs+1)/\∃(x:Aa),G b=some (Ob.st A8 x)/\{levels:=x.levels,Bs:=x.Bs,tables:=x.tables,counts:=x.counts,dead:=x.dead:Aa}=x/\Wp Y0 Cy Co (x.Bs,{ID:=b1.1.ID,Var:=b1.1.Var,Lo:=b1.1.Lo,Hi:=b1.1.Hi,Refs:=b1.1.Refs+1:Am},()) G (λ(b:Int×Unit)_ G=>Wp Y0 B9 B3 (s,f,()) G (λ(b io:Unit)(G:HY)=>Q (0,()) () G) X) X)/\(¬b1.2.1=true->Q (0,()) () G)) X)/\∃(x:Aa),G b=some (Ob.st A8 x)/\{levels:=x.levels,Bs:=x.Bs,tables:=x.tables,counts:=x.counts,dead:=x.dead:Aa}=x/\Wp Y0 Bf Bc (x.Bs,Aw f,()) G (λ(b1:Am×Bool×Unit)_ G=>(b1.2.1=true->InK .i64 b1.1.Refs->InK .i64 (b1.1.Refs+1)/\∃(x:Aa),G b=some (Ob.st A8 x)/\{levels:=x.levels,Bs:=x.Bs,tables:=x.tables,counts:=x.counts,dead:=x.dead:Aa}=x/\Wp Y0 Cy Co (x.Bs,{ID:=b1.1.ID,Var:=b1.1.Var,Lo:=b1.1.Lo,Hi:=b1.1.Hi,Refs:=b1.1.Refs+1:Am},()) G (λ(b:Int×Unit)_ G=>Wp Y0 B9 B3 (s,f,()) G (λ(b io:Unit)(G:HY)=>Q (0,()) () G) X) X)/\(¬b1.2.1=true->Q (0,()) () G)) X)) X)
theorem Aab s f H Q X(hyp_:Rl s f H Q X):Wp Y0 Mo I8 (s,f,()) H Q X:=wF Tryz.f223 {} (by kernel_rfl) hyp_ (by kernel_rfl)
def Rm(s:Option Nat)(f:Int)(H:HY)(Q:Int×Unit->UU)(X:PX):Prop:=(s=none->Q (5,()) () H)/\(¬s=none->Wp Y0 Fg Ei (s,f,()) H (λ(b:Bool×Unit)_ G=>(¬b.1=true->Q (8,()) () G)/\(¬¬b.1=true->∃(b:Nat),s=some b/\(∃(x:Aa),G b=some (Ob.st A8 x)/\({levels:=x.levels,Bs:=x.Bs,tables:=x.tables,counts:=x.counts,dead:=x.dead:Aa}=x/\Wp Y0 Bf Bc (x.Bs,Aw f,()) G (λ(b1:Am×Bool×Unit)_ G=>(¬b1.2.1=true->Q (0,()) () G)/\(¬¬b1.2.1=true->(b1.1.Refs=(0:Int)->Q (5,()) () G)/\(¬b1.1.Refs=(0:Int)->InK .i64 b1.1.Refs->InK .i64 (b1.1.Refs-1)/\∃(x:Aa),G b=some (Ob.st A8 x)/\{levels:=x.levels,Bs:=x.Bs,tables:=x.tables,counts:=x.counts,dead:=x.dead:Aa}=x/\Wp Y0 Cy Co (x.Bs,{ID:=b1.1.ID,Var:=b1.1.Var,Lo:=b1.1.Lo,Hi:=b1.1.Hi,Refs:=b1.1.Refs-1:Am},()) G (λ(b:Int×Unit)_ G=>Wp Y0 Ca B4 (s,f,()) G (λ(b io:Unit)(G:HY)=>Q (0,()) () G) X) X))) X)/\{levels:=x.levels,Bs:=x.Bs,tables:=x.tables,counts:=x.counts,dead:=x.dead:Aa}=x/\Wp Y0 Bf Bc (x.Bs,Aw f,()) G (λ(b1:Am×Bool×Unit)_ G=>(¬b1.2.1=true->Q (0,()) () G)/\(¬¬b1.2.1=true->(b1.1.Refs=(0:Int)->Q (5,()) () G)/\(¬b1.1.Refs=(0:Int)->InK .i64 b1.1.Refs->InK .i64 (b1.1.Refs-1)/\∃(x:Aa),G b=some (Ob.st A8 x)/\{levels:=x.levels,Bs:=x.Bs,tables:=x.tables,counts:=x.counts,dead:=x.dead:Aa}=x/\Wp Y0 Cy Co (x.Bs,{ID:=b1.1.ID,Var:=b1.1.Var,Lo:=b1.1.Lo,Hi:=b1.1.Hi,Refs:=b1.1.Refs-1:Am},()) G (λ(b:Int×Unit)_ G=>Wp Y0 Ca B4 (s,f,()) G (λ(b io:Unit)(G:HY)=>Q (0,()) () G) X) X))) X)/\∃(x:Aa),G b=some (Ob.st A8 x)/\{levels:=x.levels,Bs:=x.Bs,tables:=x.tables,counts:=x.counts,dead:=x.dead:Aa}=x/\Wp Y0 Bf Bc (x.Bs,Aw f,()) G (λ(b1:Am×Bool×Unit)_ G=>(¬b1.2.1=true->Q (0,()) () G)/\(¬¬b1.2.1=true->(b1.1.Refs=(0:Int)->Q (5,()) () G)/\(¬b1.1.Refs=(0:Int)->InK .i64 b1.1.Refs->InK .i64 (b1.1.Refs-1)/\∃(x:Aa),G b=some (Ob.st A8 x)/\{levels:=x.levels,Bs:=x.Bs,tables:=x.tables,counts:=x.counts,dead:=x.dead:Aa}=x/\Wp Y0 Cy Co (x.Bs,{ID:=b1.1.ID,Var:=b1.1.Var,Lo:=b1.1.Lo,Hi:=b1.1.Hi,Refs:=b1.1.Refs-1:Am},()) G (λ(b:Int×Unit)_ G=>Wp Y0 Ca B4 (s,f,()) G (λ(b io:Unit)(G:HY)=>Q (0,()) () G) X) X))) X)) X)
theorem Aac s f H Q X(hyp_:Rm s f H Q X):Wp Y0 Mp I9 (s,f,()) H Q X:=wF Tryz.f174 {} (by kernel_rfl) hyp_ (by kernel_rfl)
def Se(s:Option Nat)(v lo hi:Int)(H:HY)(Q:Int×Int×Unit->UU)(X:PX):Prop:=∃(b:Nat),s=some b/\∃(x:Aa),H b=some (Ob.st A8 x)/\{levels:=x.levels,Bs:=x.Bs,tables:=x.tables,counts:=x.counts,dead:=x.dead:Aa}=x/\Wp Y0 Oy K8 (x.Bs,{ID:=(0:Int),Var:=v,Lo:=lo,Hi:=hi,Refs:=(0:Int):Am},()) H (λ(b1:Int×Int×Unit)_ G=>(¬b1.2.1=(0:Int)->Q (0,b1.2.1,()) () G)/\(¬¬b1.2.1=(0:Int)->∃(V:Nat->UU),(∃(n:Nat),V n () G)/\∀(n:Nat)(x:Unit)(H:HY),V n x H->∃(x:Aa),H b=some (Ob.st A8 x)/\(x.counts.length<=9223372036854775807->((↑x.counts.length:Int)<=b1.1->(x.counts.length+[(0:Int)].length)*8<=140737488355328/\∃(m:Nat),m<n/\V m () (Ab H b (Ob.st A8 {x with counts:=x.counts++[(0:Int)]})))/\(¬(↑x.counts.length:Int)<=b1.1->InK .i64 b1.1->(InK .i64 b1.1->(0:Int)<=b1.1)/\∃(h:b1.1.toNat<x.counts.length),b1.1.toNat<x.counts.length/\(InK .i64 x.dead->InK .i64 (x.dead+1)/\(InK .i64 v->(InK .i64 v->(0:Int)<=v)/\∃(h:v.toNat<x.tables.length),∃(h:v.toNat<x.tables.length),Wp Y0 Fe Eh (x.tables[v.toNat],lo,hi,b1.1,()) (Ab H b (Ob.st A8 {x with counts:=x.counts.set b1.1.toNat (0:Int),dead:=x.dead+1})) (λ(b:Int×Unit)_ G=>Q (b1.1,0,()) () G) X)))))) X
theorem Abp s v lo hi H Q X(hyp_:Se s v lo hi H Q X):Wp Y0 J8 Hh (s,v,lo,hi,()) H Q X:=wF Tryz.f233 {lp:=[(4,⟨[],[0,1,2,3,10],true⟩)]} (by kernel_rfl) hyp_ (by kernel_rfl)
def Qs(s:Option Nat)(f v:Int)(H:HY)(Q:Int×Int×Unit->UU)(X:PX):Prop:=Wp Y0 Fh Ej (s,f,()) H (λ(b:Int×Int×Int×Bool×Unit)_ G=>(¬b.2.2.2.1=true->Q (f,f,()) () G)/\(¬¬b.2.2.2.1=true->(¬b.1=v->Q (f,f,()) () G)/\(¬¬b.1=v->Q (b.2.1,b.2.2.1,()) () G))) X
theorem Yl s f v H Q X(hyp_:Qs s f v H Q X):Wp Y0 Ij F6 (s,f,v,()) H Q X:=wF Tryz.f253 {} (by kernel_rfl) hyp_ (by kernel_rfl)
def Qt(s:Option Nat)(x lo hi:Int)(H:HY)(Q:Int×Unit->UU)(X:PX):Prop:=(lo=hi->Q (lo,()) () H)/\(¬lo=hi->∃(b:Nat),s=some b/\∃(x1:Aa),H b=some (Ob.st A8 x1)/\(InK .i64 x->(InK .i64 x->(0:Int)<=x)/\∃(h:x.toNat<x1.tables.length),∃(h:x.toNat<x1.tables.length),{levels:=x1.levels,Bs:=x1.Bs,tables:=x1.tables,counts:=x1.counts,dead:=x1.dead:Aa}=x1/\Wp Y0 Fy Et (x1.tables[x.toNat],A7 lo (Bt hi),A7 hi (Bt hi),()) H (λ(b:Int×Bool×Unit)_ G=>(¬b.2.1=true->Wp Y0 J8 Hh (s,x,A7 lo (Bt hi),A7 hi (Bt hi),()) G (λ(b:Int×Int×Unit)_ G=>(InK .i64 b.1/\True/\True->b.1<=(4611686018427387903:den Y0.D I64))/\Q (A7 (2*max b.1 (0:den Y0.D I64)) (Bt hi),()) () G) X)/\(¬¬b.2.1=true->(InK .i64 b.1/\True/\True->b.1<=(4611686018427387903:den Y0.D I64))/\Q (A7 (2*max b.1 (0:den Y0.D I64)) (Bt hi),()) () G)) X))
theorem Ym s x lo hi H Q X(hyp_:Qt s x lo hi H Q X):Wp Y0 D3 Dd (s,x,lo,hi,()) H Q X:=wF Tryz.f214 {} (by kernel_rfl) hyp_ (by kernel_rfl)
def T4(s:Option Nat)(v lo hi:Int)(H:HY)(Q:Int×Int×Unit->UU)(X:PX):Prop:=(s=none->Q (0,5,()) () H)/\(¬s=none->Wp Y0 Cl Cb (s,v,()) H (λ(b:Int×Unit)_ G=>(b.1<0->Q (0,9,()) () G)/\(¬b.1<0->Wp Y0 Fg Ei (s,lo,()) G (λ(b:Bool×Unit)_ G=>(¬b.1=true->Q (0,8,()) () G)/\(¬¬b.1=true->Wp Y0 Fg Ei (s,hi,()) G (λ(b:Bool×Unit)_ G=>(¬b.1=true->Q (0,8,()) () G)/\(¬¬b.1=true->Wp Y0 Cl Cb (s,v,()) G (λ(b:Int×Unit)_ G=>Wp Y0 Ii F5 (s,lo,b.1,()) G (λ(b:Bool×Unit)_ G=>(¬b.1=true->Q (0,10,()) () G)/\(¬¬b.1=true->Wp Y0 Cl Cb (s,v,()) G (λ(b:Int×Unit)_ G=>Wp Y0 Ii F5 (s,hi,b.1,()) G (λ(b:Bool×Unit)_ G=>(¬b.1=true->Q (0,10,()) () G)/\(¬¬b.1=true->(lo=hi->Q (lo,0,()) () G)/\(¬lo=hi->∃(b:Nat),s=some b/\∃(x:Aa),G b=some (Ob.st A8 x)/\(InK .i64 v->(InK .i64 v->(0:Int)<=v)/\∃(h:v.toNat<x.tables.length),∃(h:v.toNat<x.tables.length),{levels:=x.levels,Bs:=x.Bs,tables:=x.tables,counts:=x.counts,dead:=x.dead:Aa}=x/\Wp Y0 Fy Et (x.tables[v.toNat],A7 lo (Bt hi),A7 hi (Bt hi),()) G (λ(b:Int×Bool×Unit)_ G=>(¬b.2.1=true->Wp Y0 J8 Hh (s,v,A7 lo (Bt hi),A7 hi (Bt hi),()) G (λ(b:Int×Int×Unit)_ G=>(¬b.2.1=(0:Int)->Q (0,b.2.1,()) () G)/\(¬¬b.2.1=(0:Int)->(InK .i64 b.1/\True/\True->b.1<=(4611686018427387903:den Y0.D I64))/\Q (A7 (2*max b.1 (0:den Y0.D I64)) (Bt hi),0,()) () G)) X)/\(¬¬b.2.1=true->(¬(0:Int)=(0:Int)->Q (0,0,()) () G)/\(¬¬(0:Int)=(0:Int)->(InK .i64 b.1/\True/\True->b.1<=(4611686018427387903:den Y0.D I64))/\Q (A7 (2*max b.1 (0:den Y0.D I64)) (Bt hi),0,()) () G))) X)))) X) X)) X) X)) X)) X)) X)
theorem Adm s v lo hi H Q X(hyp_:T4 s v lo hi H Q X):Wp Y0 Iu Gl (s,v,lo,hi,()) H Q X:=wF Tryz.f190 {} (by kernel_rfl) hyp_ (by kernel_rfl)
def Abk(n:Int)(H:HY)(Q:List Int×Unit->UU)(X:PX):Prop:=InK .i64 (mnL false (mnL true n [(.i64,0)]) [(.i64,64)])->InK .i64 (mnL false (mnL true n [(.i64,0)]) [(.i64,64)])->(0:Int)<=mnL false (mnL true n [(.i64,0)]) [(.i64,64)]/\mnL false (mnL true n [(.i64,0)]) [(.i64,64)]=mnL false (mnL true n [(.i64,0)]) [(.i64,64)]/\(mnL false (mnL true n [(.i64,0)]) [(.i64,64)]).toNat*8<=281474976710656/\((List.replicate (mnL false (mnL true n [(.i64,(0:Int))]) [(.i64,(64:Int))]).toNat (0:Int)).length<=9223372036854775807->∃(V:Nat->List Int×Nat×Unit->Prop),(∃(n1:Nat),H=H/\V n1 (List.replicate (mnL false (mnL true n [(.i64,0)]) [(.i64,64)]).toNat (0:Int),0,()))/\∀(n1:Nat)(x:List Int×Nat×Unit),V n1 x->(x.2.1<(List.replicate (mnL false (mnL true n [(.i64,0)]) [(.i64,64)]).toNat (0:Int)).length->x.2.1<=9223372036854775807->∃(h:x.2.1<x.1.length),x.2.1<x.1.length/\x.2.1+1<=9223372036854775807/\∃(m:Nat),m<n1/\H=H/\V m (x.1.set x.2.1 (↑x.2.1:Int),x.2.1+1,()))/\(¬x.2.1<(List.replicate (mnL false (mnL true n [(.i64,0)]) [(.i64,64)]).toNat (0:Int)).length->Q (x.1,()) () H))
theorem Alp n H Q X(hyp_:Abk n H Q X):Wp Y0 Q2 Np (n,()) H Q X:=wF Tryz.f152 {lp:=[(3,⟨[(3,.one (.own I6)),(11,.nat)],[3,10],false⟩)]} (by kernel_rfl) hyp_ (by kernel_rfl)
end
section
set_option maxRecDepth 100000
set_option maxHeartbeats 2000000
def Wq(p:Option Nat)(id:Int)(H:HY)(Q:Bool×Unit->UU)(X:PX):Prop:=(¬p=none->((0:Int)<id->∃(b:Nat),p=some b/\∃(x:Av),H b=some (Ob.st Ek x)/\(x.at_.length<=9223372036854775807->(id<(↑x.at_.length:Int)->InK .i64 id->(InK .i64 id->(0:Int)<=id)/\∃(h:id.toNat<x.taken.length),∃(h:id.toNat<x.taken.length),{room:=x.room,at_:=x.at_,taken:=x.taken,free:=x.free,many:=x.many:Av}=x/\Q (x.taken[id.toNat],()) () H)/\(¬id<(↑x.at_.length:Int)->{room:=x.room,at_:=x.at_,taken:=x.taken,free:=x.free,many:=x.many:Av}=x/\Q (false,()) () H)))/\(¬(0:Int)<id->Q (false,()) () H))/\(¬¬p=none->Q (false,()) () H)
theorem Agc p id H Q X(hyp_:Wq p id H Q X):Wp Y0 Ko Io (p,id,()) H Q X:=wF Tryz.f226 {} (by kernel_rfl) hyp_ (by kernel_rfl)
def Wr(p:Option Nat)(id:Int)(H:HY)(Q:Am×Bool×Unit->UU)(X:PX):Prop:=Wp Y0 Ko Io (p,id,()) H (λ(b:Bool×Unit)_ G=>(¬b.1=true->Q ({ID:=(0:Int),Var:=(0:Int),Lo:=(0:Int),Hi:=(0:Int),Refs:=(0:Int):Am},false,()) () G)/\(¬¬b.1=true->∃(b:Nat),p=some b/\∃(x:Av),G b=some (Ob.st Ek x)/\(InK .i64 id->(InK .i64 id->(0:Int)<=id)/\∃(h:id.toNat<x.at_.length),∃(h:id.toNat<x.at_.length),Q ({ID:=x.at_[id.toNat].ID,Var:=x.at_[id.toNat].Var,Lo:=x.at_[id.toNat].Lo,Hi:=x.at_[id.toNat].Hi,Refs:=x.at_[id.toNat].Refs:Am},true,()) () (Ab G b (Ob.st Ek {room:=x.room,at_:=x.at_,taken:=x.taken,free:=x.free,many:=x.many:Av}))))) X
theorem Agd p id H Q X(hyp_:Wr p id H Q X):Wp Y0 Bf Bc (p,id,()) H Q X:=wF Tryz.f183 {} (by kernel_rfl) hyp_ (by kernel_rfl)
def Ve(p:Option Nat)(n:Am)(H:HY)(Q:Int×Unit->UU)(X:PX):Prop:=Wp Y0 Ko Io (p,n.ID,()) H (λ(b:Bool×Unit)_ G=>(¬b.1=true->Q (5,()) () G)/\(¬¬b.1=true->∃(b:Nat),p=some b/\∃(x:Av),G b=some (Ob.st Ek x)/\(InK .i64 n.ID->(InK .i64 n.ID->(0:Int)<=n.ID)/\∃(h:n.ID.toNat<x.at_.length),n.ID.toNat<x.at_.length/\Q (0,()) () (Ab G b (Ob.st Ek {x with at_:=x.at_.set n.ID.toNat n}))))) X
theorem Aex p n H Q X(hyp_:Ve p n H Q X):Wp Y0 Cy Co (p,n,()) H Q X:=wF Tryz.f216 {im:=[3]} (by kernel_rfl) hyp_ (by kernel_rfl)
def T3(p:Option Nat)(id:Int)(H:HY)(Q:Int×Unit->UU)(X:PX):Prop:=Wp Y0 Ko Io (p,id,()) H (λ(b:Bool×Unit)_ G=>(¬b.1=true->Q (5,()) () G)/\(¬¬b.1=true->∃(b:Nat),p=some b/\∃(x:Av),G b=some (Ob.st Ek x)/\(InK .i64 id->(InK .i64 id->(0:Int)<=id)/\∃(h:id.toNat<x.at_.length),id.toNat<x.at_.length/\(InK .i64 id->(InK .i64 id->(0:Int)<=id)/\∃(h:id.toNat<x.taken.length),id.toNat<x.taken.length/\(x.free.length+[id].length)*8<=140737488355328/\(InK .i64 x.many->InK .i64 (x.many-1)/\Q (0,()) () (Ab G b (Ob.st Ek {x with at_:=x.at_.set id.toNat {ID:=(0:Int),Var:=(0:Int),Lo:=(0:Int),Hi:=(0:Int),Refs:=(0:Int):Am},taken:=x.taken.set id.toNat false,free:=x.free++[id],many:=x.many-1}))))))) X
theorem Adj p id H Q X(hyp_:T3 p id H Q X):Wp Y0 It Gk (p,id,()) H Q X:=wF Tryz.f251 {} (by kernel_rfl) hyp_ (by kernel_rfl)
def T2(p:Option Nat)(n:Am)(H:HY)(Q:Int×Int×Unit->UU)(X:PX):Prop:=(p=none->Q (0,5,()) () H)/\(¬p=none->∃(b:Nat),p=some b/\∃(x:Av),H b=some (Ob.st Ek x)/\(x.free.length<=9223372036854775807->(0<x.free.length->x.free.length<=9223372036854775807->InK .i64 ((↑x.free.length:Int)-1)/\(InK .i64 ((↑x.free.length:Int)-1)->(InK .i64 ((↑x.free.length:Int)-1)->(0:Int)<=(↑x.free.length:Int)-1)/\∃(h:((↑x.free.length:Int)-1).toNat<x.free.length),∃(h:((↑x.free.length:Int)-1).toNat<x.free.length),x.free.length<=9223372036854775807->InK .i64 ((↑x.free.length:Int)-1)/\(x.free.length<=9223372036854775807->InK .i64 ((↑x.free.length:Int)-1)/\(InK .i64 ((↑x.free.length:Int)-1)->(0:Int)<=(↑x.free.length:Int)-1/\(InK .i64 ((↑x.free.length:Int)-1)->(0:Int)<=(↑x.free.length:Int)-1/\((↑x.free.length:Int)-1).toNat<=((↑x.free.length:Int)-1).toNat/\((↑x.free.length:Int)-1).toNat<=x.free.length/\(InK .i64 x.free[((↑x.free.length:Int)-1).toNat]->(InK .i64 x.free[((↑x.free.length:Int)-1).toNat]->(0:Int)<=x.free[((↑x.free.length:Int)-1).toNat])/\∃(h1:x.free[((↑x.free.length:Int)-1).toNat].toNat<x.at_.length),x.free[((↑x.free.length:Int)-1).toNat].toNat<x.at_.length/\(InK .i64 x.free[((↑x.free.length:Int)-1).toNat]->(InK .i64 x.free[((↑x.free.length:Int)-1).toNat]->(0:Int)<=x.free[((↑x.free.length:Int)-1).toNat])/\∃(h2:x.free[((↑x.free.length:Int)-1).toNat].toNat<x.taken.length),x.free[((↑x.free.length:Int)-1).toNat].toNat<x.taken.length/\(InK .i64 x.many->InK .i64 (x.many+1)/\Q (x.free[((↑x.free.length:Int)-1).toNat],0,()) () (Ab H b (Ob.st Ek {x with at_:=x.at_.set x.free[((↑x.free.length:Int)-1).toNat].toNat {n with ID:=x.free[((↑x.free.length:Int)-1).toNat]},taken:=x.taken.set x.free[((↑x.free.length:Int)-1).toNat].toNat true,free:=List.take ((↑x.free.length:Int)-1).toNat x.free,many:=x.many+1}))))))))))/\(¬0<x.free.length->x.at_.length<=9223372036854775807->(x.room<(↑x.at_.length:Int)->{room:=x.room,at_:=x.at_,taken:=x.taken,free:=x.free,many:=x.many:Av}=x/\Q (0,7,()) () H)/\(¬x.room<(↑x.at_.length:Int)->x.at_.length<=9223372036854775807->(x.at_.length+[{ID:=(0:Int),Var:=(0:Int),Lo:=(0:Int),Hi:=(0:Int),Refs:=(0:Int):Am}].length)*40<=140737488355328/\(x.taken.length+[false].length)*1<=140737488355328/\(x.at_.length<=9223372036854775807->∃(h:x.at_.length<(x.at_++[{ID:=(0:Int),Var:=(0:Int),Lo:=(0:Int),Hi:=(0:Int),Refs:=(0:Int):Am}]).length),x.at_.length<(x.at_++[{ID:=(0:Int),Var:=(0:Int),Lo:=(0:Int),Hi:=(0:Int),Refs:=(0:Int):Am}]).length/\(x.at_.length<=9223372036854775807->∃(h:x.at_.length<(x.taken++[false]).length),x.at_.length<(x.taken++[false]).length/\(InK .i64 x.many->InK .i64 (x.many+1)/\Q ((↑x.at_.length:Int),0,()) () (Ab H b (Ob.st Ek {x with at_:=(x.at_++[{ID:=(0:Int),Var:=(0:Int),Lo:=(0:Int),Hi:=(0:Int),Refs:=(0:Int):Am}]).set x.at_.length {n with ID:=(↑x.at_.length:Int)},taken:=(x.taken++[false]).set x.at_.length true,many:=x.many+1})))))))))
theorem Adg p n H Q X(hyp_:T2 p n H Q X):Wp Y0 Oy K8 (p,n,()) H Q X:=wF Tryz.f259 {} (by kernel_rfl) hyp_ (by kernel_rfl)
def Aez(p:Option Nat)(H:HY)(Q:Int×Unit->UU)(X:PX):Prop:=(p=none->Q (0,()) () H)/\(¬p=none->∃(b:Nat),p=some b/\∃(x:Av),H b=some (Ob.st Ek x)/\{room:=x.room,at_:=x.at_,taken:=x.taken,free:=x.free,many:=x.many:Av}=x/\Q (x.many,()) () H)
theorem Aey p H Q X(hyp_:Aez p H Q X):Wp Y0 Vi Qb (p,()) H Q X:=wF Tryz.f255 {} (by kernel_rfl) hyp_ (by kernel_rfl)
def Adi(p:Option Nat)(H:HY)(Q:Int×Unit->UU)(X:PX):Prop:=(p=none->Q (0,()) () H)/\(¬p=none->∃(b:Nat),p=some b/\∃(x:Av),H b=some (Ob.st Ek x)/\{room:=x.room,at_:=x.at_,taken:=x.taken,free:=x.free,many:=x.many:Av}=x/\Q (x.room,()) () H)
theorem Adh p H Q X(hyp_:Adi p H Q X):Wp Y0 T8 Ou (p,()) H Q X:=wF Tryz.f254 {} (by kernel_rfl) hyp_ (by kernel_rfl)
def Wx(l:Option Nat)(v:Int)(H:HY)(Q:Int×Unit->UU)(X:PX):Prop:=(l=none->Q (-1,()) () H)/\(¬l=none->(v<0->Q (-1,()) () H)/\(¬v<0->∃(b:Nat),l=some b/\∃(x:Bd),H b=some (Ob.st Eb x)/\(x.level.length<=9223372036854775807->((↑x.level.length:Int)<=v->{vars:=x.vars,level:=x.level:Bd}=x/\Q (-1,()) () H)/\(¬(↑x.level.length:Int)<=v->InK .i64 v->(InK .i64 v->(0:Int)<=v)/\∃(h:v.toNat<x.level.length),∃(h:v.toNat<x.level.length),{vars:=x.vars,level:=x.level:Bd}=x/\Q (x.level[v.toNat],()) () H))))
theorem Ww l v H Q X(hyp_:Wx l v H Q X):Wp Y0 Kq Hg (l,v,()) H Q X:=wF Tryz.f186 {} (by kernel_rfl) hyp_ (by kernel_rfl)
def Qp(l:Option Nat)(at_:Int)(H:HY)(Q:Unit->UU)(X:PX):Prop:=∃(b:Nat),l=some b/\∃(x:Bd),H b=some (Ob.st Eb x)/\(InK .i64 at_->(InK .i64 at_->(0:Int)<=at_)/\∃(h:at_.toNat<x.vars.length),∃(h:at_.toNat<x.vars.length),InK .i64 at_->InK .i64 (at_+1)/\(InK .i64 (at_+1)->(InK .i64 (at_+1)->(0:Int)<=at_+1)/\∃(h1:(at_+1).toNat<x.vars.length),∃(h2:(at_+1).toNat<x.vars.length),InK .i64 at_->InK .i64 (at_+1)/\(InK .i64 at_->(InK .i64 at_->(0:Int)<=at_)/\∃(h3:at_.toNat<x.vars.length),at_.toNat<x.vars.length/\(InK .i64 (at_+1)->(InK .i64 (at_+1)->(0:Int)<=at_+1)/\∃(h4:(at_+1).toNat<(x.vars.set at_.toNat x.vars[(at_+1).toNat]).length),(at_+1).toNat<(x.vars.set at_.toNat x.vars[(at_+1).toNat]).length/\(InK .i64 at_->InK .i64 (at_+1)/\(InK .i64 x.vars[at_.toNat]->(InK .i64 x.vars[at_.toNat]->(0:Int)<=x.vars[at_.toNat])/\∃(h5:x.vars[at_.toNat].toNat<x.level.length),x.vars[at_.toNat].toNat<x.level.length/\(InK .i64 x.vars[(at_+1).toNat]->(InK .i64 x.vars[(at_+1).toNat]->(0:Int)<=x.vars[(at_+1).toNat])/\∃(h6:x.vars[(at_+1).toNat].toNat<(x.level.set x.vars[at_.toNat].toNat (at_+1)).length),x.vars[(at_+1).toNat].toNat<(x.level.set x.vars[at_.toNat].toNat (at_+1)).length/\Q () () (Ab H b (Ob.st Eb {vars:=(x.vars.set at_.toNat x.vars[(at_+1).toNat]).set (at_+1).toNat x.vars[at_.toNat],level:=(x.level.set x.vars[at_.toNat].toNat (at_+1)).set x.vars[(at_+1).toNat].toNat at_:Bd})))))))))
theorem Yi l at_ H Q X(hyp_:Qp l at_ H Q X):Wp Y0 Ls Ic (l,at_,()) H Q X:=wF Tryz.f212 {} (by kernel_rfl) hyp_ (by kernel_rfl)
def Aa2(t:Option Nat)(lo hi:Int)(H:HY)(Q:Int×Bool×Unit->UU)(X:PX):Prop:=(t=none->Q (0,false,()) () H)/\(¬t=none->∃(b:Nat),t=some b/\∃(x:Ay),H b=some (Ob.st Ct x)/\{ids:=x.ids:Ay}=x/\Q ((Ac x.ids {a0:=lo,a1:=hi:Af}).getD 0,decide ((Ac x.ids {a0:=lo,a1:=hi:Af}).isSome=true),()) () H)
theorem Aa1 t lo hi H Q X(hyp_:Aa2 t lo hi H Q X):Wp Y0 Fy Et (t,lo,hi,()) H Q X:=wF Tryz.f232 {} (by kernel_rfl) hyp_ (by kernel_rfl)
def Ac2(t:Option Nat)(lo hi id:Int)(H:HY)(Q:Int×Unit->UU)(X:PX):Prop:=(t=none->Q (5,()) () H)/\(¬t=none->∃(b:Nat),t=some b/\∃(x:Ay),H b=some (Ob.st Ct x)/\((Ac x.ids {a0:=lo,a1:=hi:Af}).isSome=true->{ids:=x.ids:Ay}=x/\Q (6,()) () H)/\(¬(Ac x.ids {a0:=lo,a1:=hi:Af}).isSome=true->Q (0,()) () (Ab H b (Ob.st Ct {ids:=C4 x.ids {a0:=lo,a1:=hi:Af} id:Ay}))))
theorem Ac1 t lo hi id H Q X(hyp_:Ac2 t lo hi id H Q X):Wp Y0 Fe Eh (t,lo,hi,id,()) H Q X:=wF Tryz.f217 {} (by kernel_rfl) hyp_ (by kernel_rfl)
def Ac4(t:Option Nat)(lo hi:Int)(H:HY)(Q:Int×Unit->UU)(X:PX):Prop:=(t=none->Q (5,()) () H)/\(¬t=none->∃(b:Nat),t=some b/\∃(x:Ay),H b=some (Ob.st Ct x)/\(¬(Ac x.ids {a0:=lo,a1:=hi:Af}).isSome=true->{ids:=x.ids:Ay}=x/\Q (5,()) () H)/\(¬¬(Ac x.ids {a0:=lo,a1:=hi:Af}).isSome=true->Q (0,()) () (Ab H b (Ob.st Ct {ids:=Ez x.ids {a0:=lo,a1:=hi:Af}:Ay}))))
theorem Ac3 t lo hi H Q X(hyp_:Ac4 t lo hi H Q X):Wp Y0 Gm E9 (t,lo,hi,()) H Q X:=wF Tryz.f213 {} (by kernel_rfl) hyp_ (by kernel_rfl)
end
section
theorem Na{α:Type}[DecidableEq α]:∀{l m:List α},l.Nodup->(∀k∈l,k∈m)->l.length<=m.length
 | [],_,_,_=>by simp
 |a::l,m,hn,h=>by obtain⟨h1,h2⟩:=List.nodup_cons.1 hn;have:=Na (m:=m.erase a) h2 λk hk=>(List.mem_erase_of_ne (λe=>h1 (by rw[<-e];exact hk))).2 (h k (by simp [hk]));have hm:=h a (by simp);rw[List.length_erase_of_mem hm]at this;have:=List.length_pos_of_mem hm;simp;omega
def pTk(x:Av)(i:Int):Bool:=decide (0<=i)&&(x.taken[i.toNat]?).getD false
def pNd(x:Av)(i:Int):Option Am:=if pTk x i=true then x.at_[i.toNat]? else none
structure Iw(x:Av):Prop where
 ln:x.at_.length=x.taken.length
 pos:0<x.at_.length
 room:1<=x.room/\x.room<=1048576
 len:(x.at_.length:Int)<=x.room+1
 t0:x.taken[0]?=some false
 fr:∀i∈x.free,1<=i/\i<x.at_.length/\x.taken[i.toNat]?=some false
 nd:x.free.Nodup
 cnt:x.many+x.free.length+1=x.at_.length
 al:∀i:Nat,1<=i->x.taken[i]?=some false->(i:Int)∈x.free
 id:∀(i:Int)n,pNd x i=some n->n.ID=i
variable {x:Av} {i:Int}
theorem U0(h:pTk x i=true):0<=i/\i.toNat<x.taken.length/\x.taken[i.toNat]?=some true:=by
 unfold pTk at h;simp only[Bool.and_eq_true,decide_eq_true_eq]at h;obtain⟨h0,h1⟩:=h;by_cases hl:i.toNat<x.taken.length
 .rw[List.getElem?_eq_getElem hl]at h1 ⊢;simp at h1;exact⟨h0,hl,by rw[h1]⟩
 .rw[List.getElem?_eq_none (by omega)]at h1;simp at h1
theorem Iw.tk(h:Iw x)(ht:pTk x i=true):0<i/\i<x.at_.length/\∃n,pNd x i=some n/\x.at_[i.toNat]?=some n:=by
 obtain⟨h0,h1,h2⟩:=U0 ht;have hne:i≠0:=by intro e;subst e;have:=h.t0;simp at h2 this;rw[h2]at this;simp at this
 have hl:i.toNat<x.at_.length:=by rw[h.ln];exact h1
 refine⟨by omega,by omega,x.at_[i.toNat],?_,List.getElem?_eq_getElem hl⟩;unfold pNd;rw[if_pos ht];exact List.getElem?_eq_getElem hl
variable {b:Nat} {H:HY} {X:PX}
theorem Z1{Q:Bool×Unit->UU}(hx:H b=some (.st Ek x))(hI:Iw x)(h:Q (pTk x i,()) () H):Wp Y0 Ko Io (some b,i,()) H Q X:=by
 refine Agc _ _ _ _ _ ?_;unfold Wq;refine⟨λ_=>⟨λh0=>⟨b,rfl,x,hx,λ_=>⟨λhl _=>⟨λ_=>by omega,?_⟩,λhl=>⟨rfl,?_⟩⟩⟩,λh0=>?_⟩,λhn=>absurd (by simp) hn⟩
 .have hl':i.toNat<x.taken.length:=by rw[<-hI.ln];omega
  refine⟨hl',hl',rfl,?_⟩;have:pTk x i=x.taken[i.toNat]:=by unfold pTk;rw[List.getElem?_eq_getElem hl'];simp;omega
  rw[<-this];exact h
 .have:pTk x i=false:=by
   cases ht:pTk x i with
   |false=>rfl
   |true=>have:=(hI.tk ht).2.1;omega
  rw[<-this];exact h
 .have:pTk x i=false:=by
   cases ht:pTk x i with
   |false=>rfl
   |true=>have:=(hI.tk ht).1;omega
  rw[<-this];exact h
theorem Kj{Q:Am×Bool×Unit->UU}(hx:H b=some (.st Ek x))(hI:Iw x)(h0:pNd x i=none->Q (⟨0,0,0,0,0⟩,false,()) () H)(h1:∀n,pNd x i=some n->Q (n,true,()) () H):Wp Y0 Bf Bc (some b,i,()) H Q X:=by
 refine Agd _ _ _ _ _ ?_;unfold Wr;refine Z1 hx hI ⟨λhf=>?_,λht=>⟨b,rfl,x,hx,λ_=>⟨λ_=>?_,?_⟩⟩⟩
 .exact h0 (by unfold pNd;rw[if_neg hf])
 .have ht:pTk x i=true:=by simpa using ht
  exact(U0 ht).1
 .have ht:pTk x i=true:=by simpa using ht
  obtain⟨_,_,n,hn,hg⟩:=hI.tk ht;obtain⟨hl,hv⟩:=List.getElem?_eq_some_iff.1 hg;refine⟨hl,hl,?_⟩;rw[Q5 (by rw[hx])];have:=h1 n hn;rw[hv];exact this
theorem Asc{c:Bool}(hi:0<=i)(hl:i.toNat<x.taken.length){a:List Am}{f:List Int}{m:Int}(j:Int):pTk {room:=x.room,at_:=a,taken:=x.taken.set i.toNat c,free:=f,many:=m} j=if j=i then c else pTk x j:=by
 unfold pTk;by_cases hj:j=i
 .subst hj;simp [hi,hl]
 .rw[if_neg hj];by_cases h0:0<=j
  .simp only[h0,decide_true,Bool.true_and];rw[List.getElem?_set_ne (by omega)]
  .simp [h0]
theorem Wo{n:Am}{Q:Int×Unit->UU}(hx:H b=some (.st Ek x))(hI:Iw x)(h0:pNd x n.ID=none->Q (5,()) () H)(h1:∀m x',pNd x n.ID=some m->Iw x'->(∀j,pNd x' j=if j=n.ID then some n else pNd x j)->x'.many=x.many->x'.room=x.room->x'.at_.length=x.at_.length->Q (0,()) () (Ab H b (.st Ek x'))):Wp Y0 Cy Co (some b,n,()) H Q X:=by
 refine Aex _ _ _ _ _ ?_;unfold Ve;refine Z1 hx hI ⟨λhf=>?_,λht=>⟨b,rfl,x,hx,λ_=>⟨λ_=>?_,?_⟩⟩⟩
 .exact h0 (by unfold pNd;rw[if_neg hf])
 .have ht:pTk x n.ID=true:=by simpa using ht
  exact(U0 ht).1
 .have ht:pTk x n.ID=true:=by simpa using ht
  obtain⟨hp,hlt,m,hm,hg⟩:=hI.tk ht;obtain⟨hl,_⟩:=List.getElem?_eq_some_iff.1 hg;refine⟨hl,hl,h1 m _ hm ?_ ?_ rfl rfl (by simp)⟩;all_goals
   have hN:∀j,pNd {room:=x.room,at_:=x.at_.set n.ID.toNat n,taken:=x.taken,free:=x.free,many:=x.many} j=if j=n.ID then some n else pNd x j:=λj=>by
    have hT:pTk {room:=x.room,at_:=x.at_.set n.ID.toNat n,taken:=x.taken,free:=x.free,many:=x.many} j=pTk x j:=rfl;unfold pNd;rw[hT];by_cases hj:j=n.ID
    .subst hj;rw[if_pos ht,if_pos rfl];simp [hl]
    .rw[if_neg hj];by_cases hjt:pTk x j=true
     .rw[if_pos hjt,if_pos hjt];have:=(U0 hjt).1;exact List.getElem?_set_ne (by omega)
     .rw[if_neg hjt,if_neg hjt]
  .refine⟨by simpa using hI.ln,by simpa using hI.pos,hI.room,by simpa using hI.len,hI.t0,λi hi=>by simpa using hI.fr i hi,hI.nd,by simpa using hI.cnt,hI.al,λj k hk=>?_⟩;rw[hN]at hk;split at hk
   .cases hk;rename_i e;exact e.symm
   .exact hI.id j k hk
  .exact hN
theorem Aln{m:Am}{Q:Int×Unit->UU}(hx:H b=some (.st Ek x))(hI:Iw x)(hm:pNd x i=some m)(h1:∀x',Iw x'->(∀j,pNd x' j=if j=i then none else pNd x j)->x'.many=x.many-1->x'.room=x.room->x'.at_.length=x.at_.length->Q (0,()) () (Ab H b (.st Ek x'))):Wp Y0 It Gk (some b,i,()) H Q X:=by
 have ht:pTk x i=true:=by
  unfold pNd at hm;split at hm
  .assumption
  .cases hm
 obtain⟨hp,hlt,m',hm',hg⟩:=hI.tk ht;obtain⟨hl,_⟩:=List.getElem?_eq_some_iff.1 hg;have hl':i.toNat<x.taken.length:=by rw[<-hI.ln];exact hl
 have hni:i∉x.free:=λhf=>by have:=(hI.fr i hf).2.2;rw[(U0 ht).2.2]at this;simp at this
 have hnd:(x.free++[i]).Nodup:=by rw[List.nodup_append];exact⟨hI.nd,by simp,λa ha c hc=>by simp at hc;subst hc;exact λe=>hni (e▸ha)⟩
 have hfl:x.free.length+1<=x.at_.length/\1<=x.many:=by
  have h1:((x.free++[i]).map Int.toNat).Nodup:=by
   rw[List.Nodup,List.pairwise_map];refine hnd.imp_of_mem λ{a c}ha hc hne e=>hne ?_;have pa:∀a∈x.free++[i],1<=a:=λa ha=>by
    rcases List.mem_append.1 ha with h|h
    .exact(hI.fr a h).1
    .simp at h;omega
   have:=pa a ha;have:=pa c hc;omega
  have h2:∀k∈(x.free++[i]).map Int.toNat,k∈List.range x.at_.length:=λk hk=>by
   obtain⟨a,ha,rfl⟩:=List.mem_map.1 hk;rw[List.mem_range];rcases List.mem_append.1 ha with h|h
   .have:=hI.fr a h;omega
   .simp at h;subst h;exact hl
  have h3:∀k∈(x.free++[i]).map Int.toNat,k≠0:=λk hk=>by
   obtain⟨a,ha,rfl⟩:=List.mem_map.1 hk;rcases List.mem_append.1 ha with h|h
   .have:=hI.fr a h;omega
   .simp at h;omega
  have h5:(0::(x.free++[i]).map Int.toNat).Nodup:=List.nodup_cons.2 ⟨λh=>h3 0 h rfl,h1⟩;have h4:=Na h5 (m:=List.range x.at_.length) (λk hk=>by
   rcases List.mem_cons.1 hk with rfl|hk
   .rw[List.mem_range];exact hI.pos
   .exact h2 k hk)
  simp at h4;have:=hI.cnt;omega
 have hrm:=hI.room;have hln:=hI.len;refine Adj _ _ _ _ _ ?_;unfold T3;refine Z1 hx hI ⟨λhf=>absurd ht hf,λ_=>⟨b,rfl,x,hx,λ_=>⟨λ_=>by omega,hl,hl,λ_=>⟨λ_=>by omega,hl',hl',by simp;omega,λhk=>⟨Bk.2 (by have:=Bk.1 hk;omega),h1 _ ?_ ?_ rfl rfl (by simp)⟩⟩⟩⟩⟩;all_goals
  have hT:=λj=>Asc (x:=x) (c:=false) (by omega:0<=i) hl' (a:=x.at_.set i.toNat ⟨0,0,0,0,0⟩) (f:=x.free++[i]) (m:=x.many-1) j
  have hN:∀j,pNd {room:=x.room,at_:=x.at_.set i.toNat ⟨0,0,0,0,0⟩,taken:=x.taken.set i.toNat false,free:=x.free++[i],many:=x.many-1} j=if j=i then none else pNd x j:=λj=>by
   unfold pNd;rw[hT];by_cases hj:j=i
   .rw[if_pos hj,if_pos hj];simp
   .rw[if_neg hj,if_neg hj];by_cases hjt:pTk x j=true
    .rw[if_pos hjt,if_pos hjt];have:=(U0 hjt).1;exact List.getElem?_set_ne (by omega)
    .rw[if_neg hjt,if_neg hjt]
 .refine⟨by simpa using hI.ln,by simpa using hI.pos,hI.room,by simpa using hI.len,?_,λk hk=>?_,hnd,by have:=hI.cnt;simp;omega,λk hk h=>?_,λj k hk=>?_⟩
  .show (x.taken.set i.toNat false)[0]?=some false;rw[List.getElem?_set_ne (by omega)];exact hI.t0
  .simp only[List.length_set];rcases List.mem_append.1 hk with h|h
   .have:=hI.fr k h;refine⟨this.1,this.2.1,?_⟩;rw[List.getElem?_set_ne (λe=>hni (by
     have:i=k:=by omega
     rw[this];exact h))]
    exact this.2.2
   .simp at h;subst h;exact⟨by omega,hlt,by simp [hl']⟩
  .by_cases e:k=i.toNat
   .refine List.mem_append_right _ ?_;simp;omega
   .have h:(x.taken.set i.toNat false)[k]?=some false:=h;rw[List.getElem?_set_ne (Ne.symm e)]at h;exact List.mem_append_left _ (hI.al k hk h)
  .rw[hN]at hk;split at hk
   .cases hk
   .exact hI.id j k hk
 .exact hN
structure Az0(x:Av)(n:Am)(i:Int)(x':Av):Prop where
 inv:Iw x'
 pos:0<i
 lt:i<x'.at_.length
 old:pNd x i=none
 nd:∀j,pNd x' j=if j=i then some {ID:=i,Var:=n.Var,Lo:=n.Lo,Hi:=n.Hi,Refs:=n.Refs} else pNd x j
 many:x'.many=x.many+1
 room:x'.room=x.room
 len:x.at_.length<=x'.at_.length
theorem Alm{n:Am}{Q:Int×Int×Unit->UU}(hx:H b=some (.st Ek x))(hI:Iw x)(h0:x.many=x.room->Q (0,7,()) () H)(h1:∀i x',Az0 x n i x'->x.many<x.room->Q (i,0,()) () (Ab H b (.st Ek x'))):Wp Y0 Oy K8 (some b,n,()) H Q X:=by
 have hrm:=hI.room;have hln:=hI.len;have hcn:=hI.cnt;have hll:=hI.ln;have hps:=hI.pos;have hmn:0<=x.many:=by
  have h1:(x.free.map Int.toNat).Nodup:=by rw[List.Nodup,List.pairwise_map];exact hI.nd.imp_of_mem λ{a c}ha hc hne e=>hne (by have:=hI.fr a ha;have:=hI.fr c hc;omega)
  have h5:(0::x.free.map Int.toNat).Nodup:=List.nodup_cons.2 ⟨λh=>by obtain⟨a,ha,e⟩:=List.mem_map.1 h;have:=hI.fr a ha;omega,h1⟩
  have h4:=Na h5 (m:=List.range x.at_.length) (λk hk=>by
   rw[List.mem_range];rcases List.mem_cons.1 hk with rfl|hk
   .exact hI.pos
   .obtain⟨a,ha,rfl⟩:=List.mem_map.1 hk;have:=hI.fr a ha;omega)
  simp at h4;omega
 refine Adg _ _ _ _ _ ?_;unfold T2;refine⟨λh=>absurd h (by simp),λ_=>⟨b,rfl,x,hx,λ_=>⟨λhpos=>?_,λhneg=>?_⟩⟩⟩
 .intro _;replace hpos:0<x.free.length:=hpos;have hk:((x.free.length:Int)-1).toNat<x.free.length:=by omega
  generalize hkk:((x.free.length:Int)-1).toNat=k at *;have hki:((x.free.length:Int)-1)=k:=by omega
  obtain⟨i,hii⟩:∃i,i=x.free[k]:=⟨_,rfl⟩
  have hi:=hI.fr i (by rw[hii];exact List.getElem_mem hk);have hl:i.toNat<x.at_.length:=by omega
  have hl':i.toNat<x.taken.length:=by omega
  refine⟨Bk.2 (by omega),λ_=>⟨λ_=>by omega,hk,hk,λ_=>⟨Bk.2 (by omega),λ_=>⟨Bk.2 (by omega),λ_=>⟨by omega,λ_=>⟨by omega,Nat.le_refl _,by omega,λ_=>⟨λ_=>by rw[<-hii];omega,by rw[<-hii];exact hl,by rw[<-hii];exact hl,λ_=>⟨λ_=>by rw[<-hii];omega,by rw[<-hii];exact hl',by rw[<-hii];exact hl',λhm=>⟨Bk.2 (by omega),?_⟩⟩⟩⟩⟩⟩⟩⟩⟩;have hnt:pTk x i=false:=by unfold pTk;rw[hi.2.2];simp
  have hfree:x.free=x.free.take k++[i]:=by
   have:x.free.length=k+1:=by omega
   rw[hii,<-List.take_succ_eq_append_getElem hk,<-this,List.take_length]
  have hnd:=hI.nd;rw[hfree,List.nodup_append]at hnd;have hnin:i∉x.free.take k:=λh=>hnd.2.2 i h i (by simp) rfl;have hT:=λj=>Asc (x:=x) (c:=true) (by omega:0<=i) hl' (a:=x.at_.set i.toNat {ID:=i,Var:=n.Var,Lo:=n.Lo,Hi:=n.Hi,Refs:=n.Refs}) (f:=x.free.take k) (m:=x.many+1) j;have hN:∀j,pNd {room:=x.room,at_:=x.at_.set i.toNat {ID:=i,Var:=n.Var,Lo:=n.Lo,Hi:=n.Hi,Refs:=n.Refs},taken:=x.taken.set i.toNat true,free:=x.free.take k,many:=x.many+1} j=if j=i then some {ID:=i,Var:=n.Var,Lo:=n.Lo,Hi:=n.Hi,Refs:=n.Refs} else pNd x j:=λj=>by
   unfold pNd;rw[hT];by_cases hj:j=i
   .rw[if_pos hj,if_pos hj,if_pos rfl,hj];simp [hl]
   .rw[if_neg hj,if_neg hj];by_cases hjt:pTk x j=true
    .rw[if_pos hjt,if_pos hjt];have:=(U0 hjt).1;exact List.getElem?_set_ne (by omega)
    .rw[if_neg hjt,if_neg hjt]
  rw[<-hii];refine h1 i _ ⟨?_,by omega,by simpa using hi.2.1,by unfold pNd;rw[hnt];simp,hN,rfl,rfl,by simp⟩ (by omega);refine⟨by simpa using hI.ln,by simpa using hI.pos,hI.room,by simpa using hI.len,?_,λj hj=>?_,hnd.1,?_,λj hj h=>?_,λj m hj=>?_⟩
  .show (x.taken.set i.toNat true)[0]?=some false;rw[List.getElem?_set_ne (by omega)];exact hI.t0
  .have hj:j∈x.free.take k:=hj;have hf:=hI.fr j (List.mem_of_mem_take hj);simp only[List.length_set];refine⟨hf.1,hf.2.1,?_⟩;rw[List.getElem?_set_ne (λe=>hnin (by
    have:i=j:=by omega
    rw[this];exact hj))]
   exact hf.2.2
  .show x.many+1+((x.free.take k).length:Int)+1=((x.at_.set i.toNat _).length:Int);simp;omega
  .have h:(x.taken.set i.toNat true)[j]?=some false:=h;by_cases e:j=i.toNat
   .subst e;simp [hl']at h
   .rw[List.getElem?_set_ne (Ne.symm e)]at h;have:=hI.al j hj h;rw[hfree]at this;rcases List.mem_append.1 this with h2|h2
    .exact h2
    .simp at h2;omega
  .rw[hN]at hj;split at hj
   .cases hj;rename_i e;exact e.symm
   .exact hI.id j m hj
 .replace hneg:¬0<x.free.length:=hneg;have hf0:x.free=[]:=List.length_eq_zero_iff.1 (by omega);have hfl:x.free.length=0:=by omega
  refine λ_=>⟨λhfull=>⟨rfl,h0 (by omega)⟩,λhroom _=>⟨by simp;omega,by simp;omega,λ_=>⟨by simp,by simp,λ_=>⟨by simp;omega,by simp;omega,λhm=>⟨Bk.2 (by omega),?_⟩⟩⟩⟩⟩
  let z:Am:={ID:=0,Var:=0,Lo:=0,Hi:=0,Refs:=0}
  let v:Am:={ID:=(x.at_.length:Int),Var:=n.Var,Lo:=n.Lo,Hi:=n.Hi,Refs:=n.Refs}
  have ea:(x.at_++[z]).set x.at_.length v=x.at_++[v]:=by simp
  have et:(x.taken++[false]).set x.at_.length true=x.taken++[true]:=by rw[hll];simp
  show Q ((x.at_.length:Int),0,()) () (Ab H b (Ob.st Ek {room:=x.room,at_:=(x.at_++[z]).set x.at_.length v,taken:=(x.taken++[false]).set x.at_.length true,free:=x.free,many:=x.many+1}));rw[ea,et];have hT:∀j,pTk {room:=x.room,at_:=x.at_++[v],taken:=x.taken++[true],free:=x.free,many:=x.many+1} j=if j=x.at_.length then true else pTk x j:=λj=>by
   unfold pTk;by_cases h0:0<=j
   .simp only[h0,decide_true,Bool.true_and];by_cases hj:j=x.at_.length
    .rw[if_pos hj];have:j.toNat=x.taken.length:=by omega
     rw[this];simp
    .rw[if_neg hj];by_cases hjl:j.toNat<x.taken.length
     .rw[List.getElem?_append_left hjl]
     .rw[List.getElem?_eq_none (by simp;omega),List.getElem?_eq_none (by omega)]
   .rw[if_neg (by omega)];simp [h0]
  have hN:∀j,pNd {room:=x.room,at_:=x.at_++[v],taken:=x.taken++[true],free:=x.free,many:=x.many+1} j=if j=x.at_.length then some v else pNd x j:=λj=>by
   unfold pNd;rw[hT];by_cases hj:j=x.at_.length
   .rw[if_pos hj,if_pos hj,if_pos rfl,hj];simp
   .rw[if_neg hj,if_neg hj];by_cases hjt:pTk x j=true
    .rw[if_pos hjt,if_pos hjt];have:=U0 hjt;exact List.getElem?_append_left (by omega)
    .rw[if_neg hjt,if_neg hjt]
  have hold:pNd x (x.at_.length:Int)=none:=by
   unfold pNd;split
   .rename_i h;have:=(U0 h).2.1;omega
   .rfl
  refine h1 _ _ ⟨?_,by omega,by simp;omega,hold,hN,rfl,rfl,by simp⟩ (by omega);refine⟨by simp [hll],by simp,hI.room,by simp;omega,?_,λj hj=>?_,hI.nd,by simp;omega,λj hj h=>?_,λj m hj=>?_⟩
  .show (x.taken++[true])[0]?=some false;rw[List.getElem?_append_left (by omega)];exact hI.t0
  .rw[hf0]at hj;simp at hj
  .have h:(x.taken++[true])[j]?=some false:=h;by_cases hjl:j<x.taken.length
   .rw[List.getElem?_append_left hjl]at h;have:=hI.al j hj h;exact this
   .rw[List.getElem?_append_right (by omega)]at h;by_cases e:j-x.taken.length=0
    .rw[e]at h;simp at h
    .rw[List.getElem?_eq_none (by simp;omega)]at h;simp at h
  .rw[hN]at hj;split at hj
   .cases hj;rename_i e;exact e.symm
   .exact hI.id j m hj
end
section
section
variable {κ β:Type} [DecidableEq κ]
theorem D4:∀(m:List (κ×β))(k:κ)(v:β)(j:κ),Ac (C4 m k v) j=if j=k then some v else Ac m j
 | [],k,v,j=>by
  show (if k=j then some v else none)=_;by_cases h:j=k
  .rw[if_pos h.symm,if_pos h]
  .rw[if_neg (Ne.symm h),if_neg h];rfl
 |p::m,k,v,j=>by
  unfold C4;by_cases h:p.1=k
  .rw[if_pos h];show (if p.1=j then some v else Ac m j)=if j=k then some v else (if p.1=j then some p.2 else Ac m j)
   by_cases e:j=k
   .rw[if_pos e,if_pos (h.trans e.symm)]
   .rw[if_neg e,if_neg (λh'=>e (h'.symm.trans h)),if_neg (λh'=>e (h'.symm.trans h))]
  .rw[if_neg h];show (if p.1=j then some p.2 else Ac (C4 m k v) j)=if j=k then some v else (if p.1=j then some p.2 else Ac m j)
   rw[D4 m k v j];by_cases e:p.1=j
   .rw[if_pos e,if_pos e,if_neg (λh'=>h (e.trans h'))]
   .rw[if_neg e,if_neg e]
def mnd(m:List (κ×β)):Prop:=(m.map (·.1)).Nodup
variable {m:List (κ×β)}
theorem Nb{k:κ}:Ac m k=none↔k∉m.map (·.1):=by
 induction m with
 |nil=>simp [Ac]
 |cons p m ih=>
  show (if p.1=k then some p.2 else Ac m k)=none↔_;by_cases h:p.1=k
  .rw[if_pos h];simp [h]
  .rw[if_neg h,ih];simp [Ne.symm h]
theorem Adp(m:List (κ×β))(k:κ)(v:β):∀j,j∈(C4 m k v).map (·.1)↔j∈m.map (·.1)∨j=k:=by
 induction m with
 |nil=>intro j;simp [C4]
 |cons p m ih=>
  intro j;unfold C4;split
  .rename_i h;simp [h];intro e;exact .inl e
  .rw[List.map_cons,List.mem_cons,ih,List.map_cons,List.mem_cons];exact or_assoc.symm
theorem Pm(h:mnd m)(k:κ)(v:β):mnd (C4 m k v):=by
 induction m with
 |nil=>simp [C4,mnd]
 |cons p m ih=>
  obtain⟨h1,h2⟩:=List.nodup_cons.1 h;unfold C4;split
  .rename_i e;exact List.nodup_cons.2 ⟨h1,h2⟩
  .rename_i e;refine List.nodup_cons.2 ⟨λhm=>?_,ih h2⟩;rcases(Adp m k v _).1 hm with hm|hm
   .exact h1 hm
   .exact e hm
theorem Auy(k:κ):∀j,j∈(Ez m k).map (·.1)->j∈m.map (·.1):=by
 induction m with
 |nil=>intro j h;exact h
 |cons p m ih=>
  intro j h;unfold Ez at h;split at h
  .exact List.mem_cons_of_mem _ h
  .rw[List.map_cons,List.mem_cons]at h ⊢;exact h.imp id (ih j)
theorem Abx(h:mnd m)(k:κ):mnd (Ez m k):=by
 induction m with
 |nil=>exact h
 |cons p m ih=>
  obtain⟨h1,h2⟩:=List.nodup_cons.1 h;unfold Ez;split
  .exact h2
  .exact List.nodup_cons.2 ⟨λhm=>h1 (Auy k _ hm),ih h2⟩
theorem Nc(h:mnd m)(k j:κ):Ac (Ez m k) j=if j=k then none else Ac m j:=by
 induction m with
 |nil=>simp [Ez,Ac]
 |cons p m ih=>
  obtain⟨h1,h2⟩:=List.nodup_cons.1 h;unfold Ez;by_cases e:p.1=k
  .rw[if_pos e];show Ac m j=if j=k then none else (if p.1=j then some p.2 else Ac m j)
   by_cases ej:j=k
   .rw[if_pos ej];exact Nb.2 (by rw[ej,<-e];exact h1)
   .rw[if_neg ej,if_neg (λh'=>ej (h'.symm.trans e))]
  .rw[if_neg e];show (if p.1=j then some p.2 else Ac (Ez m k) j)=if j=k then none else (if p.1=j then some p.2 else Ac m j)
   rw[ih h2];by_cases ej:p.1=j
   .rw[if_pos ej,if_pos ej,if_neg (λh'=>e (ej.trans h'))]
   .rw[if_neg ej,if_neg ej]
end
abbrev K2:=Af
variable {b:Nat} {x:Ay} {lo hi:Int} {H:HY} {X:PX}
theorem Wd{Q:Int×Bool×Unit->UU}(hx:H b=some (.st Ct x))(h0:Ac x.ids (⟨lo,hi⟩:K2)=none->Q (0,false,()) () H)(h1:∀i,Ac x.ids (⟨lo,hi⟩:K2)=some i->Q (i,true,()) () H):Wp Y0 Fy Et (some b,lo,hi,()) H Q X:=by
 refine Aa1 _ _ _ _ _ _ ?_;refine⟨λh=>absurd h (by simp),λ_=>⟨b,rfl,x,hx,rfl,?_⟩⟩;cases h:Ac x.ids (⟨lo,hi⟩:K2) with
 |none=>exact h0 h
 |some i=>exact h1 i h
variable {Q:Int×Unit->UU}
theorem Afy{i:Int}(hx:H b=some (.st Ct x))(hn:Ac x.ids (⟨lo,hi⟩:K2)=none)(h:Q (0,()) () (Ab H b (.st Ct ⟨C4 x.ids (⟨lo,hi⟩:K2) i⟩))):Wp Y0 Fe Eh (some b,lo,hi,i,()) H Q X:=by refine Ac1 _ _ _ _ _ _ _ ?_;refine⟨λh=>absurd h (by simp),λ_=>⟨b,rfl,x,hx,λh'=>?_,λ_=>h⟩⟩;rw[hn]at h';simp at h'
theorem Afz{i:Int}(hx:H b=some (.st Ct x))(hn:Ac x.ids (⟨lo,hi⟩:K2)=some i)(h:Q (0,()) () (Ab H b (.st Ct ⟨Ez x.ids (⟨lo,hi⟩:K2)⟩))):Wp Y0 Gm E9 (some b,lo,hi,()) H Q X:=by refine Ac3 _ _ _ _ _ _ ?_;refine⟨λh=>absurd h (by simp),λ_=>⟨b,rfl,x,hx,λh'=>?_,λ_=>h⟩⟩;rw[hn]at h';simp at h'
def lvA(x:Bd)(v:Int):Int:=if 0<=v then (x.level[v.toNat]?).getD (-1) else -1
theorem Ae2{x:Bd}{v:Int}(hx:H b=some (.st Eb x))(h:Q (lvA x v,()) () H):Wp Y0 Kq Hg (some b,v,()) H Q X:=by
 refine Ww _ _ _ _ _ ?_;have hv:lvA x v=if 0<=v then (x.level[v.toNat]?).getD (-1) else -1:=rfl
 refine⟨λh=>absurd h (by simp),λ_=>⟨λhn=>?_,λhn=>⟨b,rfl,x,hx,λ_=>⟨λhl=>⟨rfl,?_⟩,λhl _=>⟨λ_=>by omega,?_⟩⟩⟩⟩⟩
 .rw[if_neg (by omega)]at hv;rw[hv]at h;exact h
 .rw[if_pos (by omega),List.getElem?_eq_none (by omega)]at hv;rw[hv]at h;exact h
 .have hl':v.toNat<x.level.length:=by omega
  rw[if_pos (by omega),List.getElem?_eq_getElem hl']at hv;refine⟨hl',hl',rfl,?_⟩;rw[hv]at h;exact h
end
end Go.Proofs.YtcbkbpjlbmalmaaGreatDoor
