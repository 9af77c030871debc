/-
  cmp.Or of three numbers, the world to the letter. (Merged by program out of 9 texts.)
-/
import Derived.Test.YtcbkbpjlbmalmaaGreatDoorpai
import Derived.Recover
open Go.IntKind (u64)
namespace Go.Proofs.YtcbkbpjlbmalmaaGreatDoor
open Go Go.X Go.Y
section
set_option maxRecDepth 100000
set_option maxHeartbeats 2000000
def Wg(f g h:Int)(H:HY)(Q:Int×Int×Int×Bool×Int×Bool×Unit->UU)(X:PX):=∃(M:Int×Unit->HP),(∀x H,M x H->∃(M:Int×Unit->HP),(∀x1 H,M x1 H->(f=0->Q (0,0,0,false,x.1,true,()) () H)/\(¬f=0->(x.1=x1.1->Q (0,0,0,false,x.1,true,()) () H)/\(¬x.1=x1.1->(f=1->Q (0,0,0,false,x1.1,true,()) () H)/\(¬f=1->({a0:=x.1,a1:=x1.1:Ah}={a0:=(0:Int),a1:=(1:Int):Ah}->Q (0,0,0,false,f,true,()) () H)/\(¬{a0:=x.1,a1:=x1.1:Ah}={a0:=(0:Int),a1:=(1:Int):Ah}->({a0:=x.1,a1:=x1.1:Ah}={a0:=(1:Int),a1:=(0:Int):Ah}->Wp Y0 E2 DI (f,()) H (λ(b:Int×Unit)_ G=>Q (0,0,0,false,b.1,true,()) () G) X)/\(¬{a0:=x.1,a1:=x1.1:Ah}={a0:=(1:Int),a1:=(0:Int):Ah}->(Bc f=true->Wp Y0 E2 DI (f,()) H (λ(b:Int×Unit)_ G=>Q (b.1,A8 x1.1 (Bc x1.1),A8 x.1 (Bc x1.1),Bc x1.1,0,false,()) () G) X)/\(¬Bc f=true->Q (f,A8 x.1 (Bc x.1),A8 x1.1 (Bc x.1),Bc x.1,0,false,()) () H)))))))/\(h=f->M (1,()) H)/\(¬h=f->Wp Y0 E2 DI (f,()) H (λ(b:Int×Unit)_ G=>(h=b.1->M (0,()) G)/\(¬h=b.1->M (h,()) G)) X))/\(g=f->M (0,()) H)/\(¬g=f->Wp Y0 E2 DI (f,()) H (λ(b:Int×Unit)_ G=>(g=b.1->M (1,()) G)/\(¬g=b.1->M (g,()) G)) X)
theorem Ae0 f g h H Q X(h_:Wg f g h H Q X):Wp Y0 QY Nk (f,g,h,()) H Q X:=wF Tryz.f196 {jn:=[(14,⟨[(1,.one (.dat I6))],[0,2,12],true⟩),(23,⟨[(2,.one (.dat I6))],[0,1,12],true⟩)]} h_
def Uy(e:Int)(H:HY)(Q:Int×Unit->UU)(X:PX):=Ag .i64 e->Q (C5 BinOp.xor .i64 e 1,()) () H
theorem Ux e H Q X(h_:Uy e H Q X):Wp Y0 E2 DI (e,()) H Q X:=wF Tryz.f169 {} h_
def N9(m:Option Nat)(op a b c:Int)(H:HY)(Q:Int×Bool×Unit->UU)(X:PX):=(m=none->Q (0,false,()) () H)/\(¬m=none->∃(b1:Nat),m=some b1/\∃(x:By),H b1=some (Ob.st BU x)/\(x.entries=none->(0=0->Q (0,false,()) () (Ac H b1 (Ob.st BU {x with entries:=none,asked:=Go.IntKind.wrap .i64 (x.asked+1)})))/\(¬0=0->Ag .i64 op->∃(V:Nat->Int×Nat×Unit->HP),(∃(n:Nat),V n (u64.wrap op,0,()) (Ac H b1 (Ob.st BU {x with entries:=none,asked:=Go.IntKind.wrap .i64 (x.asked+1)})))/\∀n x H,V n x H->(x.2.1<3->x.2.1<=9223372036854775807->∃(h:x.2.1<[a,b,c].length),Ag .i64 [a,b,c][x.2.1]->Ag u64 x.1->Ag u64 (u64.wrap [a,b,c][x.2.1])->Ag u64 (C5 BinOp.xor u64 x.1 (u64.wrap [a,b,c][x.2.1]))->Ag u64 (u64.wrap (C5 BinOp.xor u64 x.1 (u64.wrap [a,b,c][x.2.1])*11400714819323198485))->(BinOp.shr=BinOp.shr->Ag u64 (u64.wrap (C5 BinOp.xor u64 x.1 (u64.wrap [a,b,c][x.2.1])*11400714819323198485)))/\(0:Int)<=29/\(Ag u64 (u64.wrap (C5 BinOp.xor u64 x.1 (u64.wrap [a,b,c][x.2.1])*11400714819323198485))->Ag u64 ((u64.wrap (C5 BinOp.xor u64 x.1 (u64.wrap [a,b,c][x.2.1])*11400714819323198485)).fdiv (2^min (Int.toNat (29:Int)) 64))->x.2.1+1<=9223372036854775807/\∃m,m<n/\V m (C5 BinOp.xor u64 (u64.wrap (C5 BinOp.xor u64 x.1 (u64.wrap [a,b,c][x.2.1])*11400714819323198485)) ((u64.wrap (C5 BinOp.xor u64 x.1 (u64.wrap [a,b,c][x.2.1])*11400714819323198485)).fdiv (2^min (Int.toNat (29:Int)) 64)),x.2.1+1,()) H))/\(¬x.2.1<3->∃(x1:By),H b1=some (Ob.st BU x1)/\(x1.entries=none->Ag u64 x.1->Ag u64 (u64.wrap (↑0:Int))->¬u64.wrap (↑0:Int)=0/\Ag u64 (x.1.tmod (u64.wrap (↑0:Int)))/\False)/\∀(xs:List Bo),x1.entries=some xs->xs.length<=9223372036854775807->Ag u64 x.1->Ag u64 (u64.wrap (↑xs.length:Int))->¬u64.wrap (↑xs.length:Int)=0/\Ag u64 (x.1.tmod (u64.wrap (↑xs.length:Int)))/\(Ag u64 (x.1.tmod (u64.wrap (↑xs.length:Int)))->(Ag u64 (x.1.tmod (u64.wrap (↑xs.length:Int)))->(0:Int)<=x.1.tmod (u64.wrap (↑xs.length:Int)))/\∃(h:(x.1.tmod (u64.wrap (↑xs.length:Int))).toNat<xs.length),∃(h:(x.1.tmod (u64.wrap (↑xs.length:Int))).toNat<xs.length),(¬xs[(x.1.tmod (u64.wrap (↑xs.length:Int))).toNat].full=true->{x1 with entries:=some xs}=x1/\Q (0,false,()) () H)/\(¬¬xs[(x.1.tmod (u64.wrap (↑xs.length:Int))).toNat].full=true->∃(h:(x.1.tmod (u64.wrap (↑xs.length:Int))).toNat<xs.length),(¬{op:=xs[(x.1.tmod (u64.wrap (↑xs.length:Int))).toNat].key.op,Cm:={a0:=xs[(x.1.tmod (u64.wrap (↑xs.length:Int))).toNat].key.Cm.a0,a1:=xs[(x.1.tmod (u64.wrap (↑xs.length:Int))).toNat].key.Cm.a1,a2:=xs[(x.1.tmod (u64.wrap (↑xs.length:Int))).toNat].key.Cm.a2:Be}:Dc}={op:=op,Cm:={a0:=a,a1:=b,a2:=c:Be}:Dc}->{x1 with entries:=some xs}=x1/\Q (0,false,()) () H)/\(¬¬{op:=xs[(x.1.tmod (u64.wrap (↑xs.length:Int))).toNat].key.op,Cm:={a0:=xs[(x.1.tmod (u64.wrap (↑xs.length:Int))).toNat].key.Cm.a0,a1:=xs[(x.1.tmod (u64.wrap (↑xs.length:Int))).toNat].key.Cm.a1,a2:=xs[(x.1.tmod (u64.wrap (↑xs.length:Int))).toNat].key.Cm.a2:Be}:Dc}={op:=op,Cm:={a0:=a,a1:=b,a2:=c:Be}:Dc}->∃(h:(x.1.tmod (u64.wrap (↑xs.length:Int))).toNat<xs.length),Q (xs[(x.1.tmod (u64.wrap (↑xs.length:Int))).toNat].r,true,()) () (Ac H b1 (Ob.st BU {x1 with entries:=some xs,found:=Go.IntKind.wrap .i64 (x1.found+1)}))))))))/\∀(xs:List Bo),x.entries=some xs->xs.length<=9223372036854775807->(xs.length=0->Q (0,false,()) () (Ac H b1 (Ob.st BU {x with entries:=some xs,asked:=Go.IntKind.wrap .i64 (x.asked+1)})))/\(¬xs.length=0->Ag .i64 op->∃(V:Nat->Int×Nat×Unit->HP),(∃(n:Nat),V n (u64.wrap op,0,()) (Ac H b1 (Ob.st BU {x with entries:=some xs,asked:=Go.IntKind.wrap .i64 (x.asked+1)})))/\∀n x H,V n x H->(x.2.1<3->x.2.1<=9223372036854775807->∃(h:x.2.1<[a,b,c].length),Ag .i64 [a,b,c][x.2.1]->Ag u64 x.1->Ag u64 (u64.wrap [a,b,c][x.2.1])->Ag u64 (C5 BinOp.xor u64 x.1 (u64.wrap [a,b,c][x.2.1]))->Ag u64 (u64.wrap (C5 BinOp.xor u64 x.1 (u64.wrap [a,b,c][x.2.1])*11400714819323198485))->(BinOp.shr=BinOp.shr->Ag u64 (u64.wrap (C5 BinOp.xor u64 x.1 (u64.wrap [a,b,c][x.2.1])*11400714819323198485)))/\(0:Int)<=29/\(Ag u64 (u64.wrap (C5 BinOp.xor u64 x.1 (u64.wrap [a,b,c][x.2.1])*11400714819323198485))->Ag u64 ((u64.wrap (C5 BinOp.xor u64 x.1 (u64.wrap [a,b,c][x.2.1])*11400714819323198485)).fdiv (2^min (Int.toNat (29:Int)) 64))->x.2.1+1<=9223372036854775807/\∃m,m<n/\V m (C5 BinOp.xor u64 (u64.wrap (C5 BinOp.xor u64 x.1 (u64.wrap [a,b,c][x.2.1])*11400714819323198485)) ((u64.wrap (C5 BinOp.xor u64 x.1 (u64.wrap [a,b,c][x.2.1])*11400714819323198485)).fdiv (2^min (Int.toNat (29:Int)) 64)),x.2.1+1,()) H))/\(¬x.2.1<3->∃(x1:By),H b1=some (Ob.st BU x1)/\(x1.entries=none->Ag u64 x.1->Ag u64 (u64.wrap (↑0:Int))->¬u64.wrap (↑0:Int)=0/\Ag u64 (x.1.tmod (u64.wrap (↑0:Int)))/\False)/\∀(xs:List Bo),x1.entries=some xs->xs.length<=9223372036854775807->Ag u64 x.1->Ag u64 (u64.wrap (↑xs.length:Int))->¬u64.wrap (↑xs.length:Int)=0/\Ag u64 (x.1.tmod (u64.wrap (↑xs.length:Int)))/\(Ag u64 (x.1.tmod (u64.wrap (↑xs.length:Int)))->(Ag u64 (x.1.tmod (u64.wrap (↑xs.length:Int)))->(0:Int)<=x.1.tmod (u64.wrap (↑xs.length:Int)))/\∃(h:(x.1.tmod (u64.wrap (↑xs.length:Int))).toNat<xs.length),∃(h:(x.1.tmod (u64.wrap (↑xs.length:Int))).toNat<xs.length),(¬xs[(x.1.tmod (u64.wrap (↑xs.length:Int))).toNat].full=true->{x1 with entries:=some xs}=x1/\Q (0,false,()) () H)/\(¬¬xs[(x.1.tmod (u64.wrap (↑xs.length:Int))).toNat].full=true->∃(h:(x.1.tmod (u64.wrap (↑xs.length:Int))).toNat<xs.length),(¬{op:=xs[(x.1.tmod (u64.wrap (↑xs.length:Int))).toNat].key.op,Cm:={a0:=xs[(x.1.tmod (u64.wrap (↑xs.length:Int))).toNat].key.Cm.a0,a1:=xs[(x.1.tmod (u64.wrap (↑xs.length:Int))).toNat].key.Cm.a1,a2:=xs[(x.1.tmod (u64.wrap (↑xs.length:Int))).toNat].key.Cm.a2:Be}:Dc}={op:=op,Cm:={a0:=a,a1:=b,a2:=c:Be}:Dc}->{x1 with entries:=some xs}=x1/\Q (0,false,()) () H)/\(¬¬{op:=xs[(x.1.tmod (u64.wrap (↑xs.length:Int))).toNat].key.op,Cm:={a0:=xs[(x.1.tmod (u64.wrap (↑xs.length:Int))).toNat].key.Cm.a0,a1:=xs[(x.1.tmod (u64.wrap (↑xs.length:Int))).toNat].key.Cm.a1,a2:=xs[(x.1.tmod (u64.wrap (↑xs.length:Int))).toNat].key.Cm.a2:Be}:Dc}={op:=op,Cm:={a0:=a,a1:=b,a2:=c:Be}:Dc}->∃(h:(x.1.tmod (u64.wrap (↑xs.length:Int))).toNat<xs.length),Q (xs[(x.1.tmod (u64.wrap (↑xs.length:Int))).toNat].r,true,()) () (Ac H b1 (Ob.st BU {x1 with entries:=some xs,found:=Go.IntKind.wrap .i64 (x1.found+1)}))))))))
theorem Ut m op a b c H Q X(h_:N9 m op a b c H Q X):Wp Y0 FL E1 (m,op,a,b,c,()) H Q X:=wF Tryz.f197 {wr:=[20,55],il:=ilT} h_
def N8(m:Option Nat)(op a b c r:Int)(H:HY)(Q:Unit->UU)(X:PX):=(m=none->Q () () H)/\(¬m=none->∃(b1:Nat),m=some b1/\∃(x:By),H b1=some (Ob.st BU x)/\(x.entries=none->True/\(Ag .i64 x.size->Ag .i64 x.size->(0:Int)<=x.size/\x.size=x.size/\x.size.toNat*48<=281474976710656/\(Ag .i64 op->∃(V:Nat->Int×Nat×Unit->HP),(∃(n:Nat),V n (u64.wrap op,0,()) (Ac H b1 (Ob.st BU {x with entries:=some (List.replicate x.size.toNat {key:={op:=(0:Int),Cm:={a0:=(0:Int),a1:=(0:Int),a2:=(0:Int):Be}:Dc},r:=(0:Int),full:=false:Bo})})))/\∀n x H,V n x H->(x.2.1<3->x.2.1<=9223372036854775807->∃(h:x.2.1<[a,b,c].length),Ag .i64 [a,b,c][x.2.1]->Ag u64 x.1->Ag u64 (u64.wrap [a,b,c][x.2.1])->Ag u64 (C5 BinOp.xor u64 x.1 (u64.wrap [a,b,c][x.2.1]))->Ag u64 (u64.wrap (C5 BinOp.xor u64 x.1 (u64.wrap [a,b,c][x.2.1])*11400714819323198485))->(BinOp.shr=BinOp.shr->Ag u64 (u64.wrap (C5 BinOp.xor u64 x.1 (u64.wrap [a,b,c][x.2.1])*11400714819323198485)))/\(0:Int)<=29/\(Ag u64 (u64.wrap (C5 BinOp.xor u64 x.1 (u64.wrap [a,b,c][x.2.1])*11400714819323198485))->Ag u64 ((u64.wrap (C5 BinOp.xor u64 x.1 (u64.wrap [a,b,c][x.2.1])*11400714819323198485)).fdiv (2^min (Int.toNat (29:Int)) 64))->x.2.1+1<=9223372036854775807/\∃m,m<n/\V m (C5 BinOp.xor u64 (u64.wrap (C5 BinOp.xor u64 x.1 (u64.wrap [a,b,c][x.2.1])*11400714819323198485)) ((u64.wrap (C5 BinOp.xor u64 x.1 (u64.wrap [a,b,c][x.2.1])*11400714819323198485)).fdiv (2^min (Int.toNat (29:Int)) 64)),x.2.1+1,()) H))/\(¬x.2.1<3->∃(x1:By),H b1=some (Ob.st BU x1)/\(x1.entries=none->Ag u64 x.1->Ag u64 (u64.wrap (↑0:Int))->¬u64.wrap (↑0:Int)=0/\Ag u64 (x.1.tmod (u64.wrap (↑0:Int)))/\False)/\∀(xs:List Bo),x1.entries=some xs->xs.length<=9223372036854775807->Ag u64 x.1->Ag u64 (u64.wrap (↑xs.length:Int))->¬u64.wrap (↑xs.length:Int)=0/\Ag u64 (x.1.tmod (u64.wrap (↑xs.length:Int)))/\(Ag u64 (x.1.tmod (u64.wrap (↑xs.length:Int)))->(Ag u64 (x.1.tmod (u64.wrap (↑xs.length:Int)))->(0:Int)<=x.1.tmod (u64.wrap (↑xs.length:Int)))/\∃(h:(x.1.tmod (u64.wrap (↑xs.length:Int))).toNat<xs.length),(x.1.tmod (u64.wrap (↑xs.length:Int))).toNat<xs.length/\Q () () (Ac H b1 (Ob.st BU {x1 with entries:=some (xs.set (x.1.tmod (u64.wrap (↑xs.length:Int))).toNat {key:={op:=op,Cm:={a0:=a,a1:=b,a2:=c:Be}:Dc},r:=r,full:=true:Bo})})))))/\(Ag .i64 op->∃(V:Nat->Int×Nat×Unit->HP),(∃(n:Nat),V n (u64.wrap op,0,()) (Ac H b1 (Ob.st BU {x with entries:=some (List.replicate x.size.toNat {key:={op:=(0:Int),Cm:={a0:=(0:Int),a1:=(0:Int),a2:=(0:Int):Be}:Dc},r:=(0:Int),full:=false:Bo})})))/\∀n x H,V n x H->(x.2.1<3->x.2.1<=9223372036854775807->∃(h:x.2.1<[a,b,c].length),Ag .i64 [a,b,c][x.2.1]->Ag u64 x.1->Ag u64 (u64.wrap [a,b,c][x.2.1])->Ag u64 (C5 BinOp.xor u64 x.1 (u64.wrap [a,b,c][x.2.1]))->Ag u64 (u64.wrap (C5 BinOp.xor u64 x.1 (u64.wrap [a,b,c][x.2.1])*11400714819323198485))->(BinOp.shr=BinOp.shr->Ag u64 (u64.wrap (C5 BinOp.xor u64 x.1 (u64.wrap [a,b,c][x.2.1])*11400714819323198485)))/\(0:Int)<=29/\(Ag u64 (u64.wrap (C5 BinOp.xor u64 x.1 (u64.wrap [a,b,c][x.2.1])*11400714819323198485))->Ag u64 ((u64.wrap (C5 BinOp.xor u64 x.1 (u64.wrap [a,b,c][x.2.1])*11400714819323198485)).fdiv (2^min (Int.toNat (29:Int)) 64))->x.2.1+1<=9223372036854775807/\∃m,m<n/\V m (C5 BinOp.xor u64 (u64.wrap (C5 BinOp.xor u64 x.1 (u64.wrap [a,b,c][x.2.1])*11400714819323198485)) ((u64.wrap (C5 BinOp.xor u64 x.1 (u64.wrap [a,b,c][x.2.1])*11400714819323198485)).fdiv (2^min (Int.toNat (29:Int)) 64)),x.2.1+1,()) H))/\(¬x.2.1<3->∃(x1:By),H b1=some (Ob.st BU x1)/\(x1.entries=none->Ag u64 x.1->Ag u64 (u64.wrap (↑0:Int))->¬u64.wrap (↑0:Int)=0/\Ag u64 (x.1.tmod (u64.wrap (↑0:Int)))/\False)/\∀(xs:List Bo),x1.entries=some xs->xs.length<=9223372036854775807->Ag u64 x.1->Ag u64 (u64.wrap (↑xs.length:Int))->¬u64.wrap (↑xs.length:Int)=0/\Ag u64 (x.1.tmod (u64.wrap (↑xs.length:Int)))/\(Ag u64 (x.1.tmod (u64.wrap (↑xs.length:Int)))->(Ag u64 (x.1.tmod (u64.wrap (↑xs.length:Int)))->(0:Int)<=x.1.tmod (u64.wrap (↑xs.length:Int)))/\∃(h:(x.1.tmod (u64.wrap (↑xs.length:Int))).toNat<xs.length),(x.1.tmod (u64.wrap (↑xs.length:Int))).toNat<xs.length/\Q () () (Ac H b1 (Ob.st BU {x1 with entries:=some (xs.set (x.1.tmod (u64.wrap (↑xs.length:Int))).toNat {key:={op:=op,Cm:={a0:=a,a1:=b,a2:=c:Be}:Dc},r:=r,full:=true:Bo})})))))))/\∀(xs:List Bo),x.entries=some xs->¬xs=[]/\(Ag .i64 op->∃(V:Nat->Int×Nat×Unit->HP),(∃(n:Nat),V n (u64.wrap op,0,()) (Ac H b1 (Ob.st BU {x with entries:=some xs})))/\∀n x H,V n x H->(x.2.1<3->x.2.1<=9223372036854775807->∃(h:x.2.1<[a,b,c].length),Ag .i64 [a,b,c][x.2.1]->Ag u64 x.1->Ag u64 (u64.wrap [a,b,c][x.2.1])->Ag u64 (C5 BinOp.xor u64 x.1 (u64.wrap [a,b,c][x.2.1]))->Ag u64 (u64.wrap (C5 BinOp.xor u64 x.1 (u64.wrap [a,b,c][x.2.1])*11400714819323198485))->(BinOp.shr=BinOp.shr->Ag u64 (u64.wrap (C5 BinOp.xor u64 x.1 (u64.wrap [a,b,c][x.2.1])*11400714819323198485)))/\(0:Int)<=29/\(Ag u64 (u64.wrap (C5 BinOp.xor u64 x.1 (u64.wrap [a,b,c][x.2.1])*11400714819323198485))->Ag u64 ((u64.wrap (C5 BinOp.xor u64 x.1 (u64.wrap [a,b,c][x.2.1])*11400714819323198485)).fdiv (2^min (Int.toNat (29:Int)) 64))->x.2.1+1<=9223372036854775807/\∃m,m<n/\V m (C5 BinOp.xor u64 (u64.wrap (C5 BinOp.xor u64 x.1 (u64.wrap [a,b,c][x.2.1])*11400714819323198485)) ((u64.wrap (C5 BinOp.xor u64 x.1 (u64.wrap [a,b,c][x.2.1])*11400714819323198485)).fdiv (2^min (Int.toNat (29:Int)) 64)),x.2.1+1,()) H))/\(¬x.2.1<3->∃(x1:By),H b1=some (Ob.st BU x1)/\(x1.entries=none->Ag u64 x.1->Ag u64 (u64.wrap (↑0:Int))->¬u64.wrap (↑0:Int)=0/\Ag u64 (x.1.tmod (u64.wrap (↑0:Int)))/\False)/\∀(xs:List Bo),x1.entries=some xs->xs.length<=9223372036854775807->Ag u64 x.1->Ag u64 (u64.wrap (↑xs.length:Int))->¬u64.wrap (↑xs.length:Int)=0/\Ag u64 (x.1.tmod (u64.wrap (↑xs.length:Int)))/\(Ag u64 (x.1.tmod (u64.wrap (↑xs.length:Int)))->(Ag u64 (x.1.tmod (u64.wrap (↑xs.length:Int)))->(0:Int)<=x.1.tmod (u64.wrap (↑xs.length:Int)))/\∃(h:(x.1.tmod (u64.wrap (↑xs.length:Int))).toNat<xs.length),(x.1.tmod (u64.wrap (↑xs.length:Int))).toNat<xs.length/\Q () () (Ac H b1 (Ob.st BU {x1 with entries:=some (xs.set (x.1.tmod (u64.wrap (↑xs.length:Int))).toNat {key:={op:=op,Cm:={a0:=a,a1:=b,a2:=c:Be}:Dc},r:=r,full:=true:Bo})})))))/\(Ag .i64 op->∃(V:Nat->Int×Nat×Unit->HP),(∃(n:Nat),V n (u64.wrap op,0,()) (Ac H b1 (Ob.st BU {x with entries:=some xs})))/\∀n x H,V n x H->(x.2.1<3->x.2.1<=9223372036854775807->∃(h:x.2.1<[a,b,c].length),Ag .i64 [a,b,c][x.2.1]->Ag u64 x.1->Ag u64 (u64.wrap [a,b,c][x.2.1])->Ag u64 (C5 BinOp.xor u64 x.1 (u64.wrap [a,b,c][x.2.1]))->Ag u64 (u64.wrap (C5 BinOp.xor u64 x.1 (u64.wrap [a,b,c][x.2.1])*11400714819323198485))->(BinOp.shr=BinOp.shr->Ag u64 (u64.wrap (C5 BinOp.xor u64 x.1 (u64.wrap [a,b,c][x.2.1])*11400714819323198485)))/\(0:Int)<=29/\(Ag u64 (u64.wrap (C5 BinOp.xor u64 x.1 (u64.wrap [a,b,c][x.2.1])*11400714819323198485))->Ag u64 ((u64.wrap (C5 BinOp.xor u64 x.1 (u64.wrap [a,b,c][x.2.1])*11400714819323198485)).fdiv (2^min (Int.toNat (29:Int)) 64))->x.2.1+1<=9223372036854775807/\∃m,m<n/\V m (C5 BinOp.xor u64 (u64.wrap (C5 BinOp.xor u64 x.1 (u64.wrap [a,b,c][x.2.1])*11400714819323198485)) ((u64.wrap (C5 BinOp.xor u64 x.1 (u64.wrap [a,b,c][x.2.1])*11400714819323198485)).fdiv (2^min (Int.toNat (29:Int)) 64)),x.2.1+1,()) H))/\(¬x.2.1<3->∃(x1:By),H b1=some (Ob.st BU x1)/\(x1.entries=none->Ag u64 x.1->Ag u64 (u64.wrap (↑0:Int))->¬u64.wrap (↑0:Int)=0/\Ag u64 (x.1.tmod (u64.wrap (↑0:Int)))/\False)/\∀(xs:List Bo),x1.entries=some xs->xs.length<=9223372036854775807->Ag u64 x.1->Ag u64 (u64.wrap (↑xs.length:Int))->¬u64.wrap (↑xs.length:Int)=0/\Ag u64 (x.1.tmod (u64.wrap (↑xs.length:Int)))/\(Ag u64 (x.1.tmod (u64.wrap (↑xs.length:Int)))->(Ag u64 (x.1.tmod (u64.wrap (↑xs.length:Int)))->(0:Int)<=x.1.tmod (u64.wrap (↑xs.length:Int)))/\∃(h:(x.1.tmod (u64.wrap (↑xs.length:Int))).toNat<xs.length),(x.1.tmod (u64.wrap (↑xs.length:Int))).toNat<xs.length/\Q () () (Ac H b1 (Ob.st BU {x1 with entries:=some (xs.set (x.1.tmod (u64.wrap (↑xs.length:Int))).toNat {key:={op:=op,Cm:={a0:=a,a1:=b,a2:=c:Be}:Dc},r:=r,full:=true:Bo})}))))))
theorem Us m op a b c r H Q X(h_:N8 m op a b c r H Q X):Wp Y0 FJ E0 (m,op,a,b,c,r,()) H Q X:=wF Tryz.f200 {il:=ilT} h_
def RV(m:Option Nat)(H:HY)(Q:Unit->UU)(X:PX):=(¬m=none->∃(b:Nat),m=some b/\∃(x:By),H b=some (Ob.st BU x)/\(x.entries=none->{x with entries:=none}=x/\Q () () H)/\∀(xs:List Bo),x.entries=some xs->Q () () (Ac H b (Ob.st BU {x with entries:=some (List.replicate xs.length {key:={op:=(0:Int),Cm:={a0:=(0:Int),a1:=(0:Int),a2:=(0:Int):Be}:Dc},r:=(0:Int),full:=false:Bo})})))/\(¬¬m=none->Q () () H)
theorem RU m H Q X(h_:RV m H Q X):Wp Y0 ED DF (m,()) H Q X:=wF Tryz.f162 {} h_
def V5(size:Int)(H:HY)(Q:Option Nat×Unit->UU)(X:PX):=∀(b:Nat),H b=none->Q (some b,()) () (Ac H b (Ob.st BU {size:=Je false (Je true size [(.i64,1)]) [(.i64,65536)],entries:=none,asked:=(0:Int),found:=(0:Int):By}))
theorem Aek size H Q X(h_:V5 size H Q X):Wp Y0 VZ Q8 (size,()) H Q X:=wF Tryz.f81 {pr:=[(7,4)]} h_
def L3(yield:Int×Unit->HY->(Bool×Unit->HP)->PX->Prop)(p1:Option Nat)(H:HY)(Q:Unit->UU)(X:PX):=(p1=none->Q () () H)/\(¬p1=none->∃(b:Nat),p1=some b/\∃(x:Av),H b=some (Ob.st CR x)/\(x.at_.length<=9223372036854775807->{room:=x.room,at_:=x.at_,taken:=x.taken,free:=x.free,many:=x.many:Av}=x/\∃(V:Nat->Nat×Unit->HP),(∃(n:Nat),V n (0,()) H)/\∀n x1 H,V n x1 H->(x1.1<x.at_.length->∃(b:Nat),p1=some b/\∃(x:Av),H b=some (Ob.st CR x)/\(x1.1<=9223372036854775807->∃(h:x1.1<x.taken.length),∃(h:x1.1<x.taken.length),(x.taken[x1.1]=true->{room:=x.room,at_:=x.at_,taken:=x.taken,free:=x.free,many:=x.many:Av}=x/\yield ((↑x1.1:Int),()) H (λ(b:Bool×Unit)(G:HY)=>(¬b.1=true->Q () () G)/\(¬¬b.1=true->x1.1+1<=9223372036854775807/\∃m,m<n/\V m (x1.1+1,()) G)) X)/\(¬x.taken[x1.1]=true->x1.1+1<=9223372036854775807/\∃m,m<n/\{room:=x.room,at_:=x.at_,taken:=x.taken,free:=x.free,many:=x.many:Av}=x/\V m (x1.1+1,()) H)))/\(¬x1.1<x.at_.length->Q () () H)))
theorem RB yield p1 H Q X(h_:L3 yield p1 H Q X):Wp Y0 IF Gf (yield,p1,()) H Q X:=wF Tryz.f278 {lp:=[(2,⟨[(11,.nat)],[0,1,10],true⟩)]} h_
def KP(yield:Ap×Unit->HY->(Bool×Unit->HP)->PX->Prop)(p1:Option Nat)(H:HY)(Q:Unit->UU)(X:PX):=∀(l:Nat)(r:Loop),H l=none->Wp Y0 IF Gf (λ(a:Int×Unit)(H:HY)(Q:Bool×Unit->HP)(X:Nat->Lf Y0.D->HP)=>H l=some (Ob.lp r)/\H l=some (Ob.lp r)/\∃(b:Nat),p1=some b/\∃(x:Av),Ac H l (Ob.lp (CE r)) b=some (Ob.st CR x)/\(Ag .i64 a.1->(Ag .i64 a.1->(0:Int)<=a.1)/\∃(h:a.1.toNat<x.at_.length),∃(h:a.1.toNat<x.at_.length),{room:=x.room,at_:=x.at_,taken:=x.taken,free:=x.free,many:=x.many:Av}=x/\yield (x.at_[a.1.toNat],()) (Ac H l (Ob.lp (CE r))) (λ(b:Bool×Unit)(G:HY)=>(¬b.1=true->G l=some (Ob.lp (CE r))/\Q (false,()) (Ac G l (Ob.lp (OQ r Code.ret))))/\(¬¬b.1=true->G l=some (Ob.lp (CE r))/\Q (true,()) (Ac G l (Ob.lp r)))) X),p1,()) (Ac H l (Ob.lp r)) (λ(b io:Unit)(G:HY)=>(G l=some (Ob.lp r)/\∀(r':Loop),Q () () (Ac G l (Ob.lp r')))∨G l=some (Ob.lp (OQ r Code.ret))/\∀(r':Loop),Q () () (Ac G l (Ob.lp r'))) X
theorem QE yield p1 H Q X(h_:KP yield p1 H Q X):Wp Y0 HO F3 (yield,p1,()) H Q X:=wFS Tryz.f266 {im:=[2],il:=ilT} h_
def Jd(s:Option Nat)(H:HY)(Q:Int×Unit->UU)(X:PX):=(s=none->Q (0,()) () H)/\(¬s=none->∃(b:Nat),s=some b/\∃(x:Aa),H b=some (Ob.st AA x)/\(x.dead=0->{levels:=x.levels,Ba:=x.Ba,tables:=x.tables,counts:=x.counts,dead:=x.dead:Aa}=x/\Q (0,()) () H)/\(¬x.dead=0->{levels:=x.levels,Ba:=x.Ba,tables:=x.tables,counts:=x.counts,dead:=x.dead:Aa}=x/\∀(b:Nat),H b=none->∃(b1:Nat),s=some b1/\∃(x:Aa),Ac H b (Ob.st Di []) b1=some (Ob.st AA x)/\{levels:=x.levels,Ba:=x.Ba,tables:=x.tables,counts:=x.counts,dead:=x.dead:Aa}=x/\∀(l:Nat)(r:Loop),Ac H b (Ob.st Di []) l=none->Wp Y0 HO F3 (λ(a:Ap×Unit)(H:HY)(Q:Bool×Unit->HP)(X:Nat->Lf Y0.D->HP)=>H l=some (Ob.lp r)/\H l=some (Ob.lp r)/\∃(b2:Nat),s=some b2/\∃(x:Aa),Ac H l (Ob.lp (CE r)) b2=some (Ob.st AA x)/\(Ag .i64 a.1.ID->(Ag .i64 a.1.ID->(0:Int)<=a.1.ID)/\∃(h:a.1.ID.toNat<x.counts.length),∃(h:a.1.ID.toNat<x.counts.length),(x.counts[a.1.ID.toNat]=0->{levels:=x.levels,Ba:=x.Ba,tables:=x.tables,counts:=x.counts,dead:=x.dead:Aa}=x/\∃(x:List Ap),Ac H l (Ob.lp (CE r)) b=some (Ob.st Di x)/\(x.length+[{ID:=a.1.ID,Var:=a.1.Var,Lo:=a.1.Lo,Hi:=a.1.Hi,Refs:=a.1.Refs:Ap}].length)*40<=140737488355328/\Ac (Ac H l (Ob.lp (CE r))) b (Ob.st Di (x++[{ID:=a.1.ID,Var:=a.1.Var,Lo:=a.1.Lo,Hi:=a.1.Hi,Refs:=a.1.Refs:Ap}])) l=some (Ob.lp (CE r))/\Q (true,()) (Ac (Ac (Ac H l (Ob.lp (CE r))) b (Ob.st Di (x++[{ID:=a.1.ID,Var:=a.1.Var,Lo:=a.1.Lo,Hi:=a.1.Hi,Refs:=a.1.Refs:Ap}]))) l (Ob.lp r)))/\(¬x.counts[a.1.ID.toNat]=0->{levels:=x.levels,Ba:=x.Ba,tables:=x.tables,counts:=x.counts,dead:=x.dead:Aa}=x/\Ac H l (Ob.lp (CE r)) l=some (Ob.lp (CE r))/\Q (true,()) (Ac (Ac H l (Ob.lp (CE r))) l (Ob.lp r)))),x.Ba,()) (Ac (Ac H b (Ob.st Di [])) l (Ob.lp r)) (λ(b2 io:Unit)(G:HY)=>(G l=some (Ob.lp r)/\∀(r':Loop),∃(x:List Ap),Ac G l (Ob.lp r') b=some (Ob.st Di x)/\(x.length<=9223372036854775807->∃(V:Nat->(List Ap×Unit)×Nat×Unit->HP),(∃(n:Nat),V n ((x,()),0,()) (Cs (Ac G l (Ob.lp r')) b))/\∀n x1 H,V n x1 H->(x1.2.1<x.length->x1.2.1<=9223372036854775807->∃(h:x1.2.1<x.length),∃(b:Nat),s=some b/\(∃(x2:Aa),H b=some (Ob.st AA x2)/\(Ag .i64 x[x1.2.1].Var->(Ag .i64 x[x1.2.1].Var->(0:Int)<=x[x1.2.1].Var)/\∃(h1:x[x1.2.1].Var.toNat<x2.tables.length),∃(h2:x[x1.2.1].Var.toNat<x2.tables.length),{levels:=x2.levels,Ba:=x2.Ba,tables:=x2.tables,counts:=x2.counts,dead:=x2.dead:Aa}=x2/\Wp Y0 Ed Dt (x2.tables[x[x1.2.1].Var.toNat],x[x1.2.1].Lo,x[x1.2.1].Hi,()) H (λ(b:Int×Unit)_ G=>∃(b:Nat),s=some b/\∃(x3:Aa),G b=some (Ob.st AA x3)/\{levels:=x3.levels,Ba:=x3.Ba,tables:=x3.tables,counts:=x3.counts,dead:=x3.dead:Aa}=x3/\Wp Y0 Fp Ea (x3.Ba,x[x1.2.1].ID,()) G (λ(b:Int×Unit)_ G=>x1.2.1+1<=(9223372036854775807:Nat)/\∃m,m<n/\V m ((x1.1.1,()),x1.2.1+1,()) G) X) X))/\∃(x2:Aa),H b=some (Ob.st AA x2)/\(Ag .i64 x[x1.2.1].Var->(Ag .i64 x[x1.2.1].Var->(0:Int)<=x[x1.2.1].Var)/\∃(h1:x[x1.2.1].Var.toNat<x2.tables.length),∃(h2:x[x1.2.1].Var.toNat<x2.tables.length),{levels:=x2.levels,Ba:=x2.Ba,tables:=x2.tables,counts:=x2.counts,dead:=x2.dead:Aa}=x2/\Wp Y0 Ed Dt (x2.tables[x[x1.2.1].Var.toNat],x[x1.2.1].Lo,x[x1.2.1].Hi,()) H (λ(b:Int×Unit)_ G=>∃(b:Nat),s=some b/\∃(x3:Aa),G b=some (Ob.st AA x3)/\{levels:=x3.levels,Ba:=x3.Ba,tables:=x3.tables,counts:=x3.counts,dead:=x3.dead:Aa}=x3/\Wp Y0 Fp Ea (x3.Ba,x[x1.2.1].ID,()) G (λ(b:Int×Unit)_ G=>x1.2.1+1<=(9223372036854775807:Nat)/\∃m,m<n/\V m ((x1.1.1,()),x1.2.1+1,()) G) X) X))/\(¬x1.2.1<x.length->∃(b:Nat),s=some b/\∃(x:Aa),H b=some (Ob.st AA x)/\(x1.1.1.length<=9223372036854775807->Q ((↑x1.1.1.length:Int),()) () (Ac H b (Ob.st AA {x with dead:=(0:Int)}))))))∨G l=some (Ob.lp (OQ r Code.ret))/\∀(r':Loop),Q (0,()) () (Ac G l (Ob.lp r'))) X))
theorem NR s H Q X(h_:Jd s H Q X):Wp Y0 CB Cb (s,()) H Q X:=wFS Tryz.f207 {lp:=[(9,⟨[(3,.blk [.dat (.sl (.u 13))]),(37,.nat)],[1,35,36],true⟩)],pr:=[(3,46)],im:=[1],il:=ilT,tk:=[35]} h_
def TS(vars room:Int)(H:HY)(Q:Option Nat×Int×Unit->UU)(X:PX):=(vars<0->Q (none,2,()) () H)/\(¬vars<0->((64:Int)<vars->Q (none,2,()) () H)/\(¬(64:Int)<vars->Wp Y0 QV Ng (room,()) H (λ(b:Option Nat×Int×Unit)_ G=>(¬b.2.1=0->Q (none,b.2.1,()) () G)/\(¬¬b.2.1=0->Wp Y0 K6 I4 (vars,()) G (λ(b1:List Int×Unit)_ G=>Wp Y0 K6 I4 (vars,()) G (λ(b2:List Int×Unit)_ G=>∀(b3:Nat),G b3=none->∀(b4:Nat),Ac G b3 (Ob.st CF {vars:=b1.1,level:=b2.1:AF}) b4=none->∃(V:Nat->Nat×Unit->HP),(∃(n:Nat),V n (0,()) (Ac (Ac G b3 (Ob.st CF {vars:=b1.1,level:=b2.1:AF})) b4 (Ob.st AA {levels:=some b3,Ba:=b.1,tables:=[],counts:=[],dead:=(0:Int):Aa})))/\∀n x H,V n x H->((↑x.1:Int)<vars->(∃(x1:Aa),H b4=some (Ob.st AA x1)/\∀(b:Nat),Cs H b4 b=none->Ac (Cs H b4) b (Ob.st BC {ids:=[]:Az}) b4=none->(x1.tables.length+[some b].length)*8<=140737488355328/\x.1+1<=9223372036854775807/\∃m,m<n/\V m (x.1+1,()) (Ac (G0 (Ac (Cs H b4) b (Ob.st BC {ids:=[]:Az})) b4 (H b4)) b4 (Ob.st AA {x1 with tables:=x1.tables++[some b]})))/\∀(b:Nat),H b=none->(∃(x1:Aa),Ac H b (Ob.st BC {ids:=[]:Az}) b4=some (Ob.st AA x1)/\(x1.tables.length+[some b].length)*8<=140737488355328/\x.1+1<=9223372036854775807/\∃m,m<n/\V m (x.1+1,()) (Ac (Ac H b (Ob.st BC {ids:=[]:Az})) b4 (Ob.st AA {x1 with tables:=x1.tables++[some b]})))/\∃(x1:Aa),Ac H b (Ob.st BC {ids:=[]:Az}) b4=some (Ob.st AA x1)/\(x1.tables.length+[some b].length)*8<=140737488355328/\x.1+1<=9223372036854775807/\∃m,m<n/\V m (x.1+1,()) (Ac (Ac H b (Ob.st BC {ids:=[]:Az})) b4 (Ob.st AA {x1 with tables:=x1.tables++[some b]})))/\(¬(↑x.1:Int)<vars->Q (some b4,0,()) () H)) X) X)) X))
theorem Abl vars room H Q X(h_:TS vars room H Q X):Wp Y0 OJ L2 (vars,room,()) H Q X:=wF Tryz.f80 {lp:=[(8,⟨[(31,.nat)],[4,30],true⟩)],pr:=[(26,2),(29,3)],il:=ilT,oc:=[38]} h_
end
section
structure MeI(m:By):Prop where
 s1:1<=m.size
 s2:m.size<=65536
 en:∀xs,m.entries=some xs->1<=xs.length/\xs.length<=65536
def XA(m:By)(e:Bo):Prop:=∃xs,m.entries=some xs/\e∈xs
theorem Z2{x:Int}:Ag .u64 x↔0<=x/\x<=18446744073709551615:=by
 have h1:u64.min=0:=by decide
 have h2:u64.max=18446744073709551615:=by decide
 unfold Ag;rw[h1,h2]
theorem wrap_u64{L:Nat}(h:L<=65536):u64.wrap (L:Int)=L:=E3 (Z2.2 (by omega))
theorem Zt{x:Int}{L:Nat}(hx:Ag .u64 x)(h1:1<=L)(h2:L<=65536):¬(u64.wrap (L:Int))=0/\Ag .u64 (x.tmod (u64.wrap (L:Int)))/\0<=x.tmod (u64.wrap (L:Int))/\(x.tmod (u64.wrap (L:Int))).toNat<L:=by rw[wrap_u64 h2];obtain⟨h3,h4⟩:=Z2.1 hx;have h5:x.tmod L=x%L:=Int.tmod_eq_emod_of_nonneg h3;have h6:0<=x%(L:Int):=Int.emod_nonneg _ (by omega);have h7:x%(L:Int)<L:=Int.emod_lt_of_pos _ (by omega);rw[h5];exact⟨by omega,Z2.2 (by omega),h6,by omega⟩
variable {bm:Nat} {m:By} {H:HY} {X:PX}
theorem Abo{op a b c:Int}{Q:Int×Bool×Unit->UU}(hm:H bm=some (.st BU m))(hI:MeI m)(h0:∀m',m'.entries=m.entries->m'.size=m.size->Q (0,false,()) () (Ac H bm (.st BU m')))(h1:∀m' e,m'.entries=m.entries->m'.size=m.size->XA m e->e.full=true->e.key=⟨op,⟨a,b,c⟩⟩->Q (e.r,true,()) () (Ac H bm (.st BU m'))):Wp Y0 FL E1 (some bm,op,a,b,c,()) H Q X:=by
 apply Ut;unfold N9;refine⟨λh=>absurd h (by simp),λ_=>⟨bm,rfl,m,hm,λhn=>⟨λ_=>h0 _ hn.symm rfl,λh=>absurd rfl h⟩,λxs hxs hlen=>?_⟩⟩;have hL:=hI.en xs hxs;refine⟨λh=>?_,λ_ hop=>?_⟩
 .have h':xs.length=0:=h;omega
 refine⟨λn x H'=>H'=Ac H bm (.st BU {size:=m.size,entries:=some xs,asked:=Go.IntKind.wrap .i64 (m.asked+1),found:=m.found})/\n=3-x.2.1/\x.2.1<=3,⟨3,rfl,rfl,Nat.zero_le _⟩,?_⟩;rintro n ⟨x,k,_⟩ H' ⟨rfl,hn0,hk0⟩;have hn:n=3-k:=hn0;have hk:k<=3:=hk0;refine⟨λhk3 _=>?_,λhk3=>?_⟩
 .have hk3':k<3:=hk3;refine⟨by show k<3;exact hk3',λ_ _ _ _ hw=>⟨λ_=>hw,by decide,λ_ _=>⟨by show k+1<=_;omega,2-k,by omega,rfl,by show 2-k=3-(k+1);omega,by show k+1<=3;omega⟩⟩⟩
 .refine⟨_,Ai _ _ _,λh=>(by cases h),λys hys _ hx _=>?_⟩;cases hys;obtain⟨i1,i2,i3,i4⟩:=Zt hx hL.1 hL.2;refine⟨i1,i2,λ_=>⟨λ_=>i3,i4,i4,λ_=>⟨rfl,h0 _ hxs.symm rfl⟩,λhf=>⟨i4,λ_=>⟨rfl,h0 _ hxs.symm rfl⟩,λhk=>⟨i4,?_⟩⟩⟩⟩;rw[Yj];have hf':=Classical.not_not.1 hf;have hk':=Classical.not_not.1 hk;refine h1 _ _ hxs.symm rfl ⟨xs,hxs,List.getElem_mem i4⟩ hf' ?_;exact hk'
theorem Abn{op a b c r:Int}{Q:Unit->UU}(hm:H bm=some (.st BU m))(hI:MeI m)(h:∀m',MeI m'->(∀e,XA m' e->e.full=true->XA m e∨e=⟨⟨op,⟨a,b,c⟩⟩,r,true⟩)->Q () () (Ac H bm (.st BU m'))):Wp Y0 FJ E0 (some bm,op,a,b,c,r,()) H Q X:=by
 apply Us;unfold N8;have key:∀(xs:List Bo),1<=xs.length/\xs.length<=65536->(∀e∈xs,e.full=true->XA m e)->∀(j:Nat),j<xs.length->Q () () (Ac (Ac H bm (.st BU {size:=m.size,entries:=some xs,asked:=m.asked,found:=m.found})) bm (.st BU {size:=m.size,entries:=some (xs.set j ⟨⟨op,⟨a,b,c⟩⟩,r,true⟩),asked:=m.asked,found:=m.found})):=λxs hL hin j hj=>by
  rw[Yj];refine h _ ⟨hI.s1,hI.s2,λys hys=>?_⟩ λe⟨ys,hys,he⟩hf=>?_
  .cases hys;simpa using hL
  .cases hys;rcases List.mem_or_eq_of_mem_set he with he|he
   .exact .inl (hin e he hf)
   .exact .inr he
 refine⟨λh=>absurd h (by simp),λ_=>⟨bm,rfl,m,hm,λhn=>⟨trivial,λ_ _=>?_⟩,λxs hxs=>?_⟩⟩
 .have s1:=hI.s1;have s2:=hI.s2;refine⟨by omega,rfl,by omega,?_⟩;have hL:1<=(List.replicate m.size.toNat (⟨⟨0,⟨0,0,0⟩⟩,0,false⟩:Bo)).length/\(List.replicate m.size.toNat (⟨⟨0,⟨0,0,0⟩⟩,0,false⟩:Bo)).length<=65536:=by simp only[List.length_replicate];omega
  have hin:∀e∈List.replicate m.size.toNat (⟨⟨0,⟨0,0,0⟩⟩,0,false⟩:Bo),e.full=true->XA m e:=λe he hf=>by rw[List.eq_of_mem_replicate he]at hf;cases hf
  generalize List.replicate m.size.toNat (⟨⟨0,⟨0,0,0⟩⟩,0,false⟩:Bo)=xs at hL hin;constructor <;>
  .intro hop;refine⟨λn x H'=>H'=Ac H bm (.st BU {size:=m.size,entries:=some xs,asked:=m.asked,found:=m.found})/\n=3-x.2.1/\x.2.1<=3,⟨3,rfl,rfl,Nat.zero_le _⟩,?_⟩;rintro n ⟨x,k,_⟩ H' ⟨rfl,hn0,hk0⟩;have hn:n=3-k:=hn0;have hk:k<=3:=hk0;refine⟨λhk3 _=>?_,λhk3=>?_⟩
   .have hk3':k<3:=hk3;refine⟨by show k<3;exact hk3',λ_ _ _ _ hw=>⟨λ_=>hw,by decide,λ_ _=>⟨by show k+1<=_;omega,2-k,by omega,rfl,by show 2-k=3-(k+1);omega,by show k+1<=3;omega⟩⟩⟩
   .refine⟨_,Ai _ _ _,λh=>(by cases h),λys hys _ hx _=>?_⟩;cases hys;obtain⟨i1,i2,i3,i4⟩:=Zt hx hL.1 hL.2;exact⟨i1,i2,λ_=>⟨λ_=>i3,i4,i4,key xs hL hin _ i4⟩⟩
 .have hL:=hI.en xs hxs;have hin:∀e∈xs,e.full=true->XA m e:=λe he _=>⟨xs,hxs,he⟩
  refine⟨λh=>by rw[h]at hL;simp at hL,?_⟩;constructor <;>
  .intro hop;refine⟨λn x H'=>H'=Ac H bm (.st BU {size:=m.size,entries:=some xs,asked:=m.asked,found:=m.found})/\n=3-x.2.1/\x.2.1<=3,⟨3,rfl,rfl,Nat.zero_le _⟩,?_⟩;rintro n ⟨x,k,_⟩ H' ⟨rfl,hn0,hk0⟩;have hn:n=3-k:=hn0;have hk:k<=3:=hk0;refine⟨λhk3 _=>?_,λhk3=>?_⟩
   .have hk3':k<3:=hk3;refine⟨by show k<3;exact hk3',λ_ _ _ _ hw=>⟨λ_=>hw,by decide,λ_ _=>⟨by show k+1<=_;omega,2-k,by omega,rfl,by show 2-k=3-(k+1);omega,by show k+1<=3;omega⟩⟩⟩
   .refine⟨_,Ai _ _ _,λh=>(by cases h),λys hys _ hx _=>?_⟩;cases hys;obtain⟨i1,i2,i3,i4⟩:=Zt hx hL.1 hL.2;exact⟨i1,i2,λ_=>⟨λ_=>i3,i4,i4,key xs hL hin _ i4⟩⟩
theorem LW{Q:Unit->UU}(hm:H bm=some (.st BU m))(hI:MeI m)(h:∀m',MeI m'->(∀e,XA m' e->e.full=false)->Q () () (Ac H bm (.st BU m'))):Wp Y0 ED DF (some bm,()) H Q X:=by
 refine RU _ _ _ _ ?_;refine⟨λ_=>⟨bm,rfl,m,hm,λhn=>?_,λxs hxs=>?_⟩,λh=>absurd (by simp) h⟩
 .have e:({size:=m.size,entries:=none,asked:=m.asked,found:=m.found}:By)=m:=by cases m;cases hn;rfl
  refine⟨e,?_⟩;have:=h m hI λe⟨xs,hxs,_⟩=>by rw[hn]at hxs;cases hxs
  rwa [KA hm]at this
 .have hL:=hI.en xs hxs;refine h _ ⟨hI.s1,hI.s2,λys hys=>?_⟩ λe⟨ys,hys,he⟩=>?_
  .cases hys;simpa using hL
  .cases hys;rw[List.eq_of_mem_replicate he]
end
section
theorem LD{e:Int}{H:HY}{X:PX}{Q:Int×Unit->UU}(h:Q (B.flip e,()) () H):Wp Y0 E2 DI (e,()) H Q X:=by refine Ux _ _ _ _ λhk=>?_;rw[Acz hk];exact h
def DT(F G H:B.Fn):B.Fn:=λa=>if F a then G a else H a
section
variable {n:Int} {lv:Int->Int} {N:B.Tb}
def At(n:Int)(lv:Int->Int)(N:B.Tb)(k e:Int):Prop:=B.Ok N e/\k<=B.el n lv N e
variable {k:Int}
theorem At.flip{e:Int}(h:At n lv N k e):At n lv N k (B.flip e):=⟨h.1.flip,by rw[B.Arn];exact h.2⟩
theorem At.fl{e s:Int}(h:At n lv N k e):At n lv N k (B.fl e s):=⟨h.1.fl,by rw[B.Kt];exact h.2⟩
theorem ZO(h:k<=n):At n lv N k 0:=⟨B.U6,by rw[B.Cw (by decide)];exact h⟩
theorem at_one(h:k<=n):At n lv N k 1:=⟨B.ok_one,by rw[B.Cw (by decide)];exact h⟩
end
theorem Acl{n k:Int}{lv:Int->Int}{N:B.Tb}{f g h:Int}{H:HY}{X:PX}{Q:Int×Int×Int×Bool×Int×Bool×Unit->UU}(hk:k<=n)(hf:At n lv N k f)(hg:At n lv N k g)(hh:At n lv N k h)(h1:∀r,At n lv N k r->B.den N r=DT (B.den N f) (B.den N g) (B.den N h)->Q (0,0,0,false,r,true,()) () H)(h2:∀a b c t,At n lv N k a->At n lv N k b->At n lv N k c->a/2≠0->(∀x,DT (B.den N a) (B.den N b) (B.den N c) x=(t ^^ DT (B.den N f) (B.den N g) (B.den N h) x))->Q (a,b,c,t,0,false,()) () H):Wp Y0 QY Nk (f,g,h,()) H Q X:=by
 apply Ae0;unfold Wg;refine⟨λx H'=>H'=H/\At n lv N k x.1/\∀a,B.den N f a=true->B.den N x.1 a=B.den N g a,?_,λe=>⟨rfl,ZO hk,λa ha=>?_⟩,λhne=>LD ⟨λe=>⟨rfl,at_one hk,λa ha=>?_⟩,λ_=>⟨rfl,hg,λ_ _=>rfl⟩⟩⟩
 .rintro⟨x,_⟩ H' ⟨rfl,hx0,hxe0⟩;have hx:At n lv N k x:=hx0;have hxe:∀a,B.den N f a=true->B.den N x a=B.den N g a:=hxe0;refine⟨λy H''=>H''=H'/\At n lv N k y.1/\∀a,B.den N f a=false->B.den N y.1 a=B.den N h a,?_,λe=>⟨rfl,at_one hk,λa ha=>?_⟩,λhne=>LD ⟨λe=>⟨rfl,ZO hk,λa ha=>?_⟩,λ_=>⟨rfl,hh,λ_ _=>rfl⟩⟩⟩
  .rintro⟨y,_⟩ H'' ⟨rfl,hy0,hye0⟩;have hy:At n lv N k y:=hy0;have hye:∀a,B.den N f a=false->B.den N y a=B.den N h a:=hye0;have hI:DT (B.den N f) (B.den N g) (B.den N h)=DT (B.den N f) (B.den N x) (B.den N y):=by
    funext a;unfold DT;by_cases ha:B.den N f a=true
    .rw[if_pos ha,if_pos ha,hxe a ha]
    .rw[if_neg ha,if_neg ha,hye a (by simpa using ha)]
   rw[hI]at h1;simp only[hI]at h2;refine⟨λe=>h1 x hx ?_,λhf0=>⟨λe=>h1 x hx ?_,λhxy=>⟨λe=>h1 y hy ?_,λhf1=>⟨λe=>h1 f hf ?_,λhn1=>⟨λe=>LD (h1 _ hf.flip ?_),λhn2=>⟨λhneg=>LD ?_,λhneg=>?_⟩⟩⟩⟩⟩⟩
   .funext a;unfold DT;rw[e,B.JA];rfl
   .funext a;unfold DT;have e':x=y:=e;rw[<-e'];split<;>rfl
   .funext a;unfold DT;rw[e,B.FM];rfl
   .injection e with e1 e2;have e1':x=0:=e1;have e2':y=1:=e2
    funext a;unfold DT;rw[e1',e2',B.JA,B.FM];cases B.den N f a<;>rfl
   .injection e with e1 e2;have e1':x=1:=e1;have e2':y=0:=e2
    funext a;unfold DT;rw[e1',e2',B.JA,B.FM,B.Lj hf.1];cases hfa:B.den N f a<;>simp [hfa]
   .have hf2:f/2≠0:=by have:=hf.1.1;omega
    show Q (B.flip f,A8 y (Bc y),A8 x (Bc y),Bc y,0,false,()) () H'';rw[J4 hy.1.1,J4 hy.1.1,Aei hy.1.1];refine h2 _ _ _ _ hf.flip hy.fl hx.fl (by rw[B.Lc];exact hf2) λa=>?_;unfold DT;rw[B.Lj hf.1,B.IL hy.1,B.IL hx.1];cases hfa:B.den N f a<;>simp [hfa]
   .have hf2:f/2≠0:=by have:=hf.1.1;omega
    show Q (f,A8 x (Bc x),A8 y (Bc x),Bc x,0,false,()) () H'';rw[J4 hx.1.1,J4 hx.1.1,Aei hx.1.1];refine h2 _ _ _ _ hf hx.fl hy.fl hf2 λa=>?_;unfold DT;rw[B.IL hx.1,B.IL hy.1];cases hfa:B.den N f a<;>simp [hfa]
  .have e':h=f:=e;show B.den N 1 a=B.den N h a;rw[e',ha,B.FM]
  .have e':h=B.flip f:=e;show B.den N 0 a=B.den N h a;rw[e',B.Lj hf.1,B.JA];show true=!(B.den N f a);rw[ha];rfl
 .have e':g=f:=e;show B.den N 0 a=B.den N g a;rw[e',ha,B.JA]
 .have e':g=B.flip f:=e;show B.den N 1 a=B.den N g a;rw[e',B.Lj hf.1,B.FM];show false=!(B.den N f a);rw[ha];rfl
end
section
abbrev Mn.T(M:Mn):B.Tb:=A6 M.S.po
abbrev Mn.lv(M:Mn):Int->Int:=Dh M.S.lv
structure MEn(M:Mn)(f g h r:Int):Prop where
 of:B.Ok M.T f
 og:B.Ok M.T g
 oh:B.Ok M.T h
 or:B.Ok M.T r
 den:B.den M.T r=DT (B.den M.T f) (B.den M.T g) (B.den M.T h)
 lev:∀k,k<=B.el M.S.n M.lv M.T f->k<=B.el M.S.n M.lv M.T g->k<=B.el M.S.n M.lv M.T h->k<=B.el M.S.n M.lv M.T r
structure MV(M:Mn):Prop where
 me:MeI M.me
 en:∀e,XA M.me e->e.full=true->e.key.op=1->MEn M e.key.Cm.a0 e.key.Cm.a1 e.key.Cm.a2 e.r
variable {e:Int}
theorem Lz{S S':B4}(h:Ip S S')(he:B.Ok (A6 S.po) e):B.el S'.n (Dh S'.lv) (A6 S'.po) e=B.el S.n (Dh S.lv) (A6 S.po) e:=by rw[h.n,h.lv];exact B.OP h.A6 he
variable {M M':Mn} {f h:Int}
theorem MEn.ext{g r:Int}(hI:SI M.S)(e:Ip M.S M'.S)(k:MEn M f g h r):MEn M' f g h r where
 of:=k.of.ext e.A6
 og:=k.og.ext e.A6
 oh:=k.oh.ext e.A6
 or:=k.or.ext e.A6
 den:=by show B.den (A6 M'.S.po) r=DT (B.den (A6 M'.S.po) f) (B.den (A6 M'.S.po) g) (B.den (A6 M'.S.po) h);rw[e.den hI k.of,e.den hI k.og,e.den hI k.oh,e.den hI k.or];exact k.den
 lev j h1 h2 h3:=by have h1:j<=B.el M'.S.n (Dh M'.S.lv) (A6 M'.S.po) f:=h1;have h2:j<=B.el M'.S.n (Dh M'.S.lv) (A6 M'.S.po) g:=h2;have h3:j<=B.el M'.S.n (Dh M'.S.lv) (A6 M'.S.po) h:=h3;rw[Lz e k.of]at h1;rw[Lz e k.og]at h2;rw[Lz e k.oh]at h3;show j<=B.el M'.S.n (Dh M'.S.lv) (A6 M'.S.po) r;rw[Lz e k.or];exact k.lev j h1 h2 h3
theorem MV.ext(h:MV M)(hI:SI M.S)(e:Ip M.S M'.S)(hm:M'.me=M.me):MV M':=
 ⟨by rw[hm];exact h.me,λen hin hf ho=>by rw[hm]at hin;exact(h.en en hin hf ho).ext hI e⟩
structure MR(M M':Mn):Prop where
 bs:DN M M'
 se:Ip M.S M'.S
 si:SI M'.S
 hs:M'.hs=M.hs
 nx:M'.nx=M.nx
 mv:MV M'
theorem DN.refl:DN M M:=⟨rfl,rfl,rfl,rfl,rfl⟩
variable {M'':Mn}
theorem DN.trans(h:DN M M')(k:DN M' M''):DN M M'':=⟨k.sb.trans h.sb,k.mb.trans h.mb,k.bl.trans h.bl,k.bp.trans h.bp,k.tb.trans h.tb⟩
theorem MR.refl(h:SI M.S)(v:MV M):MR M M:=⟨.refl,.refl,h,rfl,rfl,v⟩
theorem MR.trans(h:MR M M')(k:MR M' M''):MR M M'':=⟨h.bs.trans k.bs,h.se.trans k.se,k.si,k.hs.trans h.hs,k.nx.trans h.nx,k.mv⟩
def Lr(M M':Mn)(F:B.Fn):Prop:=∀R,F∈R->B.Rh M.S.n M.lv M.T R->B.Rh M'.S.n M'.lv M'.T R
theorem Lr.refl{F:B.Fn}:Lr M M F:=λ_ _ h=>h
theorem Lr.trans{F:B.Fn}(h:Lr M M' F)(k:Lr M' M'' F):Lr M M'' F:=λR hF hc=>k R hF (h R hF hc)
def X7(M M':Mn)(l:Lf Y0.D):Prop:=(l=Aqf 7/\M'.ws=M.ws/\M'.S.po.many=M'.S.po.room)∨∃ev,l=pEv ev/\M.ws=ev::M'.ws
abbrev Mn.At(M:Mn)(k e:Int):Prop:=YtcbkbpjlbmalmaaGreatDoor.At M.S.n M.lv M.T k e
theorem MR.at(h:MR M M'){k:Int}(a:M.At k e):M'.At k e:=⟨a.1.ext h.se.A6,by have:=Lz h.se a.1;show k<=B.el M'.S.n (Dh M'.S.lv) (A6 M'.S.po) e;rw[this];exact a.2⟩
theorem MR.den(h:MR M M')(hI:SI M.S)(a:B.Ok M.T e):B.den M'.T e=B.den M.T e:=h.se.den hI a
theorem MR.lv(h:MR M M'):M'.lv=M.lv:=by show Dh _=Dh _;rw[h.se.lv]
theorem MR.n(h:MR M M'):M'.S.n=M.S.n:=h.se.n
def Mn.wm(M:Mn)(m:By):Mn:={M with me:=m}
theorem MS.Alc{H:HY}{c b:Nat}(hC:MS H c b M)(m:By):MS (Ac H M.mb (.st BU m)) c b (M.wm m)/\JD b M H (Ac H M.mb (.st BU m)):=by
 refine⟨⟨?_,?_,?_,Ai _ _ _⟩,λx _ a2 _ _ _ _=>Af _ _ a2⟩
 .rw[Af _ _ (Bj hC.cx hC.NT.me (by decide))];exact hC.cx
 .rw[Af _ _ (Bj hC.NT.ob hC.NT.me (by decide))];exact hC.NT.ob
 .exact hC.NT.st.other hC.NT.me (by decide) (by decide) (by decide) (by decide)
theorem Am5{n:Int}{lv:Int->Int}{N:B.Tb}(g:B.Good n lv N){g' v:Int}{c:Bool}(hv:0<=v/\v<n){f1 g1 h1:Int}(a1:B.Ok N f1)(a2:B.Ok N g1)(a3:B.Ok N h1)(l1:lv v<B.el n lv N f1)(l2:lv v<B.el n lv N g1)(l3:lv v<B.el n lv N h1)(e1:∀a,a v=c->B.den N f a=B.den N f1 a)(e2:∀a,a v=c->B.den N g' a=B.den N g1 a)(e3:∀a,a v=c->B.den N h a=B.den N h1 a)(a:B.As):DT (B.den N f1) (B.den N g1) (B.den N h1) a=DT (B.den N f) (B.den N g') (B.den N h) (B.Aat a v c):=by unfold DT;rw[e1 _ B.Pl,e2 _ B.Pl,e3 _ B.Pl,g.Py a1 hv.1 hv.2 l1,g.Py a2 hv.1 hv.2 l2,g.Py a3 hv.1 hv.2 l3]
theorem VJ{n:Int}{lv:Int->Int}{N:B.Tb}(g:B.Good n lv N){k g':Int}(h1:At n lv N k f)(h2:At n lv N k g')(h3:At n lv N k h):B.Dep n lv k (DT (B.den N f) (B.den N g') (B.den N h)):=λa b hab=>by unfold DT;rw[g.dep h1.1 h1.2 a b hab,g.dep h2.1 h2.2 a b hab,g.dep h3.1 h3.2 a b hab]
end
section
def Ahx(c b d:Nat):Prop:=∀(k:Int)(M:Mn)(H:HY)(f g h:Int)(F:B.Fn)(X:PX)(Q:Int×Unit->UU),MS H c b M->SI M.S->MV M->M.S.n-k<=d->k<=M.S.n->M.At k f->M.At k g->M.At k h->B.SO M.lv k F (DT (B.den M.T f) (B.den M.T g) (B.den M.T h))->(∀M' H' l,MS H' c b M'->MR M M'->Lr M M' F->JD b M H H'->X7 M M' l->X 231 l H')->(∀e M' H',MS H' c b M'->MR M M'->Lr M M' F->JD b M H H'->M'.ws=M.ws->M'.At k e->B.den M'.T e=DT (B.den M.T f) (B.den M.T g) (B.den M.T h)->Q (e,()) () H')->Wp Y0 CG Cy (some c,f,g,h,()) H Q X
variable {M:Mn}
theorem X7.step{M1 M':Mn}{l:Lf Y0.D}(hw:M1.ws=M.ws)(h:X7 M1 M' l):X7 M M' l:=by
 rcases h with ⟨h1,h2,h3⟩|⟨ev,h1,h2⟩
 .exact .inl ⟨h1,h2.trans hw,h3⟩
 .exact .inr ⟨ev,h1,by rw[<-hw];exact h2⟩
theorem Ys{c b:Nat}{v lo hi:Int}{F:B.Fn}{H:HY}{X:PX}{Q:Int×Unit->UU}(hC:MS H c b M)(hI:SI M.S)(hV:MV M)(hv:0<=v/\v<M.S.n)(hlo:M.At (M.lv v+1) lo)(hhi:M.At (M.lv v+1) hi)(hcof:B.SO M.lv (M.lv v) F (λa=>if a v=true then B.den M.T hi a else B.den M.T lo a))
  (hx:∀M' H' l,MS H' c b M'->MR M M'->Lr M M' F->JD b M H H'->X7 M M' l->X 231 l H')
  (h:∀e M' H',MS H' c b M'->MR M M'->Lr M M' F->JD b M H H'->M'.ws=M.ws->M'.At (M.lv v) e->B.den M'.T e=(λa=>if a v=true then B.den M.T hi a else B.den M.T lo a)->Q (e,()) () H') :
  Wp Y0 EE DX (some c,v,lo,hi,()) H Q X:=by
 refine An4 hC hI hv hlo.1 hhi.1 (Int.lt_of_lt_of_le (Int.lt_succ _) hlo.2) (Int.lt_of_lt_of_le (Int.lt_succ _) hhi.2) (λev ws H' hws hC' f1=>?_) (λH' hm hC' f1=>?_) (λe S' H' hC' hI' hE f1 ho hd hle hnew=>?_)
 .exact hx (M.we ws) H' _ hC' ⟨⟨rfl,rfl,rfl,rfl,rfl⟩,Ip.refl,hI,rfl,rfl,hV.ext hI Ip.refl rfl⟩ Lr.refl f1 (.inr ⟨ev,rfl,hws⟩)
 .exact hx (M.wk M.S) H' _ hC' ⟨⟨rfl,rfl,rfl,rfl,rfl⟩,Ip.refl,hI,rfl,rfl,hV.ext hI Ip.refl rfl⟩ Lr.refl f1 (.inl ⟨rfl,rfl,hm⟩)
 .have hS:MR M (M.wk S'):=⟨⟨rfl,rfl,hE.bl,hE.bp,hE.tb⟩,hE,hI',rfl,rfl,hV.ext hI hE rfl⟩
  have hlv:(M.wk S').lv=M.lv:=hS.lv
  refine h e (M.wk S') H' hC' hS (λR hF hcov i d hi=>?_) f1 rfl ⟨ho,by show M.lv v<=B.el S'.n (Dh S'.lv) (A6 S'.po) e;rw[hE.n,hE.lv];exact hle⟩ hd
  rw[hlv,hS.n]
  rcases hnew i d hi with hi|⟨hi,hdv⟩
  .refine(hcov i d hi).imp id λ⟨g,hg,hc⟩=>⟨g,hg,?_⟩
   have hok:B.Ok M.T (2*i):=by have:=(hI.ib hi).1;exact⟨by omega,.inr ⟨d,by rw[show 2*i/2=i by omega];exact hi⟩⟩
   rw[hS.den hI hok];exact hc
  .refine .inr ⟨F,hF,?_⟩
   rw[hdv]
   have he:e=2*i∨e=B.flip (2*i):=by have:=ho.1;unfold B.flip;rw[if_pos (by omega)];omega
   have hok:B.Ok (M.wk S').T (2*i):=by
    rcases he with he|he
    .rw[<-he];exact ho
    .have:=ho.flip;rw[he,B.flip_flip]at this;exact this
   rcases he with he|he
   .rw[<-he]
    show B.SO M.lv (M.lv v) F (B.den (A6 S'.po) e)
    rw[hd];exact hcof
   .have e2:B.den (M.wk S').T (2*i)=λa=>!(B.den (M.wk S').T e a):=by
     have h3:2*i=B.flip e:=by rw[he,B.flip_flip]
     rw[h3];exact B.Lj (N:=(M.wk S').T) ho
    rw[e2];refine B.SO.not ?_;show B.SO M.lv (M.lv v) F (B.den (A6 S'.po) e);rw[hd];exact hcof
theorem Ab5{c b d:Nat}(ih:∀d',d'<d->Ahx c b d'){k:Int}{H:HY}{f g h:Int}{F:B.Fn}{t:Bool}{X:PX}{Q:Int×Unit->UU}(hC:MS H c b M)(hI:SI M.S)(hV:MV M)(hd:M.S.n-k<=d)(hf:M.At k f)(hg:M.At k g)(hh:M.At k h)(hnc:f/2≠0)(hcof:B.SO M.lv k F (DT (B.den M.T f) (B.den M.T g) (B.den M.T h)))(hx:∀M' H' l,MS H' c b M'->MR M M'->Lr M M' F->JD b M H H'->X7 M M' l->X 231 l H')(hq:∀e M' H',MS H' c b M'->MR M M'->Lr M M' F->JD b M H H'->M'.ws=M.ws->M'.At k e->B.den M'.T e=DT (B.den M.T f) (B.den M.T g) (B.den M.T h)->Q (A8 e t,()) () H'):Wp Y0 FL E1 (M.ob.BG,1,f,g,h,()) H (λ(b_2:Int×Bool×Unit)_ H'=>
   (b_2.2.1=true->Q (A8 b_2.1 t,()) () H')/\
   (¬b_2.2.1=true->Wp Y0 IJ GN (some c,[f,g,h],()) H' (λ(b_3:Int×Unit)_ H'=>
    Wp Y0 Cv BW (some c,f,b_3.1,()) H' (λ(b_4:Int×Int×Unit)_ H'=>
    Wp Y0 Cv BW (some c,g,b_3.1,()) H' (λ(b_5:Int×Int×Unit)_ H'=>
    Wp Y0 Cv BW (some c,h,b_3.1,()) H' (λ(b_6:Int×Int×Unit)_ H'=>
    Wp Y0 CG Cy (some c,b_4.1,b_5.1,b_6.1,()) H' (λ(b_7:Int×Unit)_ H'=>
    Wp Y0 CG Cy (some c,b_4.2.1,b_5.2.1,b_6.2.1,()) H' (λ(b_8:Int×Unit)_ H'=>
    Wp Y0 EE DX (some c,b_3.1,b_7.1,b_8.1,()) H' (λ(b_9:Int×Unit)_ H'=>
     ∃(x:D4),H' c=some (Ob.st Ei x)/\∃(b:Nat),x.m=some b/\{m:=x.m:D4}=x/\∃(x:Aw),H' b=some (Ob.st CV x)/\{store:=x.store,BG:=x.BG,Ak:=x.Ak,Au:=x.Au,waits:=x.waits,calls:=x.calls:Aw}=x/\
      Wp Y0 FJ E0 (x.BG,1,f,g,h,b_9.1,()) H' (λ(_ _:Unit)(H':HY)=>Q (A8 b_9.1 t,()) () H') X) X) X) X) X) X) X) X)) X:=by
 have hn:0<=M.S.n:=B4.JO
 have wm:∀m',m'.entries=M.me.entries->m'.size=M.me.size->MV (M.wm m'):=λm' h1 h2=>⟨⟨by show 1<=m'.size;rw[h2];exact hV.me.s1,by show m'.size<=_;rw[h2];exact hV.me.s2,λxs hxs=>hV.me.en xs (by rw[<-h1];exact hxs)⟩,λe⟨xs,h3,h4⟩hf ho=>(hV.en e ⟨xs,by rw[<-h1];exact h3,h4⟩ hf ho).ext (M':=M.wm m') hI Ip.refl⟩
 have stp1:∀m',MV (M.wm m')->MR M (M.wm m'):=λm' hv=>⟨⟨rfl,rfl,rfl,rfl,rfl⟩,Ip.refl,hI,rfl,rfl,hv⟩
 refine Abo hC.NT.me hV.me (λm' h1 h2=>⟨λh=>(by cases h),λ_=>?_⟩) λm' e h1 h2 hin hfu hkey=>⟨λ_=>?_,λh=>absurd rfl h⟩
 .obtain⟨c1,f1⟩:=hC.Alc m'
  have v1:=wm m' h1 h2
  have s1:=stp1 m' v1
  generalize Ac H M.mb (.st BU m')=H1 at c1 f1
  have hTI:SI (M.wm m').S:=hI
  refine Ajk c1 hTI (by intro x hx;simp only[List.mem_cons,List.not_mem_nil,or_false]at hx;rcases hx with rfl|rfl|rfl;exact hf.1;exact hg.1;exact hh.1) λv w hT=>?_
  rcases hT with ⟨_,hT⟩|⟨v0,vn,_,hle,j,hj,_,hje⟩
  .exact absurd (hT 0 (by simp) (by simp)) hnc
  have lf:M.lv v<=B.el M.S.n M.lv M.T f:=hle 0 (by simp) (by simp)
  have lg:M.lv v<=B.el M.S.n M.lv M.T g:=hle 1 (by simp) (by simp)
  have lh:M.lv v<=B.el M.S.n M.lv M.T h:=hle 2 (by simp) (by simp)
  have hvn:0<=v/\v<M.S.n:=⟨v0,vn⟩
  have one:B.el M.S.n M.lv M.T f=M.lv v∨B.el M.S.n M.lv M.T g=M.lv v∨B.el M.S.n M.lv M.T h=M.lv v:=by
   have hj3:j<3:=hj;match j,hj3 with
   |0,_=>exact .inl hje
   |1,_=>exact .inr (.inl hje)
   |2,_=>exact .inr (.inr hje)
  have hkv:k<=M.lv v:=by have:=hf.2;have:=hg.2;have:=hh.2;rcases one with h|h|h<;>omega
  have hvlt:M.lv v<M.S.n:=(hI.BP.od.MT v v0 vn).2
  obtain⟨pf1,ZU,pf3,pf4,pf5,_⟩:=hI.BP.It hn hvn hf.1 lf
  obtain⟨pg1,pg2,pg3,pg4,pg5,_⟩:=hI.BP.It hn hvn hg.1 lg
  obtain⟨ph1,ph2,ph3,ph4,ph5,_⟩:=hI.BP.It hn hvn hh.1 lh
  refine OU c1 hTI hf.1 (OU c1 hTI hg.1 (OU c1 hTI hh.1 ?_))
  change B.Ok M.T (B.sp M.T v f).1 at pf1
  generalize hF2:B.sp M.T v f=f2 at pf1 ZU pf3 pf4 pf5
  generalize hG2:B.sp M.T v g=g2 at pg1 pg2 pg3 pg4 pg5
  generalize hH2:B.sp M.T v h=h2 at ph1 ph2 ph3 ph4 ph5
  have hF2':B.sp (A6 (M.wm m').S.po) v f=f2:=hF2
  have hG2':B.sp (A6 (M.wm m').S.po) v g=g2:=hG2
  have hH2':B.sp (A6 (M.wm m').S.po) v h=h2:=hH2
  rw[hF2',hG2',hH2']
  obtain⟨d',hd'⟩:∃d':Nat,(d':Int)=M.S.n-(M.lv v+1):=⟨(M.S.n-(M.lv v+1)).toNat,by omega⟩
  have hdd:d'<d:=by omega
  have a_:∀{x:Int},B.Ok M.T x->M.lv v<B.el M.S.n M.lv M.T x->M.At (M.lv v+1) x:=λh1 h2=>⟨h1,by omega⟩
  have cofs:∀(cc:Bool){f' g' h':Int},B.Ok M.T f'->B.Ok M.T g'->B.Ok M.T h'->M.lv v<B.el M.S.n M.lv M.T f'->M.lv v<B.el M.S.n M.lv M.T g'->M.lv v<B.el M.S.n M.lv M.T h'->
    (∀a,a v=cc->B.den M.T f a=B.den M.T f' a)->(∀a,a v=cc->B.den M.T g a=B.den M.T g' a)->(∀a,a v=cc->B.den M.T h a=B.den M.T h' a)->B.SO M.lv (M.lv v+1) F (DT (B.den M.T f') (B.den M.T g') (B.den M.T h')):=λcc f' g' h' o1 o2 o3 l1 l2 l3 e1 e2 e3=>
   hcof.set (v:=v) (c:=cc) (by omega) hkv (Am5 hI.BP hvn o1 o2 o3 l1 l2 l3 e1 e2 e3) (VJ hI.BP (a_ o1 l1) (a_ o2 l2) (a_ o3 l3))
  have lo0:∀{x x0 x1:Int},(∀a,B.den M.T x a=if a v=true then B.den M.T x1 a else B.den M.T x0 a)->∀a,a v=false->B.den M.T x a=B.den M.T x0 a:=λhh a ha=>by rw[hh a,ha];rfl
  have hi1:∀{x x0 x1:Int},(∀a,B.den M.T x a=if a v=true then B.den M.T x1 a else B.den M.T x0 a)->∀a,a v=true->B.den M.T x a=B.den M.T x1 a:=λhh a ha=>by rw[hh a,ha];rfl
  refine ih d' hdd (M.lv v+1) (M.wm m') H1 _ _ _ F _ _ c1 hTI v1 (by show M.S.n-_<=_;omega) (by show _<=M.S.n;omega) (a_ pf1 pf3) (a_ pg1 pg3) (a_ ph1 ph3) (cofs false pf1 pg1 ph1 pf3 pg3 ph3 (lo0 pf5) (lo0 pg5) (lo0 ph5)) (λM' H' l hC' hS' hcv hfr hp=>hx M' H' l hC' (s1.trans hS') hcv (f1.trans hfr ⟨rfl,rfl,rfl,rfl,rfl⟩) (hp.step rfl)) λlo M2 H2' c2 s2 cv2 fr2 w2 at2 den2=>?_
  have s12:=s1.trans s2
  have I2:=s2.si
  have den2':B.den M2.T lo=DT (B.den M.T f2.1) (B.den M.T g2.1) (B.den M.T h2.1):=den2
  have n2:M2.S.n=M.S.n:=s12.n
  have lv2:M2.lv=M.lv:=s12.lv
  refine ih d' hdd (M.lv v+1) M2 H2' _ _ _ F _ _ c2 I2 s2.mv (by rw[n2];omega) (by rw[n2];omega) (s12.at (a_ ZU pf4)) (s12.at (a_ pg2 pg4)) (s12.at (a_ ph2 ph4)) (by rw[lv2,s12.den hI ZU,s12.den hI pg2,s12.den hI ph2];exact cofs true ZU pg2 ph2 pf4 pg4 ph4 (hi1 pf5) (hi1 pg5) (hi1 ph5)) (λM' H' l hC' hS' hcv hfr hp=>hx M' H' l hC' (s12.trans hS') (cv2.trans hcv) ((f1.trans fr2 ⟨rfl,rfl,rfl,rfl,rfl⟩).trans hfr s12.bs) (hp.step w2)) λhi M3 H3 c3 s3 cv3 fr3 w3 at3 den3=>?_
  have s13:=s12.trans s3
  have I3:=s3.si
  have n3:M3.S.n=M.S.n:=s13.n
  have lv3:M3.lv=M.lv:=s13.lv
  have den3':B.den M3.T hi=DT (B.den M.T f2.2) (B.den M.T g2.2) (B.den M.T h2.2):=by rw[den3,s12.den hI ZU,s12.den hI pg2,s12.den hI ph2]
  have den2'':B.den M3.T lo=DT (B.den M.T f2.1) (B.den M.T g2.1) (B.den M.T h2.1):=by rw[s3.den I2 at2.1];exact den2'
  have whole:(λa=>if a v=true then B.den M3.T hi a else B.den M3.T lo a)=DT (B.den M.T f) (B.den M.T g) (B.den M.T h):=by funext a;rw[den3',den2''];unfold DT;rw[pf5 a,pg5 a,ph5 a];cases a v<;>rfl
  have fr13:=((f1.trans fr2 ⟨rfl,rfl,rfl,rfl,rfl⟩).trans fr3 s12.bs)
  have atl:M3.At (M3.lv v+1) lo:=by rw[lv3];exact s3.at at2
  have ath:M3.At (M3.lv v+1) hi:=by rw[lv3];exact at3
  have dv:B.Dep M.S.n M.lv (M.lv v) (DT (B.den M.T f) (B.den M.T g) (B.den M.T h)):=VJ hI.BP ⟨hf.1,lf⟩ ⟨hg.1,lg⟩ ⟨hh.1,lh⟩
  refine Ys (F:=F) c3 I3 s3.mv (by rw[n3];exact hvn) atl ath (by rw[lv3,whole];exact hcof.Aw2 hkv dv) (λM' H' l hC' hS' hcv hfr hp=>hx M' H' l hC' (s13.trans hS') ((cv2.trans cv3).trans hcv) (fr13.trans hfr s13.bs) ((hp.step w3).step w2)) λe M4 H4 c4 s4 cv4 fr4 w4 at4 den4=>?_
  have s14:=s13.trans s4
  have fr14:=fr13.trans fr4 s13.bs
  have den4':B.den M4.T e=DT (B.den M.T f) (B.den M.T g) (B.den M.T h):=by rw[den4,whole]
  have lv4:M4.lv=M.lv:=s14.lv
  have n4:M4.S.n=M.S.n:=s14.n
  have at4':M4.At k e:=⟨at4.1,by have:=at4.2;rw[lv3]at this;exact Int.le_trans hkv this⟩
  refine⟨⟨some b⟩,c4.cx,b,rfl,rfl,M4.ob,c4.NT.ob,rfl,?_⟩
  refine Abn c4.NT.me s4.mv.me λm4 hI4 hen=>?_
  obtain⟨c5,f5⟩:=c4.Alc m4
  have v5:MV (M4.wm m4):=⟨hI4,λen hin hfu ho=>by
   rcases hen en hin hfu with h|h
   .exact(s4.mv.en en h hfu ho).ext (M':=M4.wm m4) s4.si Ip.refl
   .subst h;refine⟨hf.1.ext s14.se.A6,hg.1.ext s14.se.A6,hh.1.ext s14.se.A6,at4.1,?_,λj h1 h2 h3=>?_⟩
    .show B.den M4.T e=DT (B.den M4.T f) (B.den M4.T g) (B.den M4.T h);rw[den4',s14.den hI hf.1,s14.den hI hg.1,s14.den hI hh.1]
    .have h1:j<=B.el M4.S.n (Dh M4.S.lv) (A6 M4.S.po) f:=h1;have h2:j<=B.el M4.S.n (Dh M4.S.lv) (A6 M4.S.po) g:=h2;have h3:j<=B.el M4.S.n (Dh M4.S.lv) (A6 M4.S.po) h:=h3;rw[Lz s14.se hf.1]at h1;rw[Lz s14.se hg.1]at h2;rw[Lz s14.se hh.1]at h3;show j<=B.el M4.S.n M4.lv M4.T e;have h4:=at4.2;rw[lv3]at h4;have h1:j<=B.el M.S.n M.lv M.T f:=h1;have h2:j<=B.el M.S.n M.lv M.T g:=h2;have h3:j<=B.el M.S.n M.lv M.T h:=h3;refine Int.le_trans ?_ h4;show j<=M.lv v;rcases one with h|h|h<;>omega⟩
  have s5:MR M4 (M4.wm m4):=⟨⟨rfl,rfl,rfl,rfl,rfl⟩,Ip.refl,s4.si,rfl,rfl,v5⟩
  exact hq e (M4.wm m4) _ c5 (s14.trans s5) ((cv2.trans cv3).trans cv4) (fr14.trans f5 s14.bs) (w4.trans (w3.trans w2)) at4' den4'
 .obtain⟨c1,f1⟩:=hC.Alc m'
  have v1:=wm m' h1 h2
  have en:=hV.en e hin hfu (by rw[hkey])
  rw[hkey]at en
  refine hq e.r (M.wm m') _ c1 (stp1 m' v1) Lr.refl f1 rfl ⟨en.or,en.lev k hf.2 hg.2 hh.2⟩ en.den
end
theorem Ajr{n k:Int}{lv:Int->Int}{N:B.Tb}{e:Int}{t:Bool}(h:At n lv N k e):At n lv N k (A8 e t):=by
 unfold A8;split
 .exact h.flip
 .exact h
theorem Ae1{N:B.Tb}{e:Int}{t:Bool}(h:B.Ok N e):B.den N (A8 e t)=λa=>(t ^^ B.den N e a):=by
 unfold A8;cases t
 .simp
 .simp only[if_true];rw[B.Lj h];funext a;simp
theorem O5(a b:Bool):not (decide (a=true)==decide (b=true))=(a ^^ b):=by cases a<;>cases b<;>rfl
theorem Am4{c b:Nat}:∀d,Ahx c b d:=by
 intro d;induction d using Nat.strongRecOn with
 |_ d ih=>
 intro k M H f g h F X Q hC hI hV hd hk hf hg hh hcof hx hq;apply ZH;unfold S9;refine⟨λn x H'=>H'=H/\M.At k x.1/\M.At k x.2.1/\M.At k x.2.2.1/\(∀a,DT (B.den M.T x.1) (B.den M.T x.2.1) (B.den M.T x.2.2.1) a=(x.2.2.2.1 ^^ DT (B.den M.T f) (B.den M.T g) (B.den M.T h) a))/\n=3-x.2.2.2.2.1/\x.2.2.2.2.1<=3/\(0<x.2.2.2.2.1->x.1/2≠0),⟨3,rfl,hf,hg,hh,λa=>by simp,rfl,Nat.zero_le _,λh=>absurd h (Nat.lt_irrefl 0)⟩,?_⟩;rintro n ⟨f1,g1,h1,t1,m,_⟩ H' ⟨rfl,a1,a2,a3,hT,hn0,hm0,hnc0⟩;have hn:n=3-m:=hn0;have hm:m<=3:=hm0;have hnc:0<m->f1/2≠0:=hnc0;replace a1:M.At k f1:=a1;replace a2:M.At k g1:=a2;replace a3:M.At k h1:=a3;replace hT:∀a,DT (B.den M.T f1) (B.den M.T g1) (B.den M.T h1) a=(t1 ^^ DT (B.den M.T f) (B.den M.T g) (B.den M.T h) a):=hT;clear hn0 hm0 hnc0;have cof1:B.SO M.lv k F (DT (B.den M.T f1) (B.den M.T g1) (B.den M.T h1)):=by rw[show DT (B.den M.T f1) (B.den M.T g1) (B.den M.T h1)=λa=>(t1 ^^ DT (B.den M.T f) (B.den M.T g) (B.den M.T h) a) from funext hT];exact hcof.sign t1
 have back:∀e M' H2,MS H2 c b M'->MR M M'->Lr M M' F->JD b M H' H2->M'.ws=M.ws->M'.At k e->B.den M'.T e=DT (B.den M.T f1) (B.den M.T g1) (B.den M.T h1)->Q (A8 e t1,()) () H2:=λe M' H2 c1 c2 c3 c4 c5 c6 c7=>by refine hq _ M' H2 c1 c2 c3 c4 c5 (Ajr c6) ?_;rw[Ae1 c6.1,c7];funext a;rw[hT a];cases t1<;>simp
 refine⟨λhlt=>Acl hk a1 a2 a3 (λr hr hden=>⟨λ_=>back r M H' hC (MR.refl hI hV) Lr.refl JD.refl rfl hr hden,λh=>absurd rfl h⟩) (λa b' c' t ha hb hc hane hT2=>⟨λh=>(by cases h),λ_=>?_⟩),λhge=>?_⟩
 .have hlt':m<3:=hlt;have next:m+1<=9223372036854775807/\∃(m':Nat),m'<n/\(H'=H'/\M.At k a/\M.At k b'/\M.At k c'/\(∀x,DT (B.den M.T a) (B.den M.T b') (B.den M.T c') x=((not (decide (t1=true)==decide (t=true))) ^^ DT (B.den M.T f) (B.den M.T g) (B.den M.T h) x))/\m'=3-(m+1)/\m+1<=3/\(0<m+1->a/2≠0)):=
   ⟨by show m+1<=_;omega,3-(m+1),by omega,rfl,ha,hb,hc,λx=>by rw[hT2 x,hT x,O5];cases t<;>cases t1<;>simp,rfl,by omega,λ_=>hane⟩
  refine⟨λe1=>⟨λe2=>⟨λe3=>?_,λ_=>next⟩,λ_=>next⟩,λ_=>next⟩;have e1:a=f1:=e1;have e2:b'=g1:=e2;have e3:c'=h1:=e3;have ht:t=false:=by
   have:=hT2 (λ_=>false);rw[e1,e2,e3]at this;cases t
   .rfl
   .simp at this
  subst ht;have et:(not (decide (t1=true) == decide (false=true)))=t1:=by rw[O5];simp
  refine⟨c,rfl,⟨some b⟩,hC.cx,b,rfl,rfl,M.ob,hC.NT.ob,rfl,?_⟩;exact Ab5 (t:=not (decide (t1=true) == decide (false=true))) ih hC hI hV hd a1 a2 a3 (e1▸hane) cof1 hx λe M' H2 c1 c2 c3 c4 c5 c6 c7=>by rw[et];exact back e M' H2 c1 c2 c3 c4 c5 c6 c7
 .have hge':¬m<3:=hge;refine⟨c,rfl,⟨some b⟩,hC.cx,b,rfl,rfl,M.ob,hC.NT.ob,rfl,?_⟩;exact Ab5 (t:=t1) ih hC hI hV hd a1 a2 a3 (hnc (by omega)) cof1 hx back
theorem Ajl{c b:Nat}{M:Mn}{f g h:Int}{H:HY}{X:PX}{Q:Int×Unit->UU}(hC:MS H c b M)(hI:SI M.S)(hV:MV M)(hf:B.Ok M.T f)(hg:B.Ok M.T g)(hh:B.Ok M.T h)(hx:∀M' H' l,MS H' c b M'->MR M M'->Lr M M' (DT (B.den M.T f) (B.den M.T g) (B.den M.T h))->JD b M H H'->X7 M M' l->X 231 l H')(hq:∀e M' H',MS H' c b M'->MR M M'->Lr M M' (DT (B.den M.T f) (B.den M.T g) (B.den M.T h))->JD b M H H'->M'.ws=M.ws->B.Ok M'.T e->B.den M'.T e=DT (B.den M.T f) (B.den M.T g) (B.den M.T h)->Q (e,()) () H'):Wp Y0 CG Cy (some c,f,g,h,()) H Q X:=by
 have hn:0<=M.S.n:=B4.JO;have at0:∀{e:Int},B.Ok M.T e->M.At 0 e:=λh=>⟨h,(hI.BP.Wf h hn).1⟩
 exact Am4 M.S.n.toNat 0 M H f g h _ X Q hC hI hV (by omega) hn (at0 hf) (at0 hg) (at0 hh) (B.SO.refl (VJ hI.BP (at0 hf) (at0 hg) (at0 hh))) hx λe M' H' c1 c2 c3 c4 c5 c6 c7=>hq e M' H' c1 c2 c3 c4 c5 c6.1 c7
end Go.Proofs.YtcbkbpjlbmalmaaGreatDoor
namespace Go.Proofs.YtcbkbpjlbmalmaaGreatDoor
open Go Go.X Go.Y Go.RowKit
section
set_option maxRecDepth 20000
section
variable {P:Program} {N:Nat} {f:Fr} {w w':World} {cs cs':List Frame} {ops:Array Oper} {Q:Exit->Act->List Frame->World->Prop}
def WS(P:Program)(N:Nat)(ops:Array Oper)(Q:Exit->Act->List Frame->World->Prop)(l:List Nat)(f:Fr)(cs:List Frame)(w:World):Prop:=∀arr,Is N arr f->wpOpsS P ops Q l ⟨arr,[]⟩ cs w
def WC(P:Program)(N:Nat)(Q:Exit->Act->List Frame->World->Prop)(c:Code)(f:Fr)(cs:List Frame)(w:World):Prop:=∀arr,Is N arr f->c.wpS P Q ⟨arr,[]⟩ cs w
theorem Atx(h:∀arr,Is N arr f->Q .normal ⟨arr,[]⟩ cs w):WS P N ops Q [] f cs w:=λarr ha=>h arr ha
variable {y:Code}
theorem Rq(h:WC P N Q y f cs w):WS P N ops (Exit.thenS (λa cs w=>y.wpS P Q a cs w) Q) [] f cs w:=λarr ha=>h arr ha
variable {o:Oper}
theorem Oe{y:Nat->Option Bool}(hg:o.guard=none):Region.wanted o y=true:=by simp [Region.wanted,hg]
variable {i:Nat} {l:List Nat} {d:Option Tmp} {v:Value}
theorem Ji(ho:ops[i]?=some o)(hd:o.dst=d)(hg:o.guard=none)(hr:(execOp (ev f) o).run P w=.ok (.value v) w')(h:WS P N ops Q l (put N f d v) cs w'):WS P N ops Q (i::l) f cs w:=λarr ha=>by
 subst hd;obtain⟨a',h1,h2⟩:=ha.put (ds:=[]) o.dst v;have hr':(execOp (Act.eval ⟨arr,[]⟩) o).run P w=.ok (.value v) w':=by rw[G7 ha];exact hr
 simp only[wpOpsS,ho,Oe hg,if_true,hr',Oper.upon,h1];exact h a' h2
theorem Afr(ho:ops[i]?=some o)(hd:o.dst=d)(hg:o.guard=none)(hr:(execOp (ev f) o).run P w=.ok .skip w')(h:WS P N ops Q l (put N f d undef) cs w'):WS P N ops Q (i::l) f cs w:=λarr ha=>by
 subst hd;obtain⟨a',h1,h2⟩:=ha.put (ds:=[]) o.dst undef;have hr':(execOp (Act.eval ⟨arr,[]⟩) o).run P w=.ok .skip w':=by rw[G7 ha];exact hr
 simp only[wpOpsS,ho,Oe hg,if_true,hr',Oper.upon,h1];exact h a' h2
theorem Atw(ho:ops[i]?=some o)(hd:o.dst=d)(hg:o.guard=none)(hr:(execOp (ev f) o).run P w=.ok .recover w')(hrec:recoverD cs=some (v,cs'))(h:WS P N ops Q l (put N f d v) cs' w'):WS P N ops Q (i::l) f cs w:=λarr ha=>by
 subst hd;obtain⟨a',h1,h2⟩:=ha.put (ds:=[]) o.dst v;have hr':(execOp (Act.eval ⟨arr,[]⟩) o).run P w=.ok .recover w':=by rw[G7 ha];exact hr
 simp only[wpOpsS,ho,Oe hg,if_true,hr',hrec,h1];exact h a' h2
theorem K9{id:Nat}(h:WS P N ops Q (List.range ops.size) f cs w):WC P N Q (.region id ops false) f cs w:=λarr ha=>wpS_region (h arr ha)
theorem Oc{x:Code}(h:WC P N (Exit.thenS (λa cs w=>y.wpS P Q a cs w) Q) x f cs w):WC P N Q (.seq x y) f cs w:=λarr ha=>wpS_seq (h arr ha)
theorem YB{c:Operand}{x:Code}{t:Bool}(hc:ev f c=.bool t)(h:WC P N Q (if t then x else y) f cs w):WC P N Q (.cond c x y) f cs w:=λarr ha=>wpS_cond (t:=t) (by rw[G7 ha];exact hc) (h arr ha)
theorem Aft(h:∀arr,Is N arr f->Q .normal ⟨arr,[]⟩ cs w):WC P N Q .skip f cs w:=λarr ha=>wpS_of_wp (wp_skip (h arr ha))
theorem At0(h:∀arr,Is N arr f->Q .ret ⟨arr,[]⟩ cs w):WC P N Q .ret f cs w:=λarr ha=>wpS_of_wp (wp_ret (h arr ha))
theorem Ie{op:Op}{ty:TypeId}(h:∀(pos:String)(af:Array Edge)(K:Fr->World->Prop),K (put 1 f (some 0) v) w'->WL P 1 #[] (λ_ _=>False) true K [⟨some 0,op,ty,pos,af,none⟩] f w)(dst:Option Tmp)(pos:String)(af:Array Edge):(execOp (ev f) ⟨dst,op,ty,pos,af,none⟩).run P w=.ok (.value v) w':=by
 have h1:=h pos af (λf' w2=>f' 0=v/\w2=w') ⟨rfl,rfl⟩;simp only[WL,Region.wanted,if_true]at h1;obtain⟨v',w2,hr,e1,e2⟩:=ZR _ h1;have hv:v'=v:=by simpa [put,DO] using e1
 rw[hv,e2]at hr;exact hr
end
variable {v:Value}
theorem Dr{N d:Nat}{f:Fr}(h:d<N):put N f (some d) v d=v:=by simp [put,DO,h]
theorem Bf{N d j:Nat}{f:Fr}(h:j≠d):put N f (some d) v j=f j:=by simp [put,DO,h]
theorem Awc{vs:List Value}{n:Nat}:Is (vs.length+n) (⟨vs⟩++Array.replicate n undef) (WI vs):=by
 refine⟨by simp,λi=>?_⟩;rw[<-L6,Array.getD_eq_getD_getElem?,Array.getElem?_append];by_cases hi:i<vs.length
 .simp [hi]
 .simp only[List.size_toArray,hi,if_false];rw[List.getElem?_eq_none (by omega)];by_cases h2:i-vs.length<n
  .simp [h2]
  .simp [h2]
theorem Aag{P:Program}{N n:Nat}{Q:Exit->Act->List Frame->World->Prop}{c:Code}{vs:List Value}{cs:List Frame}{w:World}(hN:vs.length+n=N)(h:WC P N Q c (WI vs) cs w):c.wpS P Q {tmps:=⟨vs⟩++Array.replicate n undef,defers:=[]} cs w:=h _ (hN▸Awc)
theorem Akx{bd bs:Nat}{w:World}{ed:TypeId}{I:BY}{T:Bh}(hs:St I w ([(bd,.cells #[.bool true] ed (0,0))]++T)):CallsD Y0.P OK ⟨[.pointer (some ⟨bd,0,none⟩),.pointer (some ⟨bs,0,none⟩)]⟩ .returning w λe u' w'=>e=.returned (.tuple #[])/\u'=.returning/\w'=w:=by refine callsD_of_wpS (fn:=Tryz.f256) (by kernel_rfl) rfl λc₀ cs hu=>?_;refine Aag (N:=16) (n:=14) rfl ?_;refine Oc (Oc (K9 (Ji (d:=some 5) (i:=0) (l:=[]) rfl rfl rfl (Ie (w':=w) (v:=.bool true) (λpos af K hk=>U7 (by kernel_rfl) hs rfl rfl hk) _ _ _) (Rq ?_))));refine YB (t:=true) (Dr (by decide)) (At0 λarr' ha'=>?_);exact⟨rfl,.returning,by cases c₀;cases hu;rfl,.tuple #[],results_none rfl _ _ _,rfl,rfl,rfl⟩
theorem Th{P:Program}{f:Fr}{w:World}{e:TypeId}{z:Value}(hz:zrB P e z)(dst:Option Tmp)(ty:TypeId)(pos:String)(af:Array Edge):(execOp (ev f) ⟨dst,.alloc e,ty,pos,af,none⟩).run P w=.ok (.value (.pointer (some ⟨w.heap.size,0,none⟩))) (w.alloc (.cells z.cells e)):=by
 unfold zrB at hz;cases hi:P.info? e with
 |none=>simp [hi]at hz
 |some i=>
  simp only[hi,Option.bind_some]at hz;simp [execOp,Instr.alloc,newVar,newRow,zeroValue,typeInfo,hi,hz]
variable {x:Operand}
theorem LS{P:Program}{f:Fr}{w:World}(h:ev f x=v)(dst:Option Tmp)(ty:TypeId)(pos:String)(af:Array Edge):(execOp (ev f) ⟨dst,.move x,ty,pos,af,none⟩).run P w=.ok (.value v) w:=by simp [execOp,h]
theorem Nn{P:Program}{f:Fr}{w:World}(h:ev f x=v)(dst:Option Tmp)(ty:TypeId)(pos:String)(af:Array Edge):(execOp (ev f) ⟨dst,.assign x,ty,pos,af,none⟩).run P w=.ok (.value v) w:=by simp [execOp,h]
theorem YP{P:Program}{f:Fr}{w w':World}{t:TypeId}{y:Operand}{p:Value}(hx:ev f x=p)(hy:ev f y=v)(h:(Instr.storeAt t p v).run P w=.ok () w')(dst:Option Tmp)(ty:TypeId)(pos:String)(af:Array Edge):(execOp (ev f) ⟨dst,.store t x y,ty,pos,af,none⟩).run P w=.ok .skip w':=by simp [execOp,hx,hy,h]
theorem Aky{bd bs:Nat}{w:World}{ed es:TypeId}{ar:Array Value}{I:BY}{T:Bh}{u:Value}{st:Fb}(hs:St I w ([(bs,.cells ar es (0,0))]++([(bd,.cells #[.bool false] ed (0,0))]++T)))(has:ar.size=5)(hu:rp Y0.toUS (.u 15) I w u st):CallsD Y0.P OK ⟨[.pointer (some ⟨bd,0,none⟩),.pointer (some ⟨bs,0,none⟩)]⟩ (.panicking [{v:=.iface 231 u,recovered:=false}]) w λe u' w'=>e=.returned (.tuple #[])/\u'=.panicking [{v:=.iface 231 u,recovered:=true}]/\Ext I w I w'/\∃row:Array Value,row.toList=u.cells.toList/\St I w' ([(bs,.cells row es (0,0))]++([(bd,.cells #[.bool false] ed (0,0))]++T)):=by
 obtain⟨us,rfl,hF⟩:=Hq.1 hu;have hus:us.length=5:=by rw[hF.len];rfl
 have huc:(Value.agg ⟨us⟩).cells=⟨us⟩:=rfl;have hone:∀v∈(Value.agg ⟨us⟩).cells.toList,v.oneCell'=true:=W7 hF Pv;have h231:Pg Y0.P 231 true 5=true:=by kernel_rfl
 have hz:∃z,zrB Y0.P 231 z/\z.cells.size=5:=⟨.agg #[.int .i64 0,.bool false,.int .i64 0,.int .i64 0,.int .i64 0],by unfold zrB;kernel_rfl,rfl⟩
 obtain⟨z,hz1,hz2⟩:=hz;have hst:Gn Y0.P 231 Acs=true:=by kernel_rfl
 obtain⟨fs,hfs⟩:∃fs,Y0.P.underlying 231=some (.struct fs):=by
  unfold Gn at hst;split at hst
  .rename_i d hd;cases d<;>simp [Acs]at hst;exact⟨_,hd⟩
  .cases hst
 refine callsD_of_wpS (fn:=Tryz.f256) (by kernel_rfl) rfl λc₀ cs hm=>?_;refine Aag (N:=16) (n:=14) rfl ?_;have hrec:recoverD (c₀::cs)=some (.iface 231 (.agg ⟨us⟩),{c₀ with mode:=.panicking [{v:=.iface 231 (.agg ⟨us⟩),recovered:=true}]}::cs):=by simp [recoverD,hm]
 generalize hf0:WI [.pointer (some ⟨bd,0,none⟩),.pointer (some ⟨bs,0,none⟩)]=f;have f0:f 0=.pointer (some ⟨bd,0,none⟩):=by rw[<-hf0];rfl
 have f1:f 1=.pointer (some ⟨bs,0,none⟩):=by rw[<-hf0];rfl
 clear hf0;refine Oc (Oc (K9 (Ji (d:=some 5) (i:=0) (l:=[]) rfl rfl rfl (Ie (w':=w) (v:=.bool false) (λpos af K hk=>U7 (by kernel_rfl) hs.Xe (by exact f0) rfl hk) _ _ _) (Rq ?_))));refine YB (t:=false) (Dr (by decide)) (Aft λarr ha=>?_);refine(?_:WC _ 16 _ _ _ _ _) arr ha;refine Oc (K9 (Atw (d:=some 6) (i:=0) (l:=[1]) rfl rfl rfl (by simp [execOp,resolve,invoke,builtin];rfl) hrec ?_));refine Ji (d:=some 2) (i:=1) (l:=[]) (v:=.iface 231 (.agg ⟨us⟩)) rfl rfl rfl (Nn ?_ _ _ _ _) (Rq ?_)
 .exact Dr (by decide)
 generalize hg:put 16 (put 16 (put 16 f (some 5) (.bool false)) (some 6) (.iface 231 (.agg ⟨us⟩))) (some 2) (.iface 231 (.agg ⟨us⟩))=g;have g1:g 1=.pointer (some ⟨bs,0,none⟩):=by rw[<-hg,Bf (by decide),Bf (by decide),Bf (by decide),f1]
 have g2:g 2=.iface 231 (.agg ⟨us⟩):=by rw[<-hg];exact Dr (by decide)
 change WC _ _ _ _ g _ _;clear hg;refine Oc (K9 (Ji (d:=some 8) (i:=0) (l:=[1,2,3,4,5,6,7]) (v:=.iface 231 (.agg ⟨us⟩)) rfl rfl rfl (LS ?_ _ _ _ _) ?_))
 .exact g2
 refine Ji (w':=w) (d:=some 9) (i:=1) (v:=.tuple #[.agg ⟨us⟩,.bool true]) rfl rfl rfl ?_ ?_
 .have:ev (put 16 g (some 8) (.iface 231 (.agg ⟨us⟩))) (.tmp 8)=.iface 231 (.agg ⟨us⟩):=Dr (by decide);simp [execOp,Instr.typeAssert,this,run_underlying hfs]
 refine Ji (d:=some 7) (i:=2) (v:=.tuple #[.agg ⟨us⟩,.bool true]) rfl rfl rfl (LS ?_ _ _ _ _) ?_
 .exact Dr (by decide)
 generalize hg2:put 16 (put 16 (put 16 g (some 8) (.iface 231 (.agg ⟨us⟩))) (some 9) (.tuple #[.agg ⟨us⟩,.bool true])) (some 7) (.tuple #[.agg ⟨us⟩,.bool true])=k;have k1:k 1=.pointer (some ⟨bs,0,none⟩):=by rw[<-hg2,Bf (by decide),Bf (by decide),Bf (by decide),g1]
 have k7:k 7=.tuple #[.agg ⟨us⟩,.bool true]:=by rw[<-hg2];exact Dr (by decide)
 change WS _ _ _ _ _ k _ _;clear hg2;refine Ji (w':=w) (d:=some 10) (i:=3) (v:=.agg ⟨us⟩) rfl rfl rfl ?_ ?_
 .have:ev k (.tmp 7)=.tuple #[.agg ⟨us⟩,.bool true]:=k7;simp [execOp,Instr.extract,this]
 refine Ji (w':=w) (d:=some 11) (i:=4) (v:=.bool true) rfl rfl rfl ?_ ?_
 .have:ev (put 16 k (some 10) (.agg ⟨us⟩)) (.tmp 7)=.tuple #[.agg ⟨us⟩,.bool true]:=by show put 16 k (some 10) _ 7=_;rw[Bf (by decide),k7]
  simp [execOp,Instr.extract,this]
 obtain⟨e1,s1⟩:=hs.alloc (.cells z.cells 231);refine Ji (d:=some 3) (i:=5) (v:=.pointer (some ⟨w.heap.size,0,none⟩)) rfl rfl rfl (Th hz1 _ _ _ _) ?_;generalize hg3:put 16 (put 16 (put 16 k (some 10) (.agg ⟨us⟩)) (some 11) (.bool true)) (some 3) (.pointer (some ⟨w.heap.size,0,none⟩))=m;have m1:m 1=.pointer (some ⟨bs,0,none⟩):=by rw[<-hg3,Bf (by decide),Bf (by decide),Bf (by decide),k1]
 have m3:m 3=.pointer (some ⟨w.heap.size,0,none⟩):=by rw[<-hg3];exact Dr (by decide)
 have m10:m 10=.agg ⟨us⟩:=by rw[<-hg3,Bf (by decide),Bf (by decide)];exact Dr (by decide)
 have m11:m 11=.bool true:=by rw[<-hg3,Bf (by decide)];exact Dr (by decide)
 change WS _ _ _ _ _ m _ _;clear hg3;obtain⟨w2,row2,r2,e2,s2,hr2⟩:=Go.Y.storeCells (P:=Y0.P) (t:=231) (y:=.agg ⟨us⟩) (o:=0) (n:=5) h231 s1 (by rw[huc];exact hus) hone (by omega);refine Afr (d:=none) (i:=6) (w':=w2) rfl rfl rfl (YP (p:=.pointer (some ⟨w.heap.size,0,none⟩)) (v:=.agg ⟨us⟩) ?_ ?_ r2 _ _ _ _) ?_
 .exact m3
 .exact m10
 have hr2':row2.toList=us:=by
  rw[hr2,huc];have:z.cells.toList.length=5:=by simpa using hz2
  simp [List.drop_eq_nil_of_le,this]
 refine Ji (d:=some 4) (i:=7) (l:=[]) (v:=.bool true) rfl rfl rfl (Nn ?_ _ _ _ _) (Rq ?_)
 .exact m11
 refine Oc (Oc (K9 (Ji (d:=some 12) (i:=0) (l:=[1]) (v:=.bool true) rfl rfl rfl (LS ?_ _ _ _ _) ?_)))
 .exact Dr (by decide)
 refine Ji (w':=w2) (d:=some 13) (i:=1) (l:=[]) (v:=.bool false) rfl rfl rfl ?_ (Rq ?_)
 .have:ev (put 16 (put 16 (put 16 m none undef) (some 4) (.bool true)) (some 12) (.bool true)) (.tmp 12)=.bool true:=Dr (by decide);simp only[execOp,this];rfl
 refine YB (t:=false) (Dr (by decide)) (Aft λarr2 ha2=>?_);refine(?_:WC _ 16 _ _ _ _ _) arr2 ha2;generalize hg4:put 16 (put 16 (put 16 (put 16 m none undef) (some 4) (.bool true)) (some 12) (.bool true)) (some 13) (.bool false)=p;have p1:p 1=.pointer (some ⟨bs,0,none⟩):=by rw[<-hg4,Bf (by decide),Bf (by decide),Bf (by decide)];exact m1
 have p3:p 3=.pointer (some ⟨w.heap.size,0,none⟩):=by rw[<-hg4,Bf (by decide),Bf (by decide),Bf (by decide)];exact m3
 clear hg4;refine K9 (Ji (d:=some 15) (i:=0) (l:=[1]) (v:=.agg ⟨us⟩) (w':=w2) rfl rfl rfl (Ie (λpos af K hk=>RJ (n:=5) h231 s2 (by exact p3) (vs:=us) (by rw[hr2',<-hus];simp) hus hk) _ _ _) ?_);have s3:St I w2 ([(bs,.cells ar es (0,0))]++([(w.heap.size,.cells row2 231 (0,0))]++([(bd,.cells #[.bool false] ed (0,0))]++T))):=s2.Xe;obtain⟨w3,row3,r3,e3,s4,hr3⟩:=Go.Y.storeCells (P:=Y0.P) (t:=231) (y:=.agg ⟨us⟩) (o:=0) (n:=5) h231 s3 (by rw[huc];exact hus) hone (by omega);refine Afr (d:=none) (i:=1) (l:=[]) (w':=w3) rfl rfl rfl (YP (p:=.pointer (some ⟨bs,0,none⟩)) (v:=.agg ⟨us⟩) ?_ ?_ r3 _ _ _ _) (Atx λarr3 ha3=>?_)
 .show put 16 p (some 15) _ 1=_;rw[Bf (by decide),p1]
 .exact Dr (by decide)
 have hr3':row3.toList=us:=by
  rw[hr3,huc];have:ar.toList.length=5:=by simpa using has
  simp [List.drop_eq_nil_of_le,this]
 refine⟨rfl,.panicking [{v:=.iface 231 (.agg ⟨us⟩),recovered:=true}],rfl,.tuple #[],results_none rfl _ _ _,rfl,rfl,e1.trans (e2.trans e3),row3,by rw[hr3',huc],?_⟩;have:St I w3 ([(w.heap.size,.cells row2 231 (0,0))]++([(bs,.cells row3 es (0,0))]++([(bd,.cells #[.bool false] ed (0,0))]++T))):=s4.Xe;exact this.drop
end
section
set_option maxRecDepth 100000
set_option maxHeartbeats 1000000
noncomputable def Yn:Go.Y.Sys:={Y0 with gls:=λ_=>none}
theorem Azp(a:Iq Yn [Gd])(F:Iq Yn [.bool]):((decide ¬a.1=a.1,PUnit.unit)=F)=pfP (Y:=Yn) (λ_=>none) Tryz.f265 [Gd] [.bool] a F:=by kernel_rfl
noncomputable def Ayu:PF Yn 265 where
 ta:=[Gd]
 tr:=[.bool]
 KB:=none
 F a:=(false,())
 pa:=rfl
 pr:=rfl
 can:=by kernel_rfl
 ok a hr _ I w hG:=KQ (pf:=λ_=>none) (fn:=Tryz.f265) (by kernel_rfl) rfl rfl hr (Eq.mp (Azp a _) (by show (decide ¬a.1=a.1,())=(false,());simp)) I w hG
theorem Avm(a:Iq Yn [Gd])(F:Iq Yn [.bool]):((decide ¬a.1=a.1,PUnit.unit)=F)=pfP (Y:=Yn) (λ_=>none) Tryz.f280 [Gd] [.bool] a F:=by kernel_rfl
noncomputable def Auz:PF Yn 280 where
 ta:=[Gd]
 tr:=[.bool]
 KB:=none
 F a:=(false,())
 pa:=rfl
 pr:=rfl
 can:=by kernel_rfl
 ok a hr _ I w hG:=KQ (pf:=λ_=>none) (fn:=Tryz.f280) (by kernel_rfl) rfl rfl hr (Eq.mp (Avm a _) (by show (decide ¬a.1=a.1,())=(false,());simp)) I w hG
noncomputable def pfC:(q:FuncId)->Option (PF Yn q)
 |265=>some Ayu
 |280=>some Auz
 |_=>none
def Io(x y:Int):Int:=if x<y then -1 else if y<x then 1 else 0
theorem A0g(a:Iq Yn [Gd,Gd])(F:Iq Yn [Gd]):((false=true->(false=true->((0:Int),PUnit.unit)=F)/\(¬false=true->((-1:Int),PUnit.unit)=F))/\(¬false=true->(false=true->((1:Int),PUnit.unit)=F)/\(¬false=true->(a.1<a.2.1->((-1:Int),PUnit.unit)=F)/\(¬a.1<a.2.1->(a.2.1<a.1->((1:Int),PUnit.unit)=F)/\(¬a.2.1<a.1->((0:Int),PUnit.unit)=F)))))=pfP (Y:=Yn) pfC Tryz.f272 [Gd,Gd] [Gd] a F:=by kernel_rfl
theorem Ajn(x y:Int)(hx:Ag .i64 x)(hy:Ag .i64 y)(w:World):Calls Y0.P 272 #[.int .i64 x,.int .i64 y] w λe w'=>e=.returned (.int .i64 (Io x y))/\w'=w:=by
 have h:=KQ (Y:=Yn) (pf:=pfC) (fn:=Tryz.f272) (q:=272) (a:=(show Iq Yn [Gd,Gd] from (x,y,()))) (F:=(show Iq Yn [Gd] from (Io x y,()))) (by kernel_rfl) rfl rfl ⟨hx,hy,trivial⟩ (Eq.mp (A0g (x,y,()) (Io x y,())) (by
  refine⟨λh=>absurd h (by simp),λ_=>⟨λh=>absurd h (by simp),λ_=>⟨λh=>?_,λh=>⟨λh2=>?_,λh2=>?_⟩⟩⟩⟩
  .have h':x<y:=h;show ((-1:Int),())=(Io x y,());unfold Io;rw[if_pos h']
  .have h':¬x<y:=h;have h2':y<x:=h2;show ((1:Int),())=(Io x y,());unfold Io;rw[if_neg h',if_pos h2']
  .have h':¬x<y:=h;have h2':¬y<x:=h2;show ((0:Int),())=(Io x y,());unfold Io;rw[if_neg h',if_neg h2'])) (λ_=>False) w ⟨λ_ h=>h.elim,λg q hq=>by cases hq⟩
 exact Calls.mono h λe w' he=>⟨he.1,he.2.1⟩
theorem Axb(a:Iq Yn [Gd,Gd])(F:Iq Yn [Gd]):((false=true->(false=true->((0:Int),PUnit.unit)=F)/\(¬false=true->((-1:Int),PUnit.unit)=F))/\(¬false=true->(false=true->((1:Int),PUnit.unit)=F)/\(¬false=true->(a.1<a.2.1->((-1:Int),PUnit.unit)=F)/\(¬a.1<a.2.1->(a.2.1<a.1->((1:Int),PUnit.unit)=F)/\(¬a.2.1<a.1->((0:Int),PUnit.unit)=F)))))=pfP (Y:=Yn) pfC Tryz.f273 [Gd,Gd] [Gd] a F:=by kernel_rfl
theorem Wv(x y:Int)(hx:Ag .i64 x)(hy:Ag .i64 y)(w:World):Calls Y0.P 273 #[.int .i64 x,.int .i64 y] w λe w'=>e=.returned (.int .i64 (Io x y))/\w'=w:=by
 have h:=KQ (Y:=Yn) (pf:=pfC) (fn:=Tryz.f273) (q:=273) (a:=(show Iq Yn [Gd,Gd] from (x,y,()))) (F:=(show Iq Yn [Gd] from (Io x y,()))) (by kernel_rfl) rfl rfl ⟨hx,hy,trivial⟩ (Eq.mp (Axb (x,y,()) (Io x y,())) (by
  refine⟨λh=>absurd h (by simp),λ_=>⟨λh=>absurd h (by simp),λ_=>⟨λh=>?_,λh=>⟨λh2=>?_,λh2=>?_⟩⟩⟩⟩
  .have h':x<y:=h;show ((-1:Int),())=(Io x y,());unfold Io;rw[if_pos h']
  .have h':¬x<y:=h;have h2':y<x:=h2;show ((1:Int),())=(Io x y,());unfold Io;rw[if_neg h',if_pos h2']
  .have h':¬x<y:=h;have h2':¬y<x:=h2;show ((0:Int),())=(Io x y,());unfold Io;rw[if_neg h',if_neg h2'])) (λ_=>False) w ⟨λ_ h=>h.elim,λg q hq=>by cases hq⟩
 exact Calls.mono h λe w' he=>⟨he.1,he.2.1⟩
end
section
set_option maxRecDepth 100000
set_option maxHeartbeats 1000000
def orI(l:Nat->Int):Int:=if l 0=0 then if l 1=0 then l 2 else l 1 else l 0
theorem Al0{W:World}{rb:Nat}{e:TypeId}{fr:Nat×Nat}{cs:Array Value}{l:Nat->Int}(hb:W.heap[rb]?=some (.cells cs e fr))(hc:∀j,j<3->cs[j]?=some (.int .i64 (l j))):Calls Y0.P 271 #[.slice (some ⟨rb,0,none⟩) 3 3] W λe w'=>e=.returned (.int .i64 (orI l))/\w'=W:=by
 refine Il (F:=Tryz.f271) (N:=18) (vs:=[.slice (some ⟨rb,0,none⟩) 3 3]) (by kernel_rfl) rfl rfl (by simp) ?_;have hs23:WH Y0.P 23 3 1 8=true:=by kernel_rfl
 have h3:Pg Y0.P 3 false 1=true:=by kernel_rfl
 generalize hf0:WI [.slice (some ⟨rb,0,none⟩) 3 3]=f0;have f00:f0 0=.slice (some ⟨rb,0,none⟩) 3 3:=by rw[<-hf0];rfl
 have ret:∀{f:Fr}{k:List Item},f 2=.int .i64 (orI l)->WT Y0.P ⟨271,none,[]⟩ 18 (.code .ret::k) (Ajy Y0.P Tryz.f271 18 λe w'=>e=.returned (.int .i64 (orI l))/\w'=W) f W:=λ{f k}h2=>
  MW ⟨.int .i64 (orI l),λa ha=>by refine Gx (vs:=[.int .i64 (orI l)]) ?_;have hR:Tryz.f271.results.toList=[.tmp 2]:=rfl;have h4:=ha.2 2;rw[h2,Array.getD_eq_getD_getElem?]at h4;rw[hR];simp [List.mapM_cons,PU,h4],rfl,rfl⟩
 refine D8 (CK (Ay (v:=.int .i64 0) (Nn rfl _ _ _ _) ?_));refine D8 (CK (Ay (v:=.int .i64 0) (Nn rfl _ _ _ _) ?_));generalize hf1:put 18 (put 18 f0 (some 2) (.int .i64 0)) (some 3) (.int .i64 0)=f1;have f10:f1 0=.slice (some ⟨rb,0,none⟩) 3 3:=by rw[<-hf1];simp [put,DO,f00]
 have f13:f1 3=.int .i64 0:=by rw[<-hf1];simp [put,DO]
 clear hf1;refine D8 (D8 (CK (Ay (v:=.slice (some ⟨rb,0,none⟩) 3 3) (LS (x:=.tmp 0) f10 _ _ _ _) (Ay (w':=W) (v:=.int .i64 3) ?_ (Ay (v:=.int .i64 0) (LS rfl _ _ _ _) ?_)))))
 .have:ev (put 18 f1 (some 6) (.slice (some ⟨rb,0,none⟩) 3 3)) (.tmp 6)=.slice (some ⟨rb,0,none⟩) 3 3:=by simp [ev,put,DO]
  simp [execOp,resolve,invoke,builtin,Builtin.len_,this,run_underlying (EO hs23).under,goInt]
 generalize hf2:put 18 (put 18 (put 18 f1 (some 6) (.slice (some ⟨rb,0,none⟩) 3 3)) (some 7) (.int .i64 3)) (some 8) (.int .i64 0)=f2;have f23:f2 3=.int .i64 0:=by rw[<-hf2];simp [put,DO,f13]
 have f26:f2 6=.slice (some ⟨rb,0,none⟩) 3 3:=by rw[<-hf2];simp [put,DO]
 have f27:f2 7=.int .i64 3:=by rw[<-hf2];simp [put,DO]
 have f28:f2 8=.int .i64 0:=by rw[<-hf2];simp [put,DO]
 clear hf2;refine KE (Y8 (λn f w=>w=W/\∃j:Nat,n=3-j/\j<=3/\f 3=.int .i64 0/\f 6=.slice (some ⟨rb,0,none⟩) 3 3/\f 7=.int .i64 3/\f 8=.int .i64 (j:Int)/\∀i,i<j->l i=0) 3 ⟨rfl,0,rfl,by omega,f23,f26,f27,f28,λi hi=>absurd hi (by omega)⟩ ?_);rintro n f w ⟨rfl,j,hn,hj,g3,g6,g7,g8,hz⟩ ih;refine D8 (CK (Amc (a:=(j:Int)) (b:=3) (kd:=.i64) g8 g7 ?_));by_cases hlt:j<3
 .have hd:decide ((j:Int)<3)=true:=by simp;omega
  rw[hd];refine D8 (Rn (by simp [ev,put,DO]) (Ro ?_));refine D8 (KE (D8 (CK (Ay (w':=w) (v:=.pointer (some ⟨rb,j,none⟩)) ?_ (Ay (w':=w) (v:=.int .i64 (l j)) ?_ (Ay (w':=w) (v:=.int .i64 (l j)) ?_ ?_))))))
  .have e6:ev (put 18 f (some 9) (.bool true)) (.tmp 6)=.slice (some ⟨rb,0,none⟩) 3 3:=by simp [ev,put,DO,g6]
   have e8:ev (put 18 f (some 9) (.bool true)) (.tmp 8)=.int .i64 (j:Int):=by simp [ev,put,DO,g8]
   have h1:(0:Int)<=j/\(j:Int)<(3:Nat):=by omega
   have hsl:=EO hs23;simp [execOp,Instr.indexAt,e6,e8,asIntOf,run_underlying hsl.under,hsl.size,DM];omega
  .have e10:ev (put 18 (put 18 f (some 9) (.bool true)) (some 10) (.pointer (some ⟨rb,j,none⟩))) (.tmp 10)=.pointer (some ⟨rb,j,none⟩):=by simp [ev,put,DO]
   have hcell:w.cell? ⟨rb,j,none⟩=some (.int .i64 (l j)):=by rw[Bp hb];exact hc j hlt
   simp [execOp,Instr.loadAt,e10,Instr.sureAddr,loadVar,(GH (w:=w) h3).1,hcell]
  .exact Nn (by simp [ev,put,DO]) _ _ _ _
  refine D8 (CK (Ay (v:=.int .i64 (l j)) (LS (by simp [ev,put,DO]) _ _ _ _) (Ay (v:=.int .i64 0) (LS (by simp [ev,put,DO,g3]) _ _ _ _) (Amb (a:=l j) (b:=0) (kd:=.i64) (by simp [ev,put,DO]) (by simp [ev,put,DO]) ?_))));by_cases h0:l j=0
  .have hd2:(!decide (l j=0))=false:=by simp [h0]
   rw[hd2];refine NZ (by simp [ev,put,DO]) (Ro (KD ?_));refine CK (Agl (a:=(j:Int)) (b:=1) (kd:=.i64) (by simp [ev,put,DO,g8]) rfl (Ay (v:=.int .i64 ((j+1:Nat):Int)) (LS ?_ _ _ _ _) ?_))
   .have:IntKind.i64.wrap ((j:Int)+1)=((j+1:Nat):Int):=by have h2:Ag .i64 ((j:Int)+1):=AG.2 (by omega);rw[E3 h2];omega
    simp [ev,put,DO,this]
   .refine ih.out (3-(j+1)) _ _ (by omega) ⟨rfl,j+1,rfl,by omega,by simp [put,DO,g3],by simp [put,DO,g6],by simp [put,DO,g7],by simp [put,DO],λi hi=>?_⟩;by_cases e:i=j
    .rw[e];exact h0
    .exact hz i (by omega)
  .have hd2:(!decide (l j=0))=true:=by simp [h0]
   rw[hd2];have ho:orI l=l j:=by
    unfold orI;match j,hlt with
    |0,_=>rw[if_neg h0]
    |1,_=>rw[if_pos (hz 0 (by omega)),if_neg h0]
    |2,_=>rw[if_pos (hz 0 (by omega)),if_pos (hz 1 (by omega))]
   refine Rn (by simp [ev,put,DO]) (D8 (CK (Ay (v:=.int .i64 (l j)) (LS (by simp [ev,put,DO]) _ _ _ _) (Ay (v:=.int .i64 (l j)) (Nn (by simp [ev,put,DO]) _ _ _ _) ?_))));exact ret (by rw[ho];simp [put,DO])
 .have hd:decide ((j:Int)<3)=false:=by simp;omega
  rw[hd];refine D8 (NZ (by simp [ev,put,DO]) (U1 (by simp [exitTo];rfl) ?_));have ho:orI l=0:=by unfold orI;rw[if_pos (hz 0 (by omega)),if_pos (hz 1 (by omega)),hz 2 (by omega)]
  refine D8 (CK (Ay (v:=.int .i64 0) (LS (by simp [ev,put,DO,g3]) _ _ _ _) (Ay (v:=.int .i64 0) (Nn (by simp [ev,put,DO]) _ _ _ _) ?_)));exact ret (by rw[ho];simp [put,DO])
end
end Go.Proofs.YtcbkbpjlbmalmaaGreatDoor
