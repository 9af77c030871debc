/-
  An operation's If-then-else: the walk down. (Merged by program out of 5 texts.)
-/
import Derived.Test.YtcbkbpjlbmalmaaGreatDoorpaq
import Derived.Test.YtcbkbpjlbmalmaaGreatDoorpan
namespace Go.Proofs.YtcbkbpjlbmalmaaGreatDoor
open Go Go.X Go.Y
section
set_option maxRecDepth 100000
set_option maxHeartbeats 2000000
def Ahm(f g h:Int)(H:HY)(Q:Int×Int×Int×Bool×Int×Bool×Unit->UU)(X:PX):Prop:=∃(M:Int×Unit->HP),(∀(x:Int×Unit)(H:HY),M x H->∃(M:Int×Unit->HP),(∀(x1:Int×Unit)(H:HY),M x1 H->(f=(0:Int)->Q (0,0,0,false,x.1,true,()) () H)/\(¬f=(0:Int)->(x.1=x1.1->Q (0,0,0,false,x.1,true,()) () H)/\(¬x.1=x1.1->(f=(1:Int)->Q (0,0,0,false,x1.1,true,()) () H)/\(¬f=(1:Int)->({a0:=x.1,a1:=x1.1:Af}={a0:=(0:Int),a1:=(1:Int):Af}->Q (0,0,0,false,f,true,()) () H)/\(¬{a0:=x.1,a1:=x1.1:Af}={a0:=(0:Int),a1:=(1:Int):Af}->({a0:=x.1,a1:=x1.1:Af}={a0:=(1:Int),a1:=(0:Int):Af}->Wp Y0 G9 F3 (f,()) H (λ(b:Int×Unit)_ G=>Q (0,0,0,false,b.1,true,()) () G) X)/\(¬{a0:=x.1,a1:=x1.1:Af}={a0:=(1:Int),a1:=(0:Int):Af}->(Bt f=true->Wp Y0 G9 F3 (f,()) H (λ(b:Int×Unit)_ G=>Q (b.1,A7 x1.1 (Bt x1.1),A7 x.1 (Bt x1.1),Bt x1.1,0,false,()) () G) X)/\(¬Bt f=true->Q (f,A7 x.1 (Bt x.1),A7 x1.1 (Bt x.1),Bt x.1,0,false,()) () H)))))))/\(h=f->M (1,()) H)/\(¬h=f->Wp Y0 G9 F3 (f,()) H (λ(b:Int×Unit)_ G=>(h=b.1->M (0,()) G)/\(¬h=b.1->M (h,()) G)) X))/\(g=f->M (0,()) H)/\(¬g=f->Wp Y0 G9 F3 (f,()) H (λ(b:Int×Unit)_ G=>(g=b.1->M (1,()) G)/\(¬g=b.1->M (g,()) G)) X)
theorem Aq3 f g h H Q X(hyp_:Ahm f g h H Q X):Wp Y0 Aaj Uv (f,g,h,()) H Q X:=wF Tryz.f196 {jn:=[(14,⟨[(1,.one (.dat I6))],[0,2,12],true⟩),(23,⟨[(2,.one (.dat I6))],[0,1,12],true⟩)]} (by kernel_rfl) hyp_ (by kernel_rfl)
def Ae6(e:Int)(H:HY)(Q:Int×Unit->UU)(X:PX):Prop:=InK .i64 e->Q (D0 BinOp.xor .i64 e 1,()) () H
theorem Ae5 e H Q X(hyp_:Ae6 e H Q X):Wp Y0 G9 F3 (e,()) H Q X:=wF Tryz.f169 {} (by kernel_rfl) hyp_ (by kernel_rfl)
def Vh(m:Option Nat)(op a b c:Int)(H:HY)(Q:Int×Bool×Unit->UU)(X:PX):Prop:=(m=none->Q (0,false,()) () H)/\(¬m=none->∃(b1:Nat),m=some b1/\∃(x:Ce),H b1=some (Ob.st Da x)/\(x.entries=none->(0=0->Q (0,false,()) () (Ab H b1 (Ob.st Da {x with entries:=none,asked:=Go.IntKind.wrap .i64 (x.asked+1)})))/\(¬0=0->InK .i64 op->∃(V:Nat->Int×Nat×Unit->HP),(∃(n:Nat),V n (IntKind.u64.wrap op,0,()) (Ab H b1 (Ob.st Da {x with entries:=none,asked:=Go.IntKind.wrap .i64 (x.asked+1)})))/\∀(n:Nat)(x:Int×Nat×Unit)(H:HY),V n x H->(x.2.1<3->x.2.1<=9223372036854775807->∃(h:x.2.1<[a,b,c].length),InK .i64 [a,b,c][x.2.1]->InK IntKind.u64 x.1->InK IntKind.u64 (IntKind.u64.wrap [a,b,c][x.2.1])->InK IntKind.u64 (D0 BinOp.xor IntKind.u64 x.1 (IntKind.u64.wrap [a,b,c][x.2.1]))->InK IntKind.u64 (IntKind.u64.wrap (D0 BinOp.xor IntKind.u64 x.1 (IntKind.u64.wrap [a,b,c][x.2.1])*11400714819323198485))->(BinOp.shr=BinOp.shr->InK IntKind.u64 (IntKind.u64.wrap (D0 BinOp.xor IntKind.u64 x.1 (IntKind.u64.wrap [a,b,c][x.2.1])*11400714819323198485)))/\(0:Int)<=29/\(InK IntKind.u64 (IntKind.u64.wrap (D0 BinOp.xor IntKind.u64 x.1 (IntKind.u64.wrap [a,b,c][x.2.1])*11400714819323198485))->InK IntKind.u64 ((IntKind.u64.wrap (D0 BinOp.xor IntKind.u64 x.1 (IntKind.u64.wrap [a,b,c][x.2.1])*11400714819323198485)).fdiv (2^min (Int.toNat (29:Int)) 64))->x.2.1+1<=9223372036854775807/\∃(m:Nat),m<n/\V m (D0 BinOp.xor IntKind.u64 (IntKind.u64.wrap (D0 BinOp.xor IntKind.u64 x.1 (IntKind.u64.wrap [a,b,c][x.2.1])*11400714819323198485)) ((IntKind.u64.wrap (D0 BinOp.xor IntKind.u64 x.1 (IntKind.u64.wrap [a,b,c][x.2.1])*11400714819323198485)).fdiv (2^min (Int.toNat (29:Int)) 64)),x.2.1+1,()) H))/\(¬x.2.1<3->∃(x1:Ce),H b1=some (Ob.st Da x1)/\(x1.entries=none->InK IntKind.u64 x.1->InK IntKind.u64 (IntKind.u64.wrap (↑0:Int))->¬IntKind.u64.wrap (↑0:Int)=(0:Int)/\InK IntKind.u64 (x.1.tmod (IntKind.u64.wrap (↑0:Int)))/\False)/\∀(xs:List B5),x1.entries=some xs->xs.length<=9223372036854775807->InK IntKind.u64 x.1->InK IntKind.u64 (IntKind.u64.wrap (↑xs.length:Int))->¬IntKind.u64.wrap (↑xs.length:Int)=(0:Int)/\InK IntKind.u64 (x.1.tmod (IntKind.u64.wrap (↑xs.length:Int)))/\(InK IntKind.u64 (x.1.tmod (IntKind.u64.wrap (↑xs.length:Int)))->(InK IntKind.u64 (x.1.tmod (IntKind.u64.wrap (↑xs.length:Int)))->(0:Int)<=x.1.tmod (IntKind.u64.wrap (↑xs.length:Int)))/\∃(h:(x.1.tmod (IntKind.u64.wrap (↑xs.length:Int))).toNat<xs.length),∃(h:(x.1.tmod (IntKind.u64.wrap (↑xs.length:Int))).toNat<xs.length),(¬xs[(x.1.tmod (IntKind.u64.wrap (↑xs.length:Int))).toNat].full=true->{x1 with entries:=some xs}=x1/\Q (0,false,()) () H)/\(¬¬xs[(x.1.tmod (IntKind.u64.wrap (↑xs.length:Int))).toNat].full=true->∃(h:(x.1.tmod (IntKind.u64.wrap (↑xs.length:Int))).toNat<xs.length),(¬{op:=xs[(x.1.tmod (IntKind.u64.wrap (↑xs.length:Int))).toNat].key.op,De:={a0:=xs[(x.1.tmod (IntKind.u64.wrap (↑xs.length:Int))).toNat].key.De.a0,a1:=xs[(x.1.tmod (IntKind.u64.wrap (↑xs.length:Int))).toNat].key.De.a1,a2:=xs[(x.1.tmod (IntKind.u64.wrap (↑xs.length:Int))).toNat].key.De.a2:Bv}:Ex}={op:=op,De:={a0:=a,a1:=b,a2:=c:Bv}:Ex}->{x1 with entries:=some xs}=x1/\Q (0,false,()) () H)/\(¬¬{op:=xs[(x.1.tmod (IntKind.u64.wrap (↑xs.length:Int))).toNat].key.op,De:={a0:=xs[(x.1.tmod (IntKind.u64.wrap (↑xs.length:Int))).toNat].key.De.a0,a1:=xs[(x.1.tmod (IntKind.u64.wrap (↑xs.length:Int))).toNat].key.De.a1,a2:=xs[(x.1.tmod (IntKind.u64.wrap (↑xs.length:Int))).toNat].key.De.a2:Bv}:Ex}={op:=op,De:={a0:=a,a1:=b,a2:=c:Bv}:Ex}->∃(h:(x.1.tmod (IntKind.u64.wrap (↑xs.length:Int))).toNat<xs.length),Q (xs[(x.1.tmod (IntKind.u64.wrap (↑xs.length:Int))).toNat].r,true,()) () (Ab H b1 (Ob.st Da {x1 with entries:=some xs,found:=Go.IntKind.wrap .i64 (x1.found+1)}))))))))/\∀(xs:List B5),x.entries=some xs->xs.length<=9223372036854775807->(xs.length=0->Q (0,false,()) () (Ab H b1 (Ob.st Da {x with entries:=some xs,asked:=Go.IntKind.wrap .i64 (x.asked+1)})))/\(¬xs.length=0->InK .i64 op->∃(V:Nat->Int×Nat×Unit->HP),(∃(n:Nat),V n (IntKind.u64.wrap op,0,()) (Ab H b1 (Ob.st Da {x with entries:=some xs,asked:=Go.IntKind.wrap .i64 (x.asked+1)})))/\∀(n:Nat)(x:Int×Nat×Unit)(H:HY),V n x H->(x.2.1<3->x.2.1<=9223372036854775807->∃(h:x.2.1<[a,b,c].length),InK .i64 [a,b,c][x.2.1]->InK IntKind.u64 x.1->InK IntKind.u64 (IntKind.u64.wrap [a,b,c][x.2.1])->InK IntKind.u64 (D0 BinOp.xor IntKind.u64 x.1 (IntKind.u64.wrap [a,b,c][x.2.1]))->InK IntKind.u64 (IntKind.u64.wrap (D0 BinOp.xor IntKind.u64 x.1 (IntKind.u64.wrap [a,b,c][x.2.1])*11400714819323198485))->(BinOp.shr=BinOp.shr->InK IntKind.u64 (IntKind.u64.wrap (D0 BinOp.xor IntKind.u64 x.1 (IntKind.u64.wrap [a,b,c][x.2.1])*11400714819323198485)))/\(0:Int)<=29/\(InK IntKind.u64 (IntKind.u64.wrap (D0 BinOp.xor IntKind.u64 x.1 (IntKind.u64.wrap [a,b,c][x.2.1])*11400714819323198485))->InK IntKind.u64 ((IntKind.u64.wrap (D0 BinOp.xor IntKind.u64 x.1 (IntKind.u64.wrap [a,b,c][x.2.1])*11400714819323198485)).fdiv (2^min (Int.toNat (29:Int)) 64))->x.2.1+1<=9223372036854775807/\∃(m:Nat),m<n/\V m (D0 BinOp.xor IntKind.u64 (IntKind.u64.wrap (D0 BinOp.xor IntKind.u64 x.1 (IntKind.u64.wrap [a,b,c][x.2.1])*11400714819323198485)) ((IntKind.u64.wrap (D0 BinOp.xor IntKind.u64 x.1 (IntKind.u64.wrap [a,b,c][x.2.1])*11400714819323198485)).fdiv (2^min (Int.toNat (29:Int)) 64)),x.2.1+1,()) H))/\(¬x.2.1<3->∃(x1:Ce),H b1=some (Ob.st Da x1)/\(x1.entries=none->InK IntKind.u64 x.1->InK IntKind.u64 (IntKind.u64.wrap (↑0:Int))->¬IntKind.u64.wrap (↑0:Int)=(0:Int)/\InK IntKind.u64 (x.1.tmod (IntKind.u64.wrap (↑0:Int)))/\False)/\∀(xs:List B5),x1.entries=some xs->xs.length<=9223372036854775807->InK IntKind.u64 x.1->InK IntKind.u64 (IntKind.u64.wrap (↑xs.length:Int))->¬IntKind.u64.wrap (↑xs.length:Int)=(0:Int)/\InK IntKind.u64 (x.1.tmod (IntKind.u64.wrap (↑xs.length:Int)))/\(InK IntKind.u64 (x.1.tmod (IntKind.u64.wrap (↑xs.length:Int)))->(InK IntKind.u64 (x.1.tmod (IntKind.u64.wrap (↑xs.length:Int)))->(0:Int)<=x.1.tmod (IntKind.u64.wrap (↑xs.length:Int)))/\∃(h:(x.1.tmod (IntKind.u64.wrap (↑xs.length:Int))).toNat<xs.length),∃(h:(x.1.tmod (IntKind.u64.wrap (↑xs.length:Int))).toNat<xs.length),(¬xs[(x.1.tmod (IntKind.u64.wrap (↑xs.length:Int))).toNat].full=true->{x1 with entries:=some xs}=x1/\Q (0,false,()) () H)/\(¬¬xs[(x.1.tmod (IntKind.u64.wrap (↑xs.length:Int))).toNat].full=true->∃(h:(x.1.tmod (IntKind.u64.wrap (↑xs.length:Int))).toNat<xs.length),(¬{op:=xs[(x.1.tmod (IntKind.u64.wrap (↑xs.length:Int))).toNat].key.op,De:={a0:=xs[(x.1.tmod (IntKind.u64.wrap (↑xs.length:Int))).toNat].key.De.a0,a1:=xs[(x.1.tmod (IntKind.u64.wrap (↑xs.length:Int))).toNat].key.De.a1,a2:=xs[(x.1.tmod (IntKind.u64.wrap (↑xs.length:Int))).toNat].key.De.a2:Bv}:Ex}={op:=op,De:={a0:=a,a1:=b,a2:=c:Bv}:Ex}->{x1 with entries:=some xs}=x1/\Q (0,false,()) () H)/\(¬¬{op:=xs[(x.1.tmod (IntKind.u64.wrap (↑xs.length:Int))).toNat].key.op,De:={a0:=xs[(x.1.tmod (IntKind.u64.wrap (↑xs.length:Int))).toNat].key.De.a0,a1:=xs[(x.1.tmod (IntKind.u64.wrap (↑xs.length:Int))).toNat].key.De.a1,a2:=xs[(x.1.tmod (IntKind.u64.wrap (↑xs.length:Int))).toNat].key.De.a2:Bv}:Ex}={op:=op,De:={a0:=a,a1:=b,a2:=c:Bv}:Ex}->∃(h:(x.1.tmod (IntKind.u64.wrap (↑xs.length:Int))).toNat<xs.length),Q (xs[(x.1.tmod (IntKind.u64.wrap (↑xs.length:Int))).toNat].r,true,()) () (Ab H b1 (Ob.st Da {x1 with entries:=some xs,found:=Go.IntKind.wrap .i64 (x1.found+1)}))))))))
theorem Ae1 m op a b c H Q X(hyp_:Vh m op a b c H Q X):Wp Y0 Jn G8 (m,op,a,b,c,()) H Q X:=wF Tryz.f197 {wr:=[20,55],il:=ilT} (by kernel_rfl) hyp_ (by kernel_rfl)
def Vg(m:Option Nat)(op a b c r:Int)(H:HY)(Q:Unit->UU)(X:PX):Prop:=(m=none->Q () () H)/\(¬m=none->∃(b1:Nat),m=some b1/\∃(x:Ce),H b1=some (Ob.st Da x)/\(x.entries=none->True/\(InK .i64 x.size->InK .i64 x.size->(0:Int)<=x.size/\x.size=x.size/\x.size.toNat*48<=281474976710656/\(InK .i64 op->∃(V:Nat->Int×Nat×Unit->HP),(∃(n:Nat),V n (IntKind.u64.wrap op,0,()) (Ab H b1 (Ob.st Da {x with entries:=some (List.replicate x.size.toNat {key:={op:=(0:Int),De:={a0:=(0:Int),a1:=(0:Int),a2:=(0:Int):Bv}:Ex},r:=(0:Int),full:=false:B5})})))/\∀(n:Nat)(x:Int×Nat×Unit)(H:HY),V n x H->(x.2.1<3->x.2.1<=9223372036854775807->∃(h:x.2.1<[a,b,c].length),InK .i64 [a,b,c][x.2.1]->InK IntKind.u64 x.1->InK IntKind.u64 (IntKind.u64.wrap [a,b,c][x.2.1])->InK IntKind.u64 (D0 BinOp.xor IntKind.u64 x.1 (IntKind.u64.wrap [a,b,c][x.2.1]))->InK IntKind.u64 (IntKind.u64.wrap (D0 BinOp.xor IntKind.u64 x.1 (IntKind.u64.wrap [a,b,c][x.2.1])*11400714819323198485))->(BinOp.shr=BinOp.shr->InK IntKind.u64 (IntKind.u64.wrap (D0 BinOp.xor IntKind.u64 x.1 (IntKind.u64.wrap [a,b,c][x.2.1])*11400714819323198485)))/\(0:Int)<=29/\(InK IntKind.u64 (IntKind.u64.wrap (D0 BinOp.xor IntKind.u64 x.1 (IntKind.u64.wrap [a,b,c][x.2.1])*11400714819323198485))->InK IntKind.u64 ((IntKind.u64.wrap (D0 BinOp.xor IntKind.u64 x.1 (IntKind.u64.wrap [a,b,c][x.2.1])*11400714819323198485)).fdiv (2^min (Int.toNat (29:Int)) 64))->x.2.1+1<=9223372036854775807/\∃(m:Nat),m<n/\V m (D0 BinOp.xor IntKind.u64 (IntKind.u64.wrap (D0 BinOp.xor IntKind.u64 x.1 (IntKind.u64.wrap [a,b,c][x.2.1])*11400714819323198485)) ((IntKind.u64.wrap (D0 BinOp.xor IntKind.u64 x.1 (IntKind.u64.wrap [a,b,c][x.2.1])*(11400714819323198485:Int))).fdiv (2^min (Int.toNat (29:Int)) 64)),x.2.1+1,()) H))/\(¬x.2.1<3->∃(x1:Ce),H b1=some (Ob.st Da x1)/\(x1.entries=none->InK IntKind.u64 x.1->InK IntKind.u64 (IntKind.u64.wrap (↑0:Int))->¬IntKind.u64.wrap (↑0:Int)=(0:Int)/\InK IntKind.u64 (x.1.tmod (IntKind.u64.wrap (↑0:Int)))/\False)/\∀(xs:List B5),x1.entries=some xs->xs.length<=9223372036854775807->InK IntKind.u64 x.1->InK IntKind.u64 (IntKind.u64.wrap (↑xs.length:Int))->¬IntKind.u64.wrap (↑xs.length:Int)=(0:Int)/\InK IntKind.u64 (x.1.tmod (IntKind.u64.wrap (↑xs.length:Int)))/\(InK IntKind.u64 (x.1.tmod (IntKind.u64.wrap (↑xs.length:Int)))->(InK IntKind.u64 (x.1.tmod (IntKind.u64.wrap (↑xs.length:Int)))->(0:Int)<=x.1.tmod (IntKind.u64.wrap (↑xs.length:Int)))/\∃(h:(x.1.tmod (IntKind.u64.wrap (↑xs.length:Int))).toNat<xs.length),(x.1.tmod (IntKind.u64.wrap (↑xs.length:Int))).toNat<xs.length/\Q () () (Ab H b1 (Ob.st Da {x1 with entries:=some (xs.set (x.1.tmod (IntKind.u64.wrap (↑xs.length:Int))).toNat {key:={op:=op,De:={a0:=a,a1:=b,a2:=c:Bv}:Ex},r:=r,full:=true:B5})})))))/\(InK .i64 op->∃(V:Nat->Int×Nat×Unit->HP),(∃(n:Nat),V n (IntKind.u64.wrap op,0,()) (Ab H b1 (Ob.st Da {x with entries:=some (List.replicate x.size.toNat {key:={op:=(0:Int),De:={a0:=(0:Int),a1:=(0:Int),a2:=(0:Int):Bv}:Ex},r:=(0:Int),full:=false:B5})})))/\∀(n:Nat)(x:Int×Nat×Unit)(H:HY),V n x H->(x.2.1<3->x.2.1<=9223372036854775807->∃(h:x.2.1<[a,b,c].length),InK .i64 [a,b,c][x.2.1]->InK IntKind.u64 x.1->InK IntKind.u64 (IntKind.u64.wrap [a,b,c][x.2.1])->InK IntKind.u64 (D0 BinOp.xor IntKind.u64 x.1 (IntKind.u64.wrap [a,b,c][x.2.1]))->InK IntKind.u64 (IntKind.u64.wrap (D0 BinOp.xor IntKind.u64 x.1 (IntKind.u64.wrap [a,b,c][x.2.1])*11400714819323198485))->(BinOp.shr=BinOp.shr->InK IntKind.u64 (IntKind.u64.wrap (D0 BinOp.xor IntKind.u64 x.1 (IntKind.u64.wrap [a,b,c][x.2.1])*11400714819323198485)))/\(0:Int)<=29/\(InK IntKind.u64 (IntKind.u64.wrap (D0 BinOp.xor IntKind.u64 x.1 (IntKind.u64.wrap [a,b,c][x.2.1])*11400714819323198485))->InK IntKind.u64 ((IntKind.u64.wrap (D0 BinOp.xor IntKind.u64 x.1 (IntKind.u64.wrap [a,b,c][x.2.1])*11400714819323198485)).fdiv (2^min (Int.toNat (29:Int)) 64))->x.2.1+1<=9223372036854775807/\∃(m:Nat),m<n/\V m (D0 BinOp.xor IntKind.u64 (IntKind.u64.wrap (D0 BinOp.xor IntKind.u64 x.1 (IntKind.u64.wrap [a,b,c][x.2.1])*11400714819323198485)) ((IntKind.u64.wrap (D0 BinOp.xor IntKind.u64 x.1 (IntKind.u64.wrap [a,b,c][x.2.1])*(11400714819323198485:Int))).fdiv (2^min (Int.toNat (29:Int)) 64)),x.2.1+1,()) H))/\(¬x.2.1<3->∃(x1:Ce),H b1=some (Ob.st Da x1)/\(x1.entries=none->InK IntKind.u64 x.1->InK IntKind.u64 (IntKind.u64.wrap (↑0:Int))->¬IntKind.u64.wrap (↑0:Int)=(0:Int)/\InK IntKind.u64 (x.1.tmod (IntKind.u64.wrap (↑0:Int)))/\False)/\∀(xs:List B5),x1.entries=some xs->xs.length<=9223372036854775807->InK IntKind.u64 x.1->InK IntKind.u64 (IntKind.u64.wrap (↑xs.length:Int))->¬IntKind.u64.wrap (↑xs.length:Int)=(0:Int)/\InK IntKind.u64 (x.1.tmod (IntKind.u64.wrap (↑xs.length:Int)))/\(InK IntKind.u64 (x.1.tmod (IntKind.u64.wrap (↑xs.length:Int)))->(InK IntKind.u64 (x.1.tmod (IntKind.u64.wrap (↑xs.length:Int)))->(0:Int)<=x.1.tmod (IntKind.u64.wrap (↑xs.length:Int)))/\∃(h:(x.1.tmod (IntKind.u64.wrap (↑xs.length:Int))).toNat<xs.length),(x.1.tmod (IntKind.u64.wrap (↑xs.length:Int))).toNat<xs.length/\Q () () (Ab H b1 (Ob.st Da {x1 with entries:=some (xs.set (x.1.tmod (IntKind.u64.wrap (↑xs.length:Int))).toNat {key:={op:=op,De:={a0:=a,a1:=b,a2:=c:Bv}:Ex},r:=r,full:=true:B5})})))))))/\∀(xs:List B5),x.entries=some xs->¬xs=[]/\(InK .i64 op->∃(V:Nat->Int×Nat×Unit->HP),(∃(n:Nat),V n (IntKind.u64.wrap op,0,()) (Ab H b1 (Ob.st Da {x with entries:=some xs})))/\∀(n:Nat)(x:Int×Nat×Unit)(H:HY),V n x H->(x.2.1<3->x.2.1<=9223372036854775807->∃(h:x.2.1<[a,b,c].length),InK .i64 [a,b,c][x.2.1]->InK IntKind.u64 x.1->InK IntKind.u64 (IntKind.u64.wrap [a,b,c][x.2.1])->InK IntKind.u64 (D0 BinOp.xor IntKind.u64 x.1 (IntKind.u64.wrap [a,b,c][x.2.1]))->InK IntKind.u64 (IntKind.u64.wrap (D0 BinOp.xor IntKind.u64 x.1 (IntKind.u64.wrap [a,b,c][x.2.1])*11400714819323198485))->(BinOp.shr=BinOp.shr->InK IntKind.u64 (IntKind.u64.wrap (D0 BinOp.xor IntKind.u64 x.1 (IntKind.u64.wrap [a,b,c][x.2.1])*11400714819323198485)))/\(0:Int)<=29/\(InK IntKind.u64 (IntKind.u64.wrap (D0 BinOp.xor IntKind.u64 x.1 (IntKind.u64.wrap [a,b,c][x.2.1])*11400714819323198485))->InK IntKind.u64 ((IntKind.u64.wrap (D0 BinOp.xor IntKind.u64 x.1 (IntKind.u64.wrap [a,b,c][x.2.1])*11400714819323198485)).fdiv (2^min (Int.toNat (29:Int)) 64))->x.2.1+1<=9223372036854775807/\∃(m:Nat),m<n/\V m (D0 BinOp.xor IntKind.u64 (IntKind.u64.wrap (D0 BinOp.xor IntKind.u64 x.1 (IntKind.u64.wrap [a,b,c][x.2.1])*11400714819323198485)) ((IntKind.u64.wrap (D0 BinOp.xor IntKind.u64 x.1 (IntKind.u64.wrap [a,b,c][x.2.1])*11400714819323198485)).fdiv (2^min (Int.toNat (29:Int)) 64)),x.2.1+1,()) H))/\(¬x.2.1<3->∃(x1:Ce),H b1=some (Ob.st Da x1)/\(x1.entries=none->InK IntKind.u64 x.1->InK IntKind.u64 (IntKind.u64.wrap (↑0:Int))->¬IntKind.u64.wrap (↑0:Int)=(0:Int)/\InK IntKind.u64 (x.1.tmod (IntKind.u64.wrap (↑0:Int)))/\False)/\∀(xs:List B5),x1.entries=some xs->xs.length<=9223372036854775807->InK IntKind.u64 x.1->InK IntKind.u64 (IntKind.u64.wrap (↑xs.length:Int))->¬IntKind.u64.wrap (↑xs.length:Int)=(0:Int)/\InK IntKind.u64 (x.1.tmod (IntKind.u64.wrap (↑xs.length:Int)))/\(InK IntKind.u64 (x.1.tmod (IntKind.u64.wrap (↑xs.length:Int)))->(InK IntKind.u64 (x.1.tmod (IntKind.u64.wrap (↑xs.length:Int)))->(0:Int)<=x.1.tmod (IntKind.u64.wrap (↑xs.length:Int)))/\∃(h:(x.1.tmod (IntKind.u64.wrap (↑xs.length:Int))).toNat<xs.length),(x.1.tmod (IntKind.u64.wrap (↑xs.length:Int))).toNat<xs.length/\Q () () (Ab H b1 (Ob.st Da {x1 with entries:=some (xs.set (x.1.tmod (IntKind.u64.wrap (↑xs.length:Int))).toNat {key:={op:=op,De:={a0:=a,a1:=b,a2:=c:Bv}:Ex},r:=r,full:=true:B5})})))))/\(InK .i64 op->∃(V:Nat->Int×Nat×Unit->HP),(∃(n:Nat),V n (IntKind.u64.wrap op,0,()) (Ab H b1 (Ob.st Da {x with entries:=some xs})))/\∀(n:Nat)(x:Int×Nat×Unit)(H:HY),V n x H->(x.2.1<3->x.2.1<=9223372036854775807->∃(h:x.2.1<[a,b,c].length),InK .i64 [a,b,c][x.2.1]->InK IntKind.u64 x.1->InK IntKind.u64 (IntKind.u64.wrap [a,b,c][x.2.1])->InK IntKind.u64 (D0 BinOp.xor IntKind.u64 x.1 (IntKind.u64.wrap [a,b,c][x.2.1]))->InK IntKind.u64 (IntKind.u64.wrap (D0 BinOp.xor IntKind.u64 x.1 (IntKind.u64.wrap [a,b,c][x.2.1])*11400714819323198485))->(BinOp.shr=BinOp.shr->InK IntKind.u64 (IntKind.u64.wrap (D0 BinOp.xor IntKind.u64 x.1 (IntKind.u64.wrap [a,b,c][x.2.1])*11400714819323198485)))/\(0:Int)<=29/\(InK IntKind.u64 (IntKind.u64.wrap (D0 BinOp.xor IntKind.u64 x.1 (IntKind.u64.wrap [a,b,c][x.2.1])*11400714819323198485))->InK IntKind.u64 ((IntKind.u64.wrap (D0 BinOp.xor IntKind.u64 x.1 (IntKind.u64.wrap [a,b,c][x.2.1])*11400714819323198485)).fdiv (2^min (Int.toNat (29:Int)) 64))->x.2.1+1<=9223372036854775807/\∃(m:Nat),m<n/\V m (D0 BinOp.xor IntKind.u64 (IntKind.u64.wrap (D0 BinOp.xor IntKind.u64 x.1 (IntKind.u64.wrap [a,b,c][x.2.1])*11400714819323198485)) ((IntKind.u64.wrap (D0 BinOp.xor IntKind.u64 x.1 (IntKind.u64.wrap [a,b,c][x.2.1])*11400714819323198485)).fdiv (2^min (Int.toNat (29:Int)) 64)),x.2.1+1,()) H))/\(¬x.2.1<3->∃(x1:Ce),H b1=some (Ob.st Da x1)/\(x1.entries=none->InK IntKind.u64 x.1->InK IntKind.u64 (IntKind.u64.wrap (↑0:Int))->¬IntKind.u64.wrap (↑0:Int)=(0:Int)/\InK IntKind.u64 (x.1.tmod (IntKind.u64.wrap (↑0:Int)))/\False)/\∀(xs:List B5),x1.entries=some xs->xs.length<=9223372036854775807->InK IntKind.u64 x.1->InK IntKind.u64 (IntKind.u64.wrap (↑xs.length:Int))->¬IntKind.u64.wrap (↑xs.length:Int)=(0:Int)/\InK IntKind.u64 (x.1.tmod (IntKind.u64.wrap (↑xs.length:Int)))/\(InK IntKind.u64 (x.1.tmod (IntKind.u64.wrap (↑xs.length:Int)))->(InK IntKind.u64 (x.1.tmod (IntKind.u64.wrap (↑xs.length:Int)))->(0:Int)<=x.1.tmod (IntKind.u64.wrap (↑xs.length:Int)))/\∃(h:(x.1.tmod (IntKind.u64.wrap (↑xs.length:Int))).toNat<xs.length),(x.1.tmod (IntKind.u64.wrap (↑xs.length:Int))).toNat<xs.length/\Q () () (Ab H b1 (Ob.st Da {x1 with entries:=some (xs.set (x.1.tmod (IntKind.u64.wrap (↑xs.length:Int))).toNat {key:={op:=op,De:={a0:=a,a1:=b,a2:=c:Bv}:Ex},r:=r,full:=true:B5})}))))))
theorem Ae0 m op a b c r H Q X(hyp_:Vg m op a b c r H Q X):Wp Y0 Jm G7 (m,op,a,b,c,r,()) H Q X:=wF Tryz.f200 {il:=ilT} (by kernel_rfl) hyp_ (by kernel_rfl)
def Abw(m:Option Nat)(H:HY)(Q:Unit->UU)(X:PX):Prop:=(¬m=none->∃(b:Nat),m=some b/\∃(x:Ce),H b=some (Ob.st Da x)/\(x.entries=none->{x with entries:=none}=x/\Q () () H)/\∀(xs:List B5),x.entries=some xs->Q () () (Ab H b (Ob.st Da {x with entries:=some (List.replicate xs.length {key:={op:=(0:Int),De:={a0:=(0:Int),a1:=(0:Int),a2:=(0:Int):Bv}:Ex},r:=(0:Int),full:=false:B5})})))/\(¬¬m=none->Q () () H)
theorem Abv m H Q X(hyp_:Abw m H Q X):Wp Y0 Hl Fx (m,()) H Q X:=wF Tryz.f162 {} (by kernel_rfl) hyp_ (by kernel_rfl)
def Agu(size:Int)(H:HY)(Q:Option Nat×Unit->UU)(X:PX):Prop:=∀(b:Nat),H b=none->Q (some b,()) () (Ab H b (Ob.st Da {size:=mnL false (mnL true size [(.i64,1)]) [(.i64,65536)],entries:=none,asked:=(0:Int),found:=(0:Int):Ce}))
theorem Aqo size H Q X(hyp_:Agu size H Q X):Wp Y0 Ahh Zx (size,()) H Q X:=wF Tryz.f81 {pr:=[(7,4)]} (by kernel_rfl) hyp_ (by kernel_rfl)
def Sd(yield:Int×Unit->HY->(Bool×Unit->HP)->PX->Prop)(p1:Option Nat)(H:HY)(Q:Unit->UU)(X:PX):Prop:=(p1=none->Q () () H)/\(¬p1=none->∃(b:Nat),p1=some b/\∃(x:Av),H b=some (Ob.st Ek x)/\(x.at_.length<=9223372036854775807->{room:=x.room,at_:=x.at_,taken:=x.taken,free:=x.free,many:=x.many:Av}=x/\∃(V:Nat->Nat×Unit->HP),(∃(n:Nat),V n (0,()) H)/\∀(n:Nat)(x1:Nat×Unit)(H:HY),V n x1 H->(x1.1<x.at_.length->∃(b:Nat),p1=some b/\∃(x:Av),H b=some (Ob.st Ek x)/\(x1.1<=9223372036854775807->∃(h:x1.1<x.taken.length),∃(h:x1.1<x.taken.length),(x.taken[x1.1]=true->{room:=x.room,at_:=x.at_,taken:=x.taken,free:=x.free,many:=x.many:Av}=x/\yield ((↑x1.1:Int),()) H (λ(b:Bool×Unit)(G:HY)=>(¬b.1=true->Q () () G)/\(¬¬b.1=true->x1.1+1<=9223372036854775807/\∃(m:Nat),m<n/\V m (x1.1+1,()) G)) X)/\(¬x.taken[x1.1]=true->x1.1+1<=9223372036854775807/\∃(m:Nat),m<n/\{room:=x.room,at_:=x.at_,taken:=x.taken,free:=x.free,many:=x.many:Av}=x/\V m (x1.1+1,()) H)))/\(¬x1.1<x.at_.length->Q () () H)))
theorem Abj yield p1 H Q X(hyp_:Sd yield p1 H Q X):Wp Y0 Nz J5 (yield,p1,()) H Q X:=wF Tryz.f278 {lp:=[(2,⟨[(11,.nat)],[0,1,10],true⟩)]} (by kernel_rfl) hyp_ (by kernel_rfl)
def Rf(yield:Am×Unit->HY->(Bool×Unit->HP)->PX->Prop)(p1:Option Nat)(H:HY)(Q:Unit->UU)(X:PX):Prop:=∀(l:Nat)(r:Loop),H l=none->Wp Y0 Nz J5 (λ(a:Int×Unit)(H:HY)(Q:Bool×Unit->HP)(X:Nat->Lf Y0.D->HP)=>H l=some (Ob.lp r)/\H l=some (Ob.lp r)/\∃(b:Nat),p1=some b/\∃(x:Av),Ab H l (Ob.lp (Dy r)) b=some (Ob.st Ek x)/\(InK .i64 a.1->(InK .i64 a.1->(0:Int)<=a.1)/\∃(h:a.1.toNat<x.at_.length),∃(h:a.1.toNat<x.at_.length),{room:=x.room,at_:=x.at_,taken:=x.taken,free:=x.free,many:=x.many:Av}=x/\yield (x.at_[a.1.toNat],()) (Ab H l (Ob.lp (Dy r))) (λ(b:Bool×Unit)(G:HY)=>(¬b.1=true->G l=some (Ob.lp (Dy r))/\Q (false,()) (Ab G l (Ob.lp (Vy r Code.ret))))/\(¬¬b.1=true->G l=some (Ob.lp (Dy r))/\Q (true,()) (Ab G l (Ob.lp r)))) X),p1,()) (Ab H l (Ob.lp r)) (λ(b io:Unit)(G:HY)=>(G l=some (Ob.lp r)/\∀(r':Loop),Q () () (Ab G l (Ob.lp r')))∨G l=some (Ob.lp (Vy r Code.ret))/\∀(r':Loop),Q () () (Ab G l (Ob.lp r'))) X
theorem Z2 yield p1 H Q X(hyp_:Rf yield p1 H Q X):Wp Y0 Mi I1 (yield,p1,()) H Q X:=wFS Tryz.f266 {im:=[2],il:=ilT} (by kernel_rfl) hyp_ (by kernel_rfl)
def Om(s:Option Nat)(H:HY)(Q:Int×Unit->UU)(X:PX):Prop:=(s=none->Q (0,()) () H)/\(¬s=none->∃(b:Nat),s=some b/\∃(x:Aa),H b=some (Ob.st A8 x)/\(x.dead=(0:Int)->{levels:=x.levels,Bs:=x.Bs,tables:=x.tables,counts:=x.counts,dead:=x.dead:Aa}=x/\Q (0,()) () H)/\(¬x.dead=(0:Int)->{levels:=x.levels,Bs:=x.Bs,tables:=x.tables,counts:=x.counts,dead:=x.dead:Aa}=x/\∀(b:Nat),H b=none->∃(b1:Nat),s=some b1/\∃(x:Aa),Ab H b (Ob.st E0 []) b1=some (Ob.st A8 x)/\{levels:=x.levels,Bs:=x.Bs,tables:=x.tables,counts:=x.counts,dead:=x.dead:Aa}=x/\∀(l:Nat)(r:Loop),Ab H b (Ob.st E0 []) l=none->Wp Y0 Mi I1 (λ(a:Am×Unit)(H:HY)(Q:Bool×Unit->HP)(X:Nat->Lf Y0.D->HP)=>H l=some (Ob.lp r)/\H l=some (Ob.lp r)/\∃(b2:Nat),s=some b2/\∃(x:Aa),Ab H l (Ob.lp (Dy r)) b2=some (Ob.st A8 x)/\(InK .i64 a.1.ID->(InK .i64 a.1.ID->(0:Int)<=a.1.ID)/\∃(h:a.1.ID.toNat<x.counts.length),∃(h:a.1.ID.toNat<x.counts.length),(x.counts[a.1.ID.toNat]=(0:Int)->{levels:=x.levels,Bs:=x.Bs,tables:=x.tables,counts:=x.counts,dead:=x.dead:Aa}=x/\∃(x:List Am),Ab H l (Ob.lp (Dy r)) b=some (Ob.st E0 x)/\(x.length+[{ID:=a.1.ID,Var:=a.1.Var,Lo:=a.1.Lo,Hi:=a.1.Hi,Refs:=a.1.Refs:Am}].length)*40<=140737488355328/\Ab (Ab H l (Ob.lp (Dy r))) b (Ob.st E0 (x++[{ID:=a.1.ID,Var:=a.1.Var,Lo:=a.1.Lo,Hi:=a.1.Hi,Refs:=a.1.Refs:Am}])) l=some (Ob.lp (Dy r))/\Q (true,()) (Ab (Ab (Ab H l (Ob.lp (Dy r))) b (Ob.st E0 (x++[{ID:=a.1.ID,Var:=a.1.Var,Lo:=a.1.Lo,Hi:=a.1.Hi,Refs:=a.1.Refs:Am}]))) l (Ob.lp r)))/\(¬x.counts[a.1.ID.toNat]=(0:Int)->{levels:=x.levels,Bs:=x.Bs,tables:=x.tables,counts:=x.counts,dead:=x.dead:Aa}=x/\Ab H l (Ob.lp (Dy r)) l=some (Ob.lp (Dy r))/\Q (true,()) (Ab (Ab H l (Ob.lp (Dy r))) l (Ob.lp r)))),x.Bs,()) (Ab (Ab H b (Ob.st E0 [])) l (Ob.lp r)) (λ(b2 io:Unit)(G:HY)=>(G l=some (Ob.lp r)/\∀(r':Loop),∃(x:List Am),Ab G l (Ob.lp r') b=some (Ob.st E0 x)/\(x.length<=9223372036854775807->∃(V:Nat->(List Am×Unit)×Nat×Unit->HP),(∃(n:Nat),V n ((x,()),0,()) (Dp (Ab G l (Ob.lp r')) b))/\∀(n:Nat)(x1:(List Am×Unit)×Nat×Unit)(H:HY),V n x1 H->(x1.2.1<x.length->x1.2.1<=9223372036854775807->∃(h:x1.2.1<x.length),∃(b:Nat),s=some b/\(∃(x2:Aa),H b=some (Ob.st A8 x2)/\(InK .i64 x[x1.2.1].Var->(InK .i64 x[x1.2.1].Var->(0:Int)<=x[x1.2.1].Var)/\∃(h1:x[x1.2.1].Var.toNat<x2.tables.length),∃(h2:x[x1.2.1].Var.toNat<x2.tables.length),{levels:=x2.levels,Bs:=x2.Bs,tables:=x2.tables,counts:=x2.counts,dead:=x2.dead:Aa}=x2/\Wp Y0 Gm E9 (x2.tables[x[x1.2.1].Var.toNat],x[x1.2.1].Lo,x[x1.2.1].Hi,()) H (λ(b:Int×Unit)_ G=>∃(b:Nat),s=some b/\∃(x3:Aa),G b=some (Ob.st A8 x3)/\{levels:=x3.levels,Bs:=x3.Bs,tables:=x3.tables,counts:=x3.counts,dead:=x3.dead:Aa}=x3/\Wp Y0 It Gk (x3.Bs,x[x1.2.1].ID,()) G (λ(b:Int×Unit)_ G=>x1.2.1+1<=(9223372036854775807:Nat)/\∃(m:Nat),m<n/\V m ((x1.1.1,()),x1.2.1+1,()) G) X) X))/\∃(x2:Aa),H b=some (Ob.st A8 x2)/\(InK .i64 x[x1.2.1].Var->(InK .i64 x[x1.2.1].Var->(0:Int)<=x[x1.2.1].Var)/\∃(h1:x[x1.2.1].Var.toNat<x2.tables.length),∃(h2:x[x1.2.1].Var.toNat<x2.tables.length),{levels:=x2.levels,Bs:=x2.Bs,tables:=x2.tables,counts:=x2.counts,dead:=x2.dead:Aa}=x2/\Wp Y0 Gm E9 (x2.tables[x[x1.2.1].Var.toNat],x[x1.2.1].Lo,x[x1.2.1].Hi,()) H (λ(b:Int×Unit)_ G=>∃(b:Nat),s=some b/\∃(x3:Aa),G b=some (Ob.st A8 x3)/\{levels:=x3.levels,Bs:=x3.Bs,tables:=x3.tables,counts:=x3.counts,dead:=x3.dead:Aa}=x3/\Wp Y0 It Gk (x3.Bs,x[x1.2.1].ID,()) G (λ(b:Int×Unit)_ G=>x1.2.1+1<=(9223372036854775807:Nat)/\∃(m:Nat),m<n/\V m ((x1.1.1,()),x1.2.1+1,()) G) X) X))/\(¬x1.2.1<x.length->∃(b:Nat),s=some b/\∃(x:Aa),H b=some (Ob.st A8 x)/\(x1.1.1.length<=9223372036854775807->Q ((↑x1.1.1.length:Int),()) () (Ab H b (Ob.st A8 {x with dead:=(0:Int)}))))))∨G l=some (Ob.lp (Vy r Code.ret))/\∀(r':Loop),Q (0,()) () (Ab G l (Ob.lp r'))) X))
theorem Vv s H Q X(hyp_:Om s H Q X):Wp Y0 D7 Dg (s,()) H Q X:=wFS Tryz.f207 {lp:=[(9,⟨[(3,.blk [.dat (.sl (.u 13))]),(37,.nat)],[1,35,36],true⟩)],pr:=[(3,46)],im:=[1],il:=ilT,tk:=[35]} (by kernel_rfl) hyp_ (by kernel_rfl)
def Aed(vars room:Int)(H:HY)(Q:Option Nat×Int×Unit->UU)(X:PX):Prop:=(vars<0->Q (none,2,()) () H)/\(¬vars<0->((64:Int)<vars->Q (none,2,()) () H)/\(¬(64:Int)<vars->Wp Y0 Aag Uq (room,()) H (λ(b:Option Nat×Int×Unit)_ G=>(¬b.2.1=(0:Int)->Q (none,b.2.1,()) () G)/\(¬¬b.2.1=(0:Int)->Wp Y0 Q2 Np (vars,()) G (λ(b1:List Int×Unit)_ G=>Wp Y0 Q2 Np (vars,()) G (λ(b2:List Int×Unit)_ G=>∀(b3:Nat),G b3=none->∀(b4:Nat),Ab G b3 (Ob.st Eb {vars:=b1.1,level:=b2.1:Bd}) b4=none->∃(V:Nat->Nat×Unit->HP),(∃(n:Nat),V n (0,()) (Ab (Ab G b3 (Ob.st Eb {vars:=b1.1,level:=b2.1:Bd})) b4 (Ob.st A8 {levels:=some b3,Bs:=b.1,tables:=[],counts:=[],dead:=(0:Int):Aa})))/\∀(n:Nat)(x:Nat×Unit)(H:HY),V n x H->((↑x.1:Int)<vars->(∃(x1:Aa),H b4=some (Ob.st A8 x1)/\∀(b:Nat),Dp H b4 b=none->Ab (Dp H b4) b (Ob.st Ct {ids:=[]:Ay}) b4=none->(x1.tables.length+[some b].length)*8<=140737488355328/\x.1+1<=9223372036854775807/\∃(m:Nat),m<n/\V m (x.1+1,()) (Ab (Kk (Ab (Dp H b4) b (Ob.st Ct {ids:=[]:Ay})) b4 (H b4)) b4 (Ob.st A8 {x1 with tables:=x1.tables++[some b]})))/\∀(b:Nat),H b=none->(∃(x1:Aa),Ab H b (Ob.st Ct {ids:=[]:Ay}) b4=some (Ob.st A8 x1)/\(x1.tables.length+[some b].length)*8<=140737488355328/\x.1+1<=9223372036854775807/\∃(m:Nat),m<n/\V m (x.1+1,()) (Ab (Ab H b (Ob.st Ct {ids:=[]:Ay})) b4 (Ob.st A8 {x1 with tables:=x1.tables++[some b]})))/\∃(x1:Aa),Ab H b (Ob.st Ct {ids:=[]:Ay}) b4=some (Ob.st A8 x1)/\(x1.tables.length+[some b].length)*8<=140737488355328/\x.1+1<=9223372036854775807/\∃(m:Nat),m<n/\V m (x.1+1,()) (Ab (Ab H b (Ob.st Ct {ids:=[]:Ay})) b4 (Ob.st A8 {x1 with tables:=x1.tables++[some b]})))/\(¬(↑x.1:Int)<vars->Q (some b4,0,()) () H)) X) X)) X))
theorem An9 vars room H Q X(hyp_:Aed vars room H Q X):Wp Y0 W7 Sb (vars,room,()) H Q X:=wF Tryz.f80 {lp:=[(8,⟨[(31,.nat)],[4,30],true⟩)],pr:=[(26,2),(29,3)],il:=ilT,oc:=[38]} (by kernel_rfl) hyp_ (by kernel_rfl)
end
section
structure MeI(m:Ce):Prop where
 s1:1<=m.size
 s2:m.size<=65536
 en:∀xs,m.entries=some xs->1<=xs.length/\xs.length<=65536
def Ajg(m:Ce)(e:B5):Prop:=∃xs,m.entries=some xs/\e∈xs
theorem Al8{x:Int}:InK .u64 x↔0<=x/\x<=18446744073709551615:=by
 have h1:IntKind.u64.min=0:=by decide
 have h2:IntKind.u64.max=18446744073709551615:=by decide
 unfold InK;rw[h1,h2]
theorem wrap_u64{L:Nat}(h:L<=65536):IntKind.u64.wrap (L:Int)=L:=Hc (Al8.2 (by omega))
theorem Alz{x:Int}{L:Nat}(hx:InK .u64 x)(h1:1<=L)(h2:L<=65536):¬(IntKind.u64.wrap (L:Int))=0/\InK .u64 (x.tmod (IntKind.u64.wrap (L:Int)))/\0<=x.tmod (IntKind.u64.wrap (L:Int))/\(x.tmod (IntKind.u64.wrap (L:Int))).toNat<L:=by rw[wrap_u64 h2];obtain⟨h3,h4⟩:=Al8.1 hx;have h5:x.tmod L=x%L:=Int.tmod_eq_emod_of_nonneg h3;have h6:0<=x%(L:Int):=Int.emod_nonneg _ (by omega);have h7:x%(L:Int)<L:=Int.emod_lt_of_pos _ (by omega);rw[h5];exact⟨by omega,Al8.2 (by omega),h6,by omega⟩
variable {bm:Nat} {m:Ce} {H:HY} {X:PX}
theorem Aoc{op a b c:Int}{Q:Int×Bool×Unit->UU}(hm:H bm=some (.st Da m))(hI:MeI m)(h0:∀m',m'.entries=m.entries->m'.size=m.size->Q (0,false,()) () (Ab H bm (.st Da m')))(h1:∀m' e,m'.entries=m.entries->m'.size=m.size->Ajg m e->e.full=true->e.key=⟨op,⟨a,b,c⟩⟩->Q (e.r,true,()) () (Ab H bm (.st Da m'))):Wp Y0 Jn G8 (some bm,op,a,b,c,()) H Q X:=by
 refine Ae1 _ _ _ _ _ _ _ _ ?_;unfold Vh;refine⟨λh=>absurd h (by simp),λ_=>⟨bm,rfl,m,hm,λhn=>⟨λ_=>h0 _ hn.symm rfl,λh=>absurd rfl h⟩,λxs hxs hlen=>?_⟩⟩;have hL:=hI.en xs hxs;refine⟨λh=>?_,λ_ hop=>?_⟩
 .have h':xs.length=0:=h;omega
 refine⟨λn x H'=>H'=Ab H bm (.st Da {size:=m.size,entries:=some xs,asked:=Go.IntKind.wrap .i64 (m.asked+1),found:=m.found})/\n=3-x.2.1/\x.2.1<=3,⟨3,rfl,rfl,Nat.zero_le _⟩,?_⟩;rintro n ⟨x,k,_⟩ H' ⟨rfl,hn0,hk0⟩;have hn:n=3-k:=hn0;have hk:k<=3:=hk0;refine⟨λhk3 _=>?_,λhk3=>?_⟩
 .have hk3':k<3:=hk3;refine⟨by show k<3;exact hk3',λ_ _ _ _ hw=>⟨λ_=>hw,by decide,λ_ _=>⟨by show k+1<=_;omega,2-k,by omega,rfl,by show 2-k=3-(k+1);omega,by show k+1<=3;omega⟩⟩⟩
 .refine⟨_,Aj _ _ _,λh=>(by cases h),λys hys _ hx _=>?_⟩;cases hys;obtain⟨i1,i2,i3,i4⟩:=Alz hx hL.1 hL.2;refine⟨i1,i2,λ_=>⟨λ_=>i3,i4,i4,λ_=>⟨rfl,h0 _ hxs.symm rfl⟩,λhf=>⟨i4,λ_=>⟨rfl,h0 _ hxs.symm rfl⟩,λhk=>⟨i4,?_⟩⟩⟩⟩;rw[Akc];have hf':=Classical.not_not.1 hf;have hk':=Classical.not_not.1 hk;refine h1 _ _ hxs.symm rfl ⟨xs,hxs,List.getElem_mem i4⟩ hf' ?_;exact hk'
theorem Aob{op a b c r:Int}{Q:Unit->UU}(hm:H bm=some (.st Da m))(hI:MeI m)(h:∀m',MeI m'->(∀e,Ajg m' e->e.full=true->Ajg m e∨e=⟨⟨op,⟨a,b,c⟩⟩,r,true⟩)->Q () () (Ab H bm (.st Da m'))):Wp Y0 Jm G7 (some bm,op,a,b,c,r,()) H Q X:=by
 refine Ae0 _ _ _ _ _ _ _ _ _ ?_;unfold Vg;have key:∀(xs:List B5),1<=xs.length/\xs.length<=65536->(∀e∈xs,e.full=true->Ajg m e)->∀(j:Nat),j<xs.length->Q () () (Ab (Ab H bm (.st Da {size:=m.size,entries:=some xs,asked:=m.asked,found:=m.found})) bm (.st Da {size:=m.size,entries:=some (xs.set j ⟨⟨op,⟨a,b,c⟩⟩,r,true⟩),asked:=m.asked,found:=m.found})):=λxs hL hin j hj=>by
  rw[Akc];refine h _ ⟨hI.s1,hI.s2,λys hys=>?_⟩ λe⟨ys,hys,he⟩hf=>?_
  .cases hys;simpa using hL
  .cases hys;rcases List.mem_or_eq_of_mem_set he with he|he
   .exact .inl (hin e he hf)
   .exact .inr he
 refine⟨λh=>absurd h (by simp),λ_=>⟨bm,rfl,m,hm,λhn=>⟨trivial,λ_ _=>?_⟩,λxs hxs=>?_⟩⟩
 .have s1:=hI.s1;have s2:=hI.s2;refine⟨by omega,rfl,by omega,?_⟩;have hL:1<=(List.replicate m.size.toNat (⟨⟨0,⟨0,0,0⟩⟩,0,false⟩:B5)).length/\(List.replicate m.size.toNat (⟨⟨0,⟨0,0,0⟩⟩,0,false⟩:B5)).length<=65536:=by simp only[List.length_replicate];omega
  have hin:∀e∈List.replicate m.size.toNat (⟨⟨0,⟨0,0,0⟩⟩,0,false⟩:B5),e.full=true->Ajg m e:=λe he hf=>by rw[List.eq_of_mem_replicate he]at hf;cases hf
  generalize List.replicate m.size.toNat (⟨⟨0,⟨0,0,0⟩⟩,0,false⟩:B5)=xs at hL hin;constructor <;>
  .intro hop;refine⟨λn x H'=>H'=Ab H bm (.st Da {size:=m.size,entries:=some xs,asked:=m.asked,found:=m.found})/\n=3-x.2.1/\x.2.1<=3,⟨3,rfl,rfl,Nat.zero_le _⟩,?_⟩;rintro n ⟨x,k,_⟩ H' ⟨rfl,hn0,hk0⟩;have hn:n=3-k:=hn0;have hk:k<=3:=hk0;refine⟨λhk3 _=>?_,λhk3=>?_⟩
   .have hk3':k<3:=hk3;refine⟨by show k<3;exact hk3',λ_ _ _ _ hw=>⟨λ_=>hw,by decide,λ_ _=>⟨by show k+1<=_;omega,2-k,by omega,rfl,by show 2-k=3-(k+1);omega,by show k+1<=3;omega⟩⟩⟩
   .refine⟨_,Aj _ _ _,λh=>(by cases h),λys hys _ hx _=>?_⟩;cases hys;obtain⟨i1,i2,i3,i4⟩:=Alz hx hL.1 hL.2;exact⟨i1,i2,λ_=>⟨λ_=>i3,i4,i4,key xs hL hin _ i4⟩⟩
 .have hL:=hI.en xs hxs;have hin:∀e∈xs,e.full=true->Ajg m e:=λe he _=>⟨xs,hxs,he⟩
  refine⟨λh=>by rw[h]at hL;simp at hL,?_⟩;constructor <;>
  .intro hop;refine⟨λn x H'=>H'=Ab H bm (.st Da {size:=m.size,entries:=some xs,asked:=m.asked,found:=m.found})/\n=3-x.2.1/\x.2.1<=3,⟨3,rfl,rfl,Nat.zero_le _⟩,?_⟩;rintro n ⟨x,k,_⟩ H' ⟨rfl,hn0,hk0⟩;have hn:n=3-k:=hn0;have hk:k<=3:=hk0;refine⟨λhk3 _=>?_,λhk3=>?_⟩
   .have hk3':k<3:=hk3;refine⟨by show k<3;exact hk3',λ_ _ _ _ hw=>⟨λ_=>hw,by decide,λ_ _=>⟨by show k+1<=_;omega,2-k,by omega,rfl,by show 2-k=3-(k+1);omega,by show k+1<=3;omega⟩⟩⟩
   .refine⟨_,Aj _ _ _,λh=>(by cases h),λys hys _ hx _=>?_⟩;cases hys;obtain⟨i1,i2,i3,i4⟩:=Alz hx hL.1 hL.2;exact⟨i1,i2,λ_=>⟨λ_=>i3,i4,i4,key xs hL hin _ i4⟩⟩
theorem Tc{Q:Unit->UU}(hm:H bm=some (.st Da m))(hI:MeI m)(h:∀m',MeI m'->(∀e,Ajg m' e->e.full=false)->Q () () (Ab H bm (.st Da m'))):Wp Y0 Hl Fx (some bm,()) H Q X:=by
 refine Abv _ _ _ _ ?_;refine⟨λ_=>⟨bm,rfl,m,hm,λhn=>?_,λxs hxs=>?_⟩,λh=>absurd (by simp) h⟩
 .have e:({size:=m.size,entries:=none,asked:=m.asked,found:=m.found}:Ce)=m:=by cases m;cases hn;rfl
  refine⟨e,?_⟩;have:=h m hI λe⟨xs,hxs,_⟩=>by rw[hn]at hxs;cases hxs
  rwa [Q5 hm]at this
 .have hL:=hI.en xs hxs;refine h _ ⟨hI.s1,hI.s2,λys hys=>?_⟩ λe⟨ys,hys,he⟩=>?_
  .cases hys;simpa using hL
  .cases hys;rw[List.eq_of_mem_replicate he]
end
section
theorem Sm{e:Int}{H:HY}{X:PX}{Q:Int×Unit->UU}(h:Q (B.flip e,()) () H):Wp Y0 G9 F3 (e,()) H Q X:=by refine Ae5 _ _ _ _ λhk=>?_;rw[Apj hk];exact h
def Gd(F G H:B.Fn):B.Fn:=λa=>if F a then G a else H a
section
variable {n:Int} {lv:Int->Int} {N:B.Tb}
def At(n:Int)(lv:Int->Int)(N:B.Tb)(k e:Int):Prop:=B.Ok N e/\k<=B.el n lv N e
variable {k:Int}
theorem At.flip{e:Int}(h:At n lv N k e):At n lv N k (B.flip e):=⟨h.1.flip,by rw[B.A10];exact h.2⟩
theorem At.fl{e s:Int}(h:At n lv N k e):At n lv N k (B.fl e s):=⟨h.1.fl,by rw[B.Qv];exact h.2⟩
theorem Amt(h:k<=n):At n lv N k 0:=⟨B.Aff,by rw[B.Dt (by decide)];exact h⟩
theorem at_one(h:k<=n):At n lv N k 1:=⟨B.ok_one,by rw[B.Dt (by decide)];exact h⟩
end
theorem Ao7{n k:Int}{lv:Int->Int}{N:B.Tb}{f g h:Int}{H:HY}{X:PX}{Q:Int×Int×Int×Bool×Int×Bool×Unit->UU}(hk:k<=n)(hf:At n lv N k f)(hg:At n lv N k g)(hh:At n lv N k h)(h1:∀r,At n lv N k r->B.den N r=Gd (B.den N f) (B.den N g) (B.den N h)->Q (0,0,0,false,r,true,()) () H)(h2:∀a b c t,At n lv N k a->At n lv N k b->At n lv N k c->a/2≠0->(∀x,Gd (B.den N a) (B.den N b) (B.den N c) x=(t ^^ Gd (B.den N f) (B.den N g) (B.den N h) x))->Q (a,b,c,t,0,false,()) () H):Wp Y0 Aaj Uv (f,g,h,()) H Q X:=by
 refine Aq3 _ _ _ _ _ _ ?_;unfold Ahm;refine⟨λx H'=>H'=H/\At n lv N k x.1/\∀a,B.den N f a=true->B.den N x.1 a=B.den N g a,?_,λe=>⟨rfl,Amt hk,λa ha=>?_⟩,λhne=>Sm ⟨λe=>⟨rfl,at_one hk,λa ha=>?_⟩,λ_=>⟨rfl,hg,λ_ _=>rfl⟩⟩⟩
 .rintro⟨x,_⟩ H' ⟨rfl,hx0,hxe0⟩;have hx:At n lv N k x:=hx0;have hxe:∀a,B.den N f a=true->B.den N x a=B.den N g a:=hxe0;refine⟨λy H''=>H''=H'/\At n lv N k y.1/\∀a,B.den N f a=false->B.den N y.1 a=B.den N h a,?_,λe=>⟨rfl,at_one hk,λa ha=>?_⟩,λhne=>Sm ⟨λe=>⟨rfl,Amt hk,λa ha=>?_⟩,λ_=>⟨rfl,hh,λ_ _=>rfl⟩⟩⟩
  .rintro⟨y,_⟩ H'' ⟨rfl,hy0,hye0⟩;have hy:At n lv N k y:=hy0;have hye:∀a,B.den N f a=false->B.den N y a=B.den N h a:=hye0;have hI:Gd (B.den N f) (B.den N g) (B.den N h)=Gd (B.den N f) (B.den N x) (B.den N y):=by
    funext a;unfold Gd;by_cases ha:B.den N f a=true
    .rw[if_pos ha,if_pos ha,hxe a ha]
    .rw[if_neg ha,if_neg ha,hye a (by simpa using ha)]
   rw[hI]at h1;simp only[hI]at h2;refine⟨λe=>h1 x hx ?_,λhf0=>⟨λe=>h1 x hx ?_,λhxy=>⟨λe=>h1 y hy ?_,λhf1=>⟨λe=>h1 f hf ?_,λhn1=>⟨λe=>Sm (h1 _ hf.flip ?_),λhn2=>⟨λhneg=>Sm ?_,λhneg=>?_⟩⟩⟩⟩⟩⟩
   .funext a;unfold Gd;rw[e,B.Pq];rfl
   .funext a;unfold Gd;have e':x=y:=e;rw[<-e'];split<;>rfl
   .funext a;unfold Gd;rw[e,B.Jo];rfl
   .injection e with e1 e2;have e1':x=0:=e1;have e2':y=1:=e2
    funext a;unfold Gd;rw[e1',e2',B.Pq,B.Jo];cases B.den N f a<;>rfl
   .injection e with e1 e2;have e1':x=1:=e1;have e2':y=0:=e2
    funext a;unfold Gd;rw[e1',e2',B.Pq,B.Jo,B.Rw hf.1];cases hfa:B.den N f a<;>simp [hfa]
   .have hf2:f/2≠0:=by have:=hf.1.1;omega
    show Q (B.flip f,A7 y (Bt y),A7 x (Bt y),Bt y,0,false,()) () H'';rw[Pl hy.1.1,Pl hy.1.1,Aqm hy.1.1];refine h2 _ _ _ _ hf.flip hy.fl hx.fl (by rw[B.Rr];exact hf2) λa=>?_;unfold Gd;rw[B.Rw hf.1,B.N6 hy.1,B.N6 hx.1];cases hfa:B.den N f a<;>simp [hfa]
   .have hf2:f/2≠0:=by have:=hf.1.1;omega
    show Q (f,A7 x (Bt x),A7 y (Bt x),Bt x,0,false,()) () H'';rw[Pl hx.1.1,Pl hx.1.1,Aqm hx.1.1];refine h2 _ _ _ _ hf hx.fl hy.fl hf2 λa=>?_;unfold Gd;rw[B.N6 hx.1,B.N6 hy.1];cases hfa:B.den N f a<;>simp [hfa]
  .have e':h=f:=e;show B.den N 1 a=B.den N h a;rw[e',ha,B.Jo]
  .have e':h=B.flip f:=e;show B.den N 0 a=B.den N h a;rw[e',B.Rw hf.1,B.Pq];show true=!(B.den N f a);rw[ha];rfl
 .have e':g=f:=e;show B.den N 0 a=B.den N g a;rw[e',ha,B.Pq]
 .have e':g=B.flip f:=e;show B.den N 1 a=B.den N g a;rw[e',B.Rw hf.1,B.Jo];show false=!(B.den N f a);rw[ha];rfl
end
section
abbrev Mn.T(M:Mn):B.Tb:=tbl M.S.po
abbrev Mn.lv(M:Mn):Int->Int:=lvA M.S.lv
structure MEn(M:Mn)(f g h r:Int):Prop where
 of:B.Ok M.T f
 og:B.Ok M.T g
 oh:B.Ok M.T h
 or:B.Ok M.T r
 den:B.den M.T r=Gd (B.den M.T f) (B.den M.T g) (B.den M.T h)
 lev:∀k,k<=B.el M.S.n M.lv M.T f->k<=B.el M.S.n M.lv M.T g->k<=B.el M.S.n M.lv M.T h->k<=B.el M.S.n M.lv M.T r
structure MV(M:Mn):Prop where
 me:MeI M.me
 en:∀e,Ajg M.me e->e.full=true->e.key.op=1->MEn M e.key.De.a0 e.key.De.a1 e.key.De.a2 e.r
variable {e:Int}
theorem R9{S S':Sto}(h:Ni S S')(he:B.Ok (tbl S.po) e):B.el S'.n (lvA S'.lv) (tbl S'.po) e=B.el S.n (lvA S.lv) (tbl S.po) e:=by rw[h.n,h.lv];exact B.Xd h.tbl he
variable {M M':Mn} {f h:Int}
theorem MEn.ext{g r:Int}(hI:SI M.S)(e:Ni M.S M'.S)(k:MEn M f g h r):MEn M' f g h r where
 of:=k.of.ext e.tbl
 og:=k.og.ext e.tbl
 oh:=k.oh.ext e.tbl
 or:=k.or.ext e.tbl
 den:=by show B.den (tbl M'.S.po) r=Gd (B.den (tbl M'.S.po) f) (B.den (tbl M'.S.po) g) (B.den (tbl M'.S.po) h);rw[e.den hI k.of,e.den hI k.og,e.den hI k.oh,e.den hI k.or];exact k.den
 lev j h1 h2 h3:=by have h1:j<=B.el M'.S.n (lvA M'.S.lv) (tbl M'.S.po) f:=h1;have h2:j<=B.el M'.S.n (lvA M'.S.lv) (tbl M'.S.po) g:=h2;have h3:j<=B.el M'.S.n (lvA M'.S.lv) (tbl M'.S.po) h:=h3;rw[R9 e k.of]at h1;rw[R9 e k.og]at h2;rw[R9 e k.oh]at h3;show j<=B.el M'.S.n (lvA M'.S.lv) (tbl M'.S.po) r;rw[R9 e k.or];exact k.lev j h1 h2 h3
theorem MV.ext(h:MV M)(hI:SI M.S)(e:Ni M.S M'.S)(hm:M'.me=M.me):MV M':=
 ⟨by rw[hm];exact h.me,λen hin hf ho=>by rw[hm]at hin;exact(h.en en hin hf ho).ext hI e⟩
structure Stp(M M':Mn):Prop where
 bs:F8 M M'
 se:Ni M.S M'.S
 si:SI M'.S
 hs:M'.hs=M.hs
 nx:M'.nx=M.nx
 mv:MV M'
theorem F8.refl:F8 M M:=⟨rfl,rfl,rfl,rfl,rfl⟩
variable {M'':Mn}
theorem F8.trans(h:F8 M M')(k:F8 M' M''):F8 M M'':=⟨k.sb.trans h.sb,k.mb.trans h.mb,k.bl.trans h.bl,k.bp.trans h.bp,k.tb.trans h.tb⟩
theorem Stp.refl(h:SI M.S)(v:MV M):Stp M M:=⟨.refl,.refl,h,rfl,rfl,v⟩
theorem Stp.trans(h:Stp M M')(k:Stp M' M''):Stp M M'':=⟨h.bs.trans k.bs,h.se.trans k.se,k.si,k.hs.trans h.hs,k.nx.trans h.nx,k.mv⟩
def R3(M M':Mn)(F:B.Fn):Prop:=∀R,F∈R->B.Aat M.S.n M.lv M.T R->B.Aat M'.S.n M'.lv M'.T R
theorem R3.refl{F:B.Fn}:R3 M M F:=λ_ _ h=>h
theorem R3.trans{F:B.Fn}(h:R3 M M' F)(k:R3 M' M'' F):R3 M M'' F:=λR hF hc=>k R hF (h R hF hc)
def Aje(M M':Mn)(l:Lf Y0.D):Prop:=(l=A0z 7/\M'.ws=M.ws/\M'.S.po.many=M'.S.po.room)∨∃ev,l=pEv ev/\M.ws=ev::M'.ws
abbrev Mn.At(M:Mn)(k e:Int):Prop:=YtcbkbpjlbmalmaaGreatDoor.At M.S.n M.lv M.T k e
theorem Stp.at(h:Stp M M'){k:Int}(a:M.At k e):M'.At k e:=⟨a.1.ext h.se.tbl,by have:=R9 h.se a.1;show k<=B.el M'.S.n (lvA M'.S.lv) (tbl M'.S.po) e;rw[this];exact a.2⟩
theorem Stp.den(h:Stp M M')(hI:SI M.S)(a:B.Ok M.T e):B.den M'.T e=B.den M.T e:=h.se.den hI a
theorem Stp.lv(h:Stp M M'):M'.lv=M.lv:=by show lvA _=lvA _;rw[h.se.lv]
theorem Stp.n(h:Stp M M'):M'.S.n=M.S.n:=h.se.n
def Mn.wm(M:Mn)(m:Ce):Mn:={M with me:=m}
theorem CxH.Awo{H:HY}{c b:Nat}(hC:CxH H c b M)(m:Ce):CxH (Ab H M.mb (.st Da m)) c b (M.wm m)/\FrM b M H (Ab H M.mb (.st Da m)):=by
 refine⟨⟨?_,?_,?_,Aj _ _ _⟩,λx _ a2 _ _ _ _=>Ad _ _ a2⟩
 .rw[Ad _ _ (By hC.cx hC.man.me (by decide))];exact hC.cx
 .rw[Ad _ _ (By hC.man.ob hC.man.me (by decide))];exact hC.man.ob
 .exact hC.man.st.other hC.man.me (by decide) (by decide) (by decide) (by decide)
theorem Ayd{n:Int}{lv:Int->Int}{N:B.Tb}(g:B.Good n lv N){g' v:Int}{c:Bool}(hv:0<=v/\v<n){f1 g1 h1:Int}(a1:B.Ok N f1)(a2:B.Ok N g1)(a3:B.Ok N h1)(l1:lv v<B.el n lv N f1)(l2:lv v<B.el n lv N g1)(l3:lv v<B.el n lv N h1)(e1:∀a,a v=c->B.den N f a=B.den N f1 a)(e2:∀a,a v=c->B.den N g' a=B.den N g1 a)(e3:∀a,a v=c->B.den N h a=B.den N h1 a)(a:B.As):Gd (B.den N f1) (B.den N g1) (B.den N h1) a=Gd (B.den N f) (B.den N g') (B.den N h) (B.Ank a v c):=by unfold Gd;rw[e1 _ B.Xt,e2 _ B.Xt,e3 _ B.Xt,g.X9 a1 hv.1 hv.2 l1,g.X9 a2 hv.1 hv.2 l2,g.X9 a3 hv.1 hv.2 l3]
theorem Ag5{n:Int}{lv:Int->Int}{N:B.Tb}(g:B.Good n lv N){k g':Int}(h1:At n lv N k f)(h2:At n lv N k g')(h3:At n lv N k h):B.Dep n lv k (Gd (B.den N f) (B.den N g') (B.den N h)):=λa b hab=>by unfold Gd;rw[g.dep h1.1 h1.2 a b hab,g.dep h2.1 h2.2 a b hab,g.dep h3.1 h3.2 a b hab]
end
section
def Atw(c b d:Nat):Prop:=∀(k:Int)(M:Mn)(H:HY)(f g h:Int)(F:B.Fn)(X:PX)(Q:Int×Unit->UU),CxH H c b M->SI M.S->MV M->M.S.n-k<=d->k<=M.S.n->M.At k f->M.At k g->M.At k h->B.Cof M.lv k F (Gd (B.den M.T f) (B.den M.T g) (B.den M.T h))->(∀M' H' l,CxH H' c b M'->Stp M M'->R3 M M' F->FrM b M H H'->Aje M M' l->X 231 l H')->(∀e M' H',CxH H' c b M'->Stp M M'->R3 M M' F->FrM b M H H'->M'.ws=M.ws->M'.At k e->B.den M'.T e=Gd (B.den M.T f) (B.den M.T g) (B.den M.T h)->Q (e,()) () H')->Wp Y0 Ec Dv (some c,f,g,h,()) H Q X
variable {M:Mn}
theorem Aje.step{M1 M':Mn}{l:Lf Y0.D}(hw:M1.ws=M.ws)(h:Aje M1 M' l):Aje M M' l:=by
 rcases h with ⟨h1,h2,h3⟩|⟨ev,h1,h2⟩
 .exact .inl ⟨h1,h2.trans hw,h3⟩
 .exact .inr ⟨ev,h1,by rw[<-hw];exact h2⟩
theorem Akl{c b:Nat}{v lo hi:Int}{F:B.Fn}{H:HY}{X:PX}{Q:Int×Unit->UU}(hC:CxH H c b M)(hI:SI M.S)(hV:MV M)(hv:0<=v/\v<M.S.n)(hlo:M.At (M.lv v+1) lo)(hhi:M.At (M.lv v+1) hi)(hcof:B.Cof M.lv (M.lv v) F (λa=>if a v=true then B.den M.T hi a else B.den M.T lo a))
  (hx:∀M' H' l,CxH H' c b M'->Stp M M'->R3 M M' F->FrM b M H H'->Aje M M' l->X 231 l H')
  (h:∀e M' H',CxH H' c b M'->Stp M M'->R3 M M' F->FrM b M H H'->M'.ws=M.ws->M'.At (M.lv v) e->B.den M'.T e=(λa=>if a v=true then B.den M.T hi a else B.den M.T lo a)->Q (e,()) () H') :
  Wp Y0 Hm Gh (some c,v,lo,hi,()) H Q X:=by
 refine Ay7 hC hI hv hlo.1 hhi.1 (Int.lt_of_lt_of_le (Int.lt_succ _) hlo.2) (Int.lt_of_lt_of_le (Int.lt_succ _) hhi.2) (λev ws H' hws hC' f1=>?_) (λH' hm hC' f1=>?_) (λe S' H' hC' hI' hE f1 ho hd hle hnew=>?_)
 .exact hx (M.we ws) H' _ hC' ⟨⟨rfl,rfl,rfl,rfl,rfl⟩,Ni.refl,hI,rfl,rfl,hV.ext hI Ni.refl rfl⟩ R3.refl f1 (.inr ⟨ev,rfl,hws⟩)
 .exact hx (M.wk M.S) H' _ hC' ⟨⟨rfl,rfl,rfl,rfl,rfl⟩,Ni.refl,hI,rfl,rfl,hV.ext hI Ni.refl rfl⟩ R3.refl f1 (.inl ⟨rfl,rfl,hm⟩)
 .have hS:Stp M (M.wk S'):=⟨⟨rfl,rfl,hE.bl,hE.bp,hE.tb⟩,hE,hI',rfl,rfl,hV.ext hI hE rfl⟩
  have hlv:(M.wk S').lv=M.lv:=hS.lv
  refine h e (M.wk S') H' hC' hS (λR hF hcov i d hi=>?_) f1 rfl ⟨ho,by show M.lv v<=B.el S'.n (lvA S'.lv) (tbl S'.po) e;rw[hE.n,hE.lv];exact hle⟩ hd
  rw[hlv,hS.n]
  rcases hnew i d hi with hi|⟨hi,hdv⟩
  .refine(hcov i d hi).imp id λ⟨g,hg,hc⟩=>⟨g,hg,?_⟩
   have hok:B.Ok M.T (2*i):=by have:=(hI.ib hi).1;exact⟨by omega,.inr ⟨d,by rw[show 2*i/2=i by omega];exact hi⟩⟩
   rw[hS.den hI hok];exact hc
  .refine .inr ⟨F,hF,?_⟩
   rw[hdv]
   have he:e=2*i∨e=B.flip (2*i):=by have:=ho.1;unfold B.flip;rw[if_pos (by omega)];omega
   have hok:B.Ok (M.wk S').T (2*i):=by
    rcases he with he|he
    .rw[<-he];exact ho
    .have:=ho.flip;rw[he,B.flip_flip]at this;exact this
   rcases he with he|he
   .rw[<-he]
    show B.Cof M.lv (M.lv v) F (B.den (tbl S'.po) e)
    rw[hd];exact hcof
   .have e2:B.den (M.wk S').T (2*i)=λa=>!(B.den (M.wk S').T e a):=by
     have h3:2*i=B.flip e:=by rw[he,B.flip_flip]
     rw[h3];exact B.Rw (N:=(M.wk S').T) ho
    rw[e2];refine B.Cof.not ?_;show B.Cof M.lv (M.lv v) F (B.den (tbl S'.po) e);rw[hd];exact hcof
theorem Aor{c b d:Nat}(ih:∀d',d'<d->Atw c b d'){k:Int}{H:HY}{f g h:Int}{F:B.Fn}{t:Bool}{X:PX}{Q:Int×Unit->UU}(hC:CxH H c b M)(hI:SI M.S)(hV:MV M)(hd:M.S.n-k<=d)(hf:M.At k f)(hg:M.At k g)(hh:M.At k h)(hnc:f/2≠0)(hcof:B.Cof M.lv k F (Gd (B.den M.T f) (B.den M.T g) (B.den M.T h)))(hx:∀M' H' l,CxH H' c b M'->Stp M M'->R3 M M' F->FrM b M H H'->Aje M M' l->X 231 l H')(hq:∀e M' H',CxH H' c b M'->Stp M M'->R3 M M' F->FrM b M H H'->M'.ws=M.ws->M'.At k e->B.den M'.T e=Gd (B.den M.T f) (B.den M.T g) (B.den M.T h)->Q (A7 e t,()) () H'):Wp Y0 Jn G8 (M.ob.Cs,1,f,g,h,()) H (λ(b_2:Int×Bool×Unit)_ H'=>
   (b_2.2.1=true->Q (A7 b_2.1 t,()) () H')/\
   (¬b_2.2.1=true->Wp Y0 N4 Lb (some c,[f,g,h],()) H' (λ(b_3:Int×Unit)_ H'=>
    Wp Y0 Dr Db (some c,f,b_3.1,()) H' (λ(b_4:Int×Int×Unit)_ H'=>
    Wp Y0 Dr Db (some c,g,b_3.1,()) H' (λ(b_5:Int×Int×Unit)_ H'=>
    Wp Y0 Dr Db (some c,h,b_3.1,()) H' (λ(b_6:Int×Int×Unit)_ H'=>
    Wp Y0 Ec Dv (some c,b_4.1,b_5.1,b_6.1,()) H' (λ(b_7:Int×Unit)_ H'=>
    Wp Y0 Ec Dv (some c,b_4.2.1,b_5.2.1,b_6.2.1,()) H' (λ(b_8:Int×Unit)_ H'=>
    Wp Y0 Hm Gh (some c,b_3.1,b_7.1,b_8.1,()) H' (λ(b_9:Int×Unit)_ H'=>
     ∃(x:Fk),H' c=some (Ob.st Gr x)/\∃(b:Nat),x.m=some b/\{m:=x.m:Fk}=x/\∃(x:Au),H' b=some (Ob.st Eo x)/\{store:=x.store,Cs:=x.Cs,Ah:=x.Ah,Az:=x.Az,waits:=x.waits,calls:=x.calls:Au}=x/\
      Wp Y0 Jm G7 (x.Cs,1,f,g,h,b_9.1,()) H' (λ(_ _:Unit)(H':HY)=>Q (A7 b_9.1 t,()) () H') X) X) X) X) X) X) X) X)) X:=by
 have hn:0<=M.S.n:=Sto.P4
 have wm:∀m',m'.entries=M.me.entries->m'.size=M.me.size->MV (M.wm m'):=λm' h1 h2=>⟨⟨by show 1<=m'.size;rw[h2];exact hV.me.s1,by show m'.size<=_;rw[h2];exact hV.me.s2,λxs hxs=>hV.me.en xs (by rw[<-h1];exact hxs)⟩,λe⟨xs,h3,h4⟩hf ho=>(hV.en e ⟨xs,by rw[<-h1];exact h3,h4⟩ hf ho).ext (M':=M.wm m') hI Ni.refl⟩
 have stp1:∀m',MV (M.wm m')->Stp M (M.wm m'):=λm' hv=>⟨⟨rfl,rfl,rfl,rfl,rfl⟩,Ni.refl,hI,rfl,rfl,hv⟩
 refine Aoc hC.man.me hV.me (λm' h1 h2=>⟨λh=>(by cases h),λ_=>?_⟩) λm' e h1 h2 hin hfu hkey=>⟨λ_=>?_,λh=>absurd rfl h⟩
 .obtain⟨c1,f1⟩:=hC.Awo m'
  have v1:=wm m' h1 h2
  have s1:=stp1 m' v1
  generalize Ab H M.mb (.st Da m')=H1 at c1 f1
  have hTI:SI (M.wm m').S:=hI
  refine Avd c1 hTI (by intro x hx;simp only[List.mem_cons,List.not_mem_nil,or_false]at hx;rcases hx with rfl|rfl|rfl;exact hf.1;exact hg.1;exact hh.1) λv w hT=>?_
  rcases hT with ⟨_,hT⟩|⟨v0,vn,_,hle,j,hj,_,hje⟩
  .exact absurd (hT 0 (by simp) (by simp)) hnc
  have lf:M.lv v<=B.el M.S.n M.lv M.T f:=hle 0 (by simp) (by simp)
  have lg:M.lv v<=B.el M.S.n M.lv M.T g:=hle 1 (by simp) (by simp)
  have lh:M.lv v<=B.el M.S.n M.lv M.T h:=hle 2 (by simp) (by simp)
  have hvn:0<=v/\v<M.S.n:=⟨v0,vn⟩
  have one:B.el M.S.n M.lv M.T f=M.lv v∨B.el M.S.n M.lv M.T g=M.lv v∨B.el M.S.n M.lv M.T h=M.lv v:=by
   have hj3:j<3:=hj;match j,hj3 with
   |0,_=>exact .inl hje
   |1,_=>exact .inr (.inl hje)
   |2,_=>exact .inr (.inr hje)
  have hkv:k<=M.lv v:=by have:=hf.2;have:=hg.2;have:=hh.2;rcases one with h|h|h<;>omega
  have hvlt:M.lv v<M.S.n:=(hI.C6.od.rng v v0 vn).2
  obtain⟨pf1,pf2,pf3,pf4,pf5,_⟩:=hI.C6.Nl hn hvn hf.1 lf
  obtain⟨pg1,pg2,pg3,pg4,pg5,_⟩:=hI.C6.Nl hn hvn hg.1 lg
  obtain⟨ph1,ph2,ph3,ph4,ph5,_⟩:=hI.C6.Nl hn hvn hh.1 lh
  refine Xg c1 hTI hf.1 (Xg c1 hTI hg.1 (Xg c1 hTI hh.1 ?_))
  change B.Ok M.T (B.sp M.T v f).1 at pf1
  generalize hF2:B.sp M.T v f=f2 at pf1 pf2 pf3 pf4 pf5
  generalize hG2:B.sp M.T v g=g2 at pg1 pg2 pg3 pg4 pg5
  generalize hH2:B.sp M.T v h=h2 at ph1 ph2 ph3 ph4 ph5
  have hF2':B.sp (tbl (M.wm m').S.po) v f=f2:=hF2
  have hG2':B.sp (tbl (M.wm m').S.po) v g=g2:=hG2
  have hH2':B.sp (tbl (M.wm m').S.po) v h=h2:=hH2
  rw[hF2',hG2',hH2']
  obtain⟨d',hd'⟩:∃d':Nat,(d':Int)=M.S.n-(M.lv v+1):=⟨(M.S.n-(M.lv v+1)).toNat,by omega⟩
  have hdd:d'<d:=by omega
  have a_:∀{x:Int},B.Ok M.T x->M.lv v<B.el M.S.n M.lv M.T x->M.At (M.lv v+1) x:=λh1 h2=>⟨h1,by omega⟩
  have cofs:∀(cc:Bool){f' g' h':Int},B.Ok M.T f'->B.Ok M.T g'->B.Ok M.T h'->M.lv v<B.el M.S.n M.lv M.T f'->M.lv v<B.el M.S.n M.lv M.T g'->M.lv v<B.el M.S.n M.lv M.T h'->
    (∀a,a v=cc->B.den M.T f a=B.den M.T f' a)->(∀a,a v=cc->B.den M.T g a=B.den M.T g' a)->(∀a,a v=cc->B.den M.T h a=B.den M.T h' a)->B.Cof M.lv (M.lv v+1) F (Gd (B.den M.T f') (B.den M.T g') (B.den M.T h')):=λcc f' g' h' o1 o2 o3 l1 l2 l3 e1 e2 e3=>
   hcof.set (v:=v) (c:=cc) (by omega) hkv (Ayd hI.C6 hvn o1 o2 o3 l1 l2 l3 e1 e2 e3) (Ag5 hI.C6 (a_ o1 l1) (a_ o2 l2) (a_ o3 l3))
  have lo0:∀{x x0 x1:Int},(∀a,B.den M.T x a=if a v=true then B.den M.T x1 a else B.den M.T x0 a)->∀a,a v=false->B.den M.T x a=B.den M.T x0 a:=λhh a ha=>by rw[hh a,ha];rfl
  have hi1:∀{x x0 x1:Int},(∀a,B.den M.T x a=if a v=true then B.den M.T x1 a else B.den M.T x0 a)->∀a,a v=true->B.den M.T x a=B.den M.T x1 a:=λhh a ha=>by rw[hh a,ha];rfl
  refine ih d' hdd (M.lv v+1) (M.wm m') H1 _ _ _ F _ _ c1 hTI v1 (by show M.S.n-_<=_;omega) (by show _<=M.S.n;omega) (a_ pf1 pf3) (a_ pg1 pg3) (a_ ph1 ph3) (cofs false pf1 pg1 ph1 pf3 pg3 ph3 (lo0 pf5) (lo0 pg5) (lo0 ph5)) (λM' H' l hC' hS' hcv hfr hp=>hx M' H' l hC' (s1.trans hS') hcv (f1.trans hfr ⟨rfl,rfl,rfl,rfl,rfl⟩) (hp.step rfl)) λlo M2 H2' c2 s2 cv2 fr2 w2 at2 den2=>?_
  have s12:=s1.trans s2
  have I2:=s2.si
  have den2':B.den M2.T lo=Gd (B.den M.T f2.1) (B.den M.T g2.1) (B.den M.T h2.1):=den2
  have n2:M2.S.n=M.S.n:=s12.n
  have lv2:M2.lv=M.lv:=s12.lv
  refine ih d' hdd (M.lv v+1) M2 H2' _ _ _ F _ _ c2 I2 s2.mv (by rw[n2];omega) (by rw[n2];omega) (s12.at (a_ pf2 pf4)) (s12.at (a_ pg2 pg4)) (s12.at (a_ ph2 ph4)) (by rw[lv2,s12.den hI pf2,s12.den hI pg2,s12.den hI ph2];exact cofs true pf2 pg2 ph2 pf4 pg4 ph4 (hi1 pf5) (hi1 pg5) (hi1 ph5)) (λM' H' l hC' hS' hcv hfr hp=>hx M' H' l hC' (s12.trans hS') (cv2.trans hcv) ((f1.trans fr2 ⟨rfl,rfl,rfl,rfl,rfl⟩).trans hfr s12.bs) (hp.step w2)) λhi M3 H3 c3 s3 cv3 fr3 w3 at3 den3=>?_
  have s13:=s12.trans s3
  have I3:=s3.si
  have n3:M3.S.n=M.S.n:=s13.n
  have lv3:M3.lv=M.lv:=s13.lv
  have den3':B.den M3.T hi=Gd (B.den M.T f2.2) (B.den M.T g2.2) (B.den M.T h2.2):=by rw[den3,s12.den hI pf2,s12.den hI pg2,s12.den hI ph2]
  have den2'':B.den M3.T lo=Gd (B.den M.T f2.1) (B.den M.T g2.1) (B.den M.T h2.1):=by rw[s3.den I2 at2.1];exact den2'
  have whole:(λa=>if a v=true then B.den M3.T hi a else B.den M3.T lo a)=Gd (B.den M.T f) (B.den M.T g) (B.den M.T h):=by funext a;rw[den3',den2''];unfold Gd;rw[pf5 a,pg5 a,ph5 a];cases a v<;>rfl
  have fr13:=((f1.trans fr2 ⟨rfl,rfl,rfl,rfl,rfl⟩).trans fr3 s12.bs)
  have atl:M3.At (M3.lv v+1) lo:=by rw[lv3];exact s3.at at2
  have ath:M3.At (M3.lv v+1) hi:=by rw[lv3];exact at3
  have dv:B.Dep M.S.n M.lv (M.lv v) (Gd (B.den M.T f) (B.den M.T g) (B.den M.T h)):=Ag5 hI.C6 ⟨hf.1,lf⟩ ⟨hg.1,lg⟩ ⟨hh.1,lh⟩
  refine Akl (F:=F) c3 I3 s3.mv (by rw[n3];exact hvn) atl ath (by rw[lv3,whole];exact hcof.A6e hkv dv) (λM' H' l hC' hS' hcv hfr hp=>hx M' H' l hC' (s13.trans hS') ((cv2.trans cv3).trans hcv) (fr13.trans hfr s13.bs) ((hp.step w3).step w2)) λe M4 H4 c4 s4 cv4 fr4 w4 at4 den4=>?_
  have s14:=s13.trans s4
  have fr14:=fr13.trans fr4 s13.bs
  have den4':B.den M4.T e=Gd (B.den M.T f) (B.den M.T g) (B.den M.T h):=by rw[den4,whole]
  have lv4:M4.lv=M.lv:=s14.lv
  have n4:M4.S.n=M.S.n:=s14.n
  have at4':M4.At k e:=⟨at4.1,by have:=at4.2;rw[lv3]at this;exact Int.le_trans hkv this⟩
  refine⟨⟨some b⟩,c4.cx,b,rfl,rfl,M4.ob,c4.man.ob,rfl,?_⟩
  refine Aob c4.man.me s4.mv.me λm4 hI4 hen=>?_
  obtain⟨c5,f5⟩:=c4.Awo m4
  have v5:MV (M4.wm m4):=⟨hI4,λen hin hfu ho=>by
   rcases hen en hin hfu with h|h
   .exact(s4.mv.en en h hfu ho).ext (M':=M4.wm m4) s4.si Ni.refl
   .subst h;refine⟨hf.1.ext s14.se.tbl,hg.1.ext s14.se.tbl,hh.1.ext s14.se.tbl,at4.1,?_,λj h1 h2 h3=>?_⟩
    .show B.den M4.T e=Gd (B.den M4.T f) (B.den M4.T g) (B.den M4.T h);rw[den4',s14.den hI hf.1,s14.den hI hg.1,s14.den hI hh.1]
    .have h1:j<=B.el M4.S.n (lvA M4.S.lv) (tbl M4.S.po) f:=h1;have h2:j<=B.el M4.S.n (lvA M4.S.lv) (tbl M4.S.po) g:=h2;have h3:j<=B.el M4.S.n (lvA M4.S.lv) (tbl M4.S.po) h:=h3;rw[R9 s14.se hf.1]at h1;rw[R9 s14.se hg.1]at h2;rw[R9 s14.se hh.1]at h3;show j<=B.el M4.S.n M4.lv M4.T e;have h4:=at4.2;rw[lv3]at h4;have h1:j<=B.el M.S.n M.lv M.T f:=h1;have h2:j<=B.el M.S.n M.lv M.T g:=h2;have h3:j<=B.el M.S.n M.lv M.T h:=h3;refine Int.le_trans ?_ h4;show j<=M.lv v;rcases one with h|h|h<;>omega⟩
  have s5:Stp M4 (M4.wm m4):=⟨⟨rfl,rfl,rfl,rfl,rfl⟩,Ni.refl,s4.si,rfl,rfl,v5⟩
  exact hq e (M4.wm m4) _ c5 (s14.trans s5) ((cv2.trans cv3).trans cv4) (fr14.trans f5 s14.bs) (w4.trans (w3.trans w2)) at4' den4'
 .obtain⟨c1,f1⟩:=hC.Awo m'
  have v1:=wm m' h1 h2
  have en:=hV.en e hin hfu (by rw[hkey])
  rw[hkey]at en
  refine hq e.r (M.wm m') _ c1 (stp1 m' v1) R3.refl f1 rfl ⟨en.or,en.lev k hf.2 hg.2 hh.2⟩ en.den
end
end Go.Proofs.YtcbkbpjlbmalmaaGreatDoor
