/-
  The store: Swap. (Merged by program out of 22 texts.)
-/
import Derived.Test.YtcbkbpjlbmalmaaGreatDoorTad
import Derived.Recover
import Derived.Shelf.SlSortCmp.NoneTotal
open List renaming mem_singleton->a4,mem_cons_self->a5,mem_of_mem_drop->a6,getElem?_eq_some_iff->a7,take_succ_eq_append_getElem->a8,drop_eq_getElem_cons->a9,mem_cons_of_mem->aa,mem_map_of_mem->ac,not_mem_nil->ad,length_map->ae,mem_append_left->ag,getElem?_set_ne->ah,replicate->aj,getElem?_set_self->al,map_append->am,mem_append->an,nodup_append->au,mem_cons->ax,getElem_mem->b6,mem_iff_getElem->b7,mem_map->b8,pairwise_map->ba,length_cons->bc,drop_eq_nil_of_le->be,append_nil->bg,nodup_cons->bh,take_append_drop->bi,mem_append_right->bj,nodup_nil->bk,map_cons->bn,append_assoc->bt,take_length->bu,length_take->bv,mapM_cons->bz,Perm.refl->c0,Nodup->c6,map_nil->cd
open Int renaming toNat->ai,lt_of_lt_of_le->bq,le_trans->br,le_of_lt->ce
open Nat renaming zero_le->ak,lt_of_lt_of_eq->b9,lt_or_ge->ca,le_of_eq->cb
open Option renaming some.inj->ap,bind_some->bb
open Array renaming getD_eq_getD_getElem?->aq,getElem?_append_left->av,getElem?_eq_some_iff->aw,getElem?_append->az,getElem?_modify->b0,getElem?_eq_none->bf,replicate->bw
open Classical renaming not_not->ay
open Prod renaming fst->cf
open Go.IntKind (u64)
namespace Go.Proofs.YtcbkbpjlbmalmaaGreatDoor
open Go Go.X Go.Y
section
set_option maxRecDepth 100000
set_option maxHeartbeats 2000000
def Ue(e:Int)(H:HY)(Q:Int×UT->UU)(_:PX):=IK e->Q (C3 BinOp.xor .i64 e 1,()) () H
theorem Ud e H Q X(h_:Ue e H Q X):qK Et DC (e,()) H Q X:=wF Tryz.f169 {} h_
def Nu(m:Option Nat)(op a b c:Int)(H:HY)(Q:Int×Bool×UT->UU)(_:PX):=(m=none->Q (0,false,()) () H)/\(¬m=none->∃(b1:Nat),m=some b1/\∃(x:B0),H b1=some (Ob.st BX x)/\(x.entries=none->(0=0->Q (0,false,()) () (Ab H b1 (Ob.st BX {x with entries:=none,asked:=Go.IntKind.wrap .i64 (x.asked+1)})))/\(¬0=0->IK op->∃(V:Nat->Int×Nat×UT->HP),(∃(n:Nat),V n (u64.wrap op,0,()) (Ab H b1 (Ob.st BX {x with entries:=none,asked:=Go.IntKind.wrap .i64 (x.asked+1)})))/\∀n x H,V n x H->(x.2.1<3->x.2.1<=2^63-1->∃(h:x.2.1<[a,b,c].length),IK [a,b,c][x.2.1]->Bn u64 x.1->Bn u64 (u64.wrap [a,b,c][x.2.1])->Bn u64 (C3 BinOp.xor u64 x.1 (u64.wrap [a,b,c][x.2.1]))->Bn u64 (u64.wrap (C3 BinOp.xor u64 x.1 (u64.wrap [a,b,c][x.2.1])*11400714819323198485))->(BinOp.shr=BinOp.shr->Bn u64 (u64.wrap (C3 BinOp.xor u64 x.1 (u64.wrap [a,b,c][x.2.1])*11400714819323198485)))/\(0:Int)<=29/\(Bn u64 (u64.wrap (C3 BinOp.xor u64 x.1 (u64.wrap [a,b,c][x.2.1])*11400714819323198485))->Bn u64 ((u64.wrap (C3 BinOp.xor u64 x.1 (u64.wrap [a,b,c][x.2.1])*11400714819323198485)).fdiv (2^min (ai (29:Int)) 64))->x.2.1+1<=2^63-1/\∃m,m<n/\V m (C3 BinOp.xor u64 (u64.wrap (C3 BinOp.xor u64 x.1 (u64.wrap [a,b,c][x.2.1])*11400714819323198485)) ((u64.wrap (C3 BinOp.xor u64 x.1 (u64.wrap [a,b,c][x.2.1])*11400714819323198485)).fdiv (2^min (ai (29:Int)) 64)),x.2.1+1,()) H))/\(¬x.2.1<3->∃(x1:B0),H b1=some (Ob.st BX x1)/\(x1.entries=none->Bn u64 x.1->Bn u64 (u64.wrap (↑0:Int))->¬u64.wrap (↑0:Int)=0/\Bn u64 (x.1.tmod (u64.wrap (↑0:Int)))/\False)/\∀(xs:List Bm),x1.entries=some xs->xs.length<=2^63-1->Bn u64 x.1->Bn u64 (u64.wrap (↑xs.length:Int))->¬u64.wrap (↑xs.length:Int)=0/\Bn u64 (x.1.tmod (u64.wrap (↑xs.length:Int)))/\(Bn u64 (x.1.tmod (u64.wrap (↑xs.length:Int)))->(Bn u64 (x.1.tmod (u64.wrap (↑xs.length:Int)))->(0:Int)<=x.1.tmod (u64.wrap (↑xs.length:Int)))/\∃(h:(x.1.tmod (u64.wrap (↑xs.length:Int))).toNat<xs.length),∃(h:(x.1.tmod (u64.wrap (↑xs.length:Int))).toNat<xs.length),(¬xs[(x.1.tmod (u64.wrap (↑xs.length:Int))).toNat].full->{x1 with entries:=some xs}=x1/\Q (0,false,()) () H)/\(¬¬xs[(x.1.tmod (u64.wrap (↑xs.length:Int))).toNat].full->∃(h:(x.1.tmod (u64.wrap (↑xs.length:Int))).toNat<xs.length),(¬{op:=xs[(x.1.tmod (u64.wrap (↑xs.length:Int))).toNat].key.op,Cj:={a0:=xs[(x.1.tmod (u64.wrap (↑xs.length:Int))).toNat].key.Cj.a0,a1:=xs[(x.1.tmod (u64.wrap (↑xs.length:Int))).toNat].key.Cj.a1,a2:=xs[(x.1.tmod (u64.wrap (↑xs.length:Int))).toNat].key.Cj.a2:AX}:CZ}={op:=op,Cj:={a0:=a,a1:=b,a2:=c:AX}:CZ}->{x1 with entries:=some xs}=x1/\Q (0,false,()) () H)/\(¬¬{op:=xs[(x.1.tmod (u64.wrap (↑xs.length:Int))).toNat].key.op,Cj:={a0:=xs[(x.1.tmod (u64.wrap (↑xs.length:Int))).toNat].key.Cj.a0,a1:=xs[(x.1.tmod (u64.wrap (↑xs.length:Int))).toNat].key.Cj.a1,a2:=xs[(x.1.tmod (u64.wrap (↑xs.length:Int))).toNat].key.Cj.a2:AX}:CZ}={op:=op,Cj:={a0:=a,a1:=b,a2:=c:AX}:CZ}->∃(h:(x.1.tmod (u64.wrap (↑xs.length:Int))).toNat<xs.length),Q (xs[(x.1.tmod (u64.wrap (↑xs.length:Int))).toNat].r,true,()) () (Ab H b1 (Ob.st BX {x1 with entries:=some xs,found:=Go.IntKind.wrap .i64 (x1.found+1)}))))))))/\∀(xs:List Bm),x.entries=some xs->xs.length<=2^63-1->(xs.length=0->Q (0,false,()) () (Ab H b1 (Ob.st BX {x with entries:=some xs,asked:=Go.IntKind.wrap .i64 (x.asked+1)})))/\(¬xs.length=0->IK op->∃(V:Nat->Int×Nat×UT->HP),(∃(n:Nat),V n (u64.wrap op,0,()) (Ab H b1 (Ob.st BX {x with entries:=some xs,asked:=Go.IntKind.wrap .i64 (x.asked+1)})))/\∀n x H,V n x H->(x.2.1<3->x.2.1<=2^63-1->∃(h:x.2.1<[a,b,c].length),IK [a,b,c][x.2.1]->Bn u64 x.1->Bn u64 (u64.wrap [a,b,c][x.2.1])->Bn u64 (C3 BinOp.xor u64 x.1 (u64.wrap [a,b,c][x.2.1]))->Bn u64 (u64.wrap (C3 BinOp.xor u64 x.1 (u64.wrap [a,b,c][x.2.1])*11400714819323198485))->(BinOp.shr=BinOp.shr->Bn u64 (u64.wrap (C3 BinOp.xor u64 x.1 (u64.wrap [a,b,c][x.2.1])*11400714819323198485)))/\(0:Int)<=29/\(Bn u64 (u64.wrap (C3 BinOp.xor u64 x.1 (u64.wrap [a,b,c][x.2.1])*11400714819323198485))->Bn u64 ((u64.wrap (C3 BinOp.xor u64 x.1 (u64.wrap [a,b,c][x.2.1])*11400714819323198485)).fdiv (2^min (ai (29:Int)) 64))->x.2.1+1<=2^63-1/\∃m,m<n/\V m (C3 BinOp.xor u64 (u64.wrap (C3 BinOp.xor u64 x.1 (u64.wrap [a,b,c][x.2.1])*11400714819323198485)) ((u64.wrap (C3 BinOp.xor u64 x.1 (u64.wrap [a,b,c][x.2.1])*11400714819323198485)).fdiv (2^min (ai (29:Int)) 64)),x.2.1+1,()) H))/\(¬x.2.1<3->∃(x1:B0),H b1=some (Ob.st BX x1)/\(x1.entries=none->Bn u64 x.1->Bn u64 (u64.wrap (↑0:Int))->¬u64.wrap (↑0:Int)=0/\Bn u64 (x.1.tmod (u64.wrap (↑0:Int)))/\False)/\∀(xs:List Bm),x1.entries=some xs->xs.length<=2^63-1->Bn u64 x.1->Bn u64 (u64.wrap (↑xs.length:Int))->¬u64.wrap (↑xs.length:Int)=0/\Bn u64 (x.1.tmod (u64.wrap (↑xs.length:Int)))/\(Bn u64 (x.1.tmod (u64.wrap (↑xs.length:Int)))->(Bn u64 (x.1.tmod (u64.wrap (↑xs.length:Int)))->(0:Int)<=x.1.tmod (u64.wrap (↑xs.length:Int)))/\∃(h:(x.1.tmod (u64.wrap (↑xs.length:Int))).toNat<xs.length),∃(h:(x.1.tmod (u64.wrap (↑xs.length:Int))).toNat<xs.length),(¬xs[(x.1.tmod (u64.wrap (↑xs.length:Int))).toNat].full->{x1 with entries:=some xs}=x1/\Q (0,false,()) () H)/\(¬¬xs[(x.1.tmod (u64.wrap (↑xs.length:Int))).toNat].full->∃(h:(x.1.tmod (u64.wrap (↑xs.length:Int))).toNat<xs.length),(¬{op:=xs[(x.1.tmod (u64.wrap (↑xs.length:Int))).toNat].key.op,Cj:={a0:=xs[(x.1.tmod (u64.wrap (↑xs.length:Int))).toNat].key.Cj.a0,a1:=xs[(x.1.tmod (u64.wrap (↑xs.length:Int))).toNat].key.Cj.a1,a2:=xs[(x.1.tmod (u64.wrap (↑xs.length:Int))).toNat].key.Cj.a2:AX}:CZ}={op:=op,Cj:={a0:=a,a1:=b,a2:=c:AX}:CZ}->{x1 with entries:=some xs}=x1/\Q (0,false,()) () H)/\(¬¬{op:=xs[(x.1.tmod (u64.wrap (↑xs.length:Int))).toNat].key.op,Cj:={a0:=xs[(x.1.tmod (u64.wrap (↑xs.length:Int))).toNat].key.Cj.a0,a1:=xs[(x.1.tmod (u64.wrap (↑xs.length:Int))).toNat].key.Cj.a1,a2:=xs[(x.1.tmod (u64.wrap (↑xs.length:Int))).toNat].key.Cj.a2:AX}:CZ}={op:=op,Cj:={a0:=a,a1:=b,a2:=c:AX}:CZ}->∃(h:(x.1.tmod (u64.wrap (↑xs.length:Int))).toNat<xs.length),Q (xs[(x.1.tmod (u64.wrap (↑xs.length:Int))).toNat].r,true,()) () (Ab H b1 (Ob.st BX {x1 with entries:=some xs,found:=Go.IntKind.wrap .i64 (x1.found+1)}))))))))
def Nt(m:Option Nat)(op a b c r:Int)(H:HY)(Q:UT->UU)(_:PX):=(m=none->Q () () H)/\(¬m=none->∃(b1:Nat),m=some b1/\∃(x:B0),H b1=some (Ob.st BX x)/\(x.entries=none->True/\(IK x.size->IK x.size->(0:Int)<=x.size/\x.size=x.size/\x.size.toNat*48<=281474976710656/\(IK op->∃(V:Nat->Int×Nat×UT->HP),(∃(n:Nat),V n (u64.wrap op,0,()) (Ab H b1 (Ob.st BX {x with entries:=some (aj x.size.toNat {key:={op:=0,Cj:={a0:=0,a1:=0,a2:=0:AX}:CZ},r:=0,full:=false:Bm})})))/\∀n x H,V n x H->(x.2.1<3->x.2.1<=2^63-1->∃(h:x.2.1<[a,b,c].length),IK [a,b,c][x.2.1]->Bn u64 x.1->Bn u64 (u64.wrap [a,b,c][x.2.1])->Bn u64 (C3 BinOp.xor u64 x.1 (u64.wrap [a,b,c][x.2.1]))->Bn u64 (u64.wrap (C3 BinOp.xor u64 x.1 (u64.wrap [a,b,c][x.2.1])*11400714819323198485))->(BinOp.shr=BinOp.shr->Bn u64 (u64.wrap (C3 BinOp.xor u64 x.1 (u64.wrap [a,b,c][x.2.1])*11400714819323198485)))/\(0:Int)<=29/\(Bn u64 (u64.wrap (C3 BinOp.xor u64 x.1 (u64.wrap [a,b,c][x.2.1])*11400714819323198485))->Bn u64 ((u64.wrap (C3 BinOp.xor u64 x.1 (u64.wrap [a,b,c][x.2.1])*11400714819323198485)).fdiv (2^min (ai (29:Int)) 64))->x.2.1+1<=2^63-1/\∃m,m<n/\V m (C3 BinOp.xor u64 (u64.wrap (C3 BinOp.xor u64 x.1 (u64.wrap [a,b,c][x.2.1])*11400714819323198485)) ((u64.wrap (C3 BinOp.xor u64 x.1 (u64.wrap [a,b,c][x.2.1])*11400714819323198485)).fdiv (2^min (ai (29:Int)) 64)),x.2.1+1,()) H))/\(¬x.2.1<3->∃(x1:B0),H b1=some (Ob.st BX x1)/\(x1.entries=none->Bn u64 x.1->Bn u64 (u64.wrap (↑0:Int))->¬u64.wrap (↑0:Int)=0/\Bn u64 (x.1.tmod (u64.wrap (↑0:Int)))/\False)/\∀(xs:List Bm),x1.entries=some xs->xs.length<=2^63-1->Bn u64 x.1->Bn u64 (u64.wrap (↑xs.length:Int))->¬u64.wrap (↑xs.length:Int)=0/\Bn u64 (x.1.tmod (u64.wrap (↑xs.length:Int)))/\(Bn u64 (x.1.tmod (u64.wrap (↑xs.length:Int)))->(Bn u64 (x.1.tmod (u64.wrap (↑xs.length:Int)))->(0:Int)<=x.1.tmod (u64.wrap (↑xs.length:Int)))/\∃(h:(x.1.tmod (u64.wrap (↑xs.length:Int))).toNat<xs.length),(x.1.tmod (u64.wrap (↑xs.length:Int))).toNat<xs.length/\Q () () (Ab H b1 (Ob.st BX {x1 with entries:=some (xs.set (x.1.tmod (u64.wrap (↑xs.length:Int))).toNat {key:={op:=op,Cj:={a0:=a,a1:=b,a2:=c:AX}:CZ},r:=r,full:=true:Bm})})))))/\(IK op->∃(V:Nat->Int×Nat×UT->HP),(∃(n:Nat),V n (u64.wrap op,0,()) (Ab H b1 (Ob.st BX {x with entries:=some (aj x.size.toNat {key:={op:=0,Cj:={a0:=0,a1:=0,a2:=0:AX}:CZ},r:=0,full:=false:Bm})})))/\∀n x H,V n x H->(x.2.1<3->x.2.1<=2^63-1->∃(h:x.2.1<[a,b,c].length),IK [a,b,c][x.2.1]->Bn u64 x.1->Bn u64 (u64.wrap [a,b,c][x.2.1])->Bn u64 (C3 BinOp.xor u64 x.1 (u64.wrap [a,b,c][x.2.1]))->Bn u64 (u64.wrap (C3 BinOp.xor u64 x.1 (u64.wrap [a,b,c][x.2.1])*11400714819323198485))->(BinOp.shr=BinOp.shr->Bn u64 (u64.wrap (C3 BinOp.xor u64 x.1 (u64.wrap [a,b,c][x.2.1])*11400714819323198485)))/\(0:Int)<=29/\(Bn u64 (u64.wrap (C3 BinOp.xor u64 x.1 (u64.wrap [a,b,c][x.2.1])*11400714819323198485))->Bn u64 ((u64.wrap (C3 BinOp.xor u64 x.1 (u64.wrap [a,b,c][x.2.1])*11400714819323198485)).fdiv (2^min (ai (29:Int)) 64))->x.2.1+1<=2^63-1/\∃m,m<n/\V m (C3 BinOp.xor u64 (u64.wrap (C3 BinOp.xor u64 x.1 (u64.wrap [a,b,c][x.2.1])*11400714819323198485)) ((u64.wrap (C3 BinOp.xor u64 x.1 (u64.wrap [a,b,c][x.2.1])*11400714819323198485)).fdiv (2^min (ai (29:Int)) 64)),x.2.1+1,()) H))/\(¬x.2.1<3->∃(x1:B0),H b1=some (Ob.st BX x1)/\(x1.entries=none->Bn u64 x.1->Bn u64 (u64.wrap (↑0:Int))->¬u64.wrap (↑0:Int)=0/\Bn u64 (x.1.tmod (u64.wrap (↑0:Int)))/\False)/\∀(xs:List Bm),x1.entries=some xs->xs.length<=2^63-1->Bn u64 x.1->Bn u64 (u64.wrap (↑xs.length:Int))->¬u64.wrap (↑xs.length:Int)=0/\Bn u64 (x.1.tmod (u64.wrap (↑xs.length:Int)))/\(Bn u64 (x.1.tmod (u64.wrap (↑xs.length:Int)))->(Bn u64 (x.1.tmod (u64.wrap (↑xs.length:Int)))->(0:Int)<=x.1.tmod (u64.wrap (↑xs.length:Int)))/\∃(h:(x.1.tmod (u64.wrap (↑xs.length:Int))).toNat<xs.length),(x.1.tmod (u64.wrap (↑xs.length:Int))).toNat<xs.length/\Q () () (Ab H b1 (Ob.st BX {x1 with entries:=some (xs.set (x.1.tmod (u64.wrap (↑xs.length:Int))).toNat {key:={op:=op,Cj:={a0:=a,a1:=b,a2:=c:AX}:CZ},r:=r,full:=true:Bm})})))))))/\∀(xs:List Bm),x.entries=some xs->¬xs=[]/\(IK op->∃(V:Nat->Int×Nat×UT->HP),(∃(n:Nat),V n (u64.wrap op,0,()) (Ab H b1 (Ob.st BX {x with entries:=some xs})))/\∀n x H,V n x H->(x.2.1<3->x.2.1<=2^63-1->∃(h:x.2.1<[a,b,c].length),IK [a,b,c][x.2.1]->Bn u64 x.1->Bn u64 (u64.wrap [a,b,c][x.2.1])->Bn u64 (C3 BinOp.xor u64 x.1 (u64.wrap [a,b,c][x.2.1]))->Bn u64 (u64.wrap (C3 BinOp.xor u64 x.1 (u64.wrap [a,b,c][x.2.1])*11400714819323198485))->(BinOp.shr=BinOp.shr->Bn u64 (u64.wrap (C3 BinOp.xor u64 x.1 (u64.wrap [a,b,c][x.2.1])*11400714819323198485)))/\(0:Int)<=29/\(Bn u64 (u64.wrap (C3 BinOp.xor u64 x.1 (u64.wrap [a,b,c][x.2.1])*11400714819323198485))->Bn u64 ((u64.wrap (C3 BinOp.xor u64 x.1 (u64.wrap [a,b,c][x.2.1])*11400714819323198485)).fdiv (2^min (ai (29:Int)) 64))->x.2.1+1<=2^63-1/\∃m,m<n/\V m (C3 BinOp.xor u64 (u64.wrap (C3 BinOp.xor u64 x.1 (u64.wrap [a,b,c][x.2.1])*11400714819323198485)) ((u64.wrap (C3 BinOp.xor u64 x.1 (u64.wrap [a,b,c][x.2.1])*11400714819323198485)).fdiv (2^min (ai (29:Int)) 64)),x.2.1+1,()) H))/\(¬x.2.1<3->∃(x1:B0),H b1=some (Ob.st BX x1)/\(x1.entries=none->Bn u64 x.1->Bn u64 (u64.wrap (↑0:Int))->¬u64.wrap (↑0:Int)=0/\Bn u64 (x.1.tmod (u64.wrap (↑0:Int)))/\False)/\∀(xs:List Bm),x1.entries=some xs->xs.length<=2^63-1->Bn u64 x.1->Bn u64 (u64.wrap (↑xs.length:Int))->¬u64.wrap (↑xs.length:Int)=0/\Bn u64 (x.1.tmod (u64.wrap (↑xs.length:Int)))/\(Bn u64 (x.1.tmod (u64.wrap (↑xs.length:Int)))->(Bn u64 (x.1.tmod (u64.wrap (↑xs.length:Int)))->(0:Int)<=x.1.tmod (u64.wrap (↑xs.length:Int)))/\∃(h:(x.1.tmod (u64.wrap (↑xs.length:Int))).toNat<xs.length),(x.1.tmod (u64.wrap (↑xs.length:Int))).toNat<xs.length/\Q () () (Ab H b1 (Ob.st BX {x1 with entries:=some (xs.set (x.1.tmod (u64.wrap (↑xs.length:Int))).toNat {key:={op:=op,Cj:={a0:=a,a1:=b,a2:=c:AX}:CZ},r:=r,full:=true:Bm})})))))/\(IK op->∃(V:Nat->Int×Nat×UT->HP),(∃(n:Nat),V n (u64.wrap op,0,()) (Ab H b1 (Ob.st BX {x with entries:=some xs})))/\∀n x H,V n x H->(x.2.1<3->x.2.1<=2^63-1->∃(h:x.2.1<[a,b,c].length),IK [a,b,c][x.2.1]->Bn u64 x.1->Bn u64 (u64.wrap [a,b,c][x.2.1])->Bn u64 (C3 BinOp.xor u64 x.1 (u64.wrap [a,b,c][x.2.1]))->Bn u64 (u64.wrap (C3 BinOp.xor u64 x.1 (u64.wrap [a,b,c][x.2.1])*11400714819323198485))->(BinOp.shr=BinOp.shr->Bn u64 (u64.wrap (C3 BinOp.xor u64 x.1 (u64.wrap [a,b,c][x.2.1])*11400714819323198485)))/\(0:Int)<=29/\(Bn u64 (u64.wrap (C3 BinOp.xor u64 x.1 (u64.wrap [a,b,c][x.2.1])*11400714819323198485))->Bn u64 ((u64.wrap (C3 BinOp.xor u64 x.1 (u64.wrap [a,b,c][x.2.1])*11400714819323198485)).fdiv (2^min (ai (29:Int)) 64))->x.2.1+1<=2^63-1/\∃m,m<n/\V m (C3 BinOp.xor u64 (u64.wrap (C3 BinOp.xor u64 x.1 (u64.wrap [a,b,c][x.2.1])*11400714819323198485)) ((u64.wrap (C3 BinOp.xor u64 x.1 (u64.wrap [a,b,c][x.2.1])*11400714819323198485)).fdiv (2^min (ai (29:Int)) 64)),x.2.1+1,()) H))/\(¬x.2.1<3->∃(x1:B0),H b1=some (Ob.st BX x1)/\(x1.entries=none->Bn u64 x.1->Bn u64 (u64.wrap (↑0:Int))->¬u64.wrap (↑0:Int)=0/\Bn u64 (x.1.tmod (u64.wrap (↑0:Int)))/\False)/\∀(xs:List Bm),x1.entries=some xs->xs.length<=2^63-1->Bn u64 x.1->Bn u64 (u64.wrap (↑xs.length:Int))->¬u64.wrap (↑xs.length:Int)=0/\Bn u64 (x.1.tmod (u64.wrap (↑xs.length:Int)))/\(Bn u64 (x.1.tmod (u64.wrap (↑xs.length:Int)))->(Bn u64 (x.1.tmod (u64.wrap (↑xs.length:Int)))->(0:Int)<=x.1.tmod (u64.wrap (↑xs.length:Int)))/\∃(h:(x.1.tmod (u64.wrap (↑xs.length:Int))).toNat<xs.length),(x.1.tmod (u64.wrap (↑xs.length:Int))).toNat<xs.length/\Q () () (Ab H b1 (Ob.st BX {x1 with entries:=some (xs.set (x.1.tmod (u64.wrap (↑xs.length:Int))).toNat {key:={op:=op,Cj:={a0:=a,a1:=b,a2:=c:AX}:CZ},r:=r,full:=true:Bm})}))))))
def R9(m:Option Nat)(H:HY)(Q:UT->UU)(_:PX):=(¬m=none->∃(b:Nat),m=some b/\∃(x:B0),H b=some (Ob.st BX x)/\(x.entries=none->{x with entries:=none}=x/\Q () () H)/\∀(xs:List Bm),x.entries=some xs->Q () () (Ab H b (Ob.st BX {x with entries:=some (aj xs.length {key:={op:=0,Cj:={a0:=0,a1:=0,a2:=0:AX}:CZ},r:=0,full:=false:Bm})})))/\(¬¬m=none->Q () () H)
theorem R8 m H Q X(h_:R9 m H Q X):qK E1 D9 (m,()) H Q X:=wF Tryz.f162 {} h_
def Vn(size:Int)(H:HY)(Q:Option Nat×UT->UU)(_:PX):=∀(b:Nat),H b=none->Q (some b,()) () (Ab H b (Ob.st BX {size:=GZ false (GZ true size [(.i64,1)]) [(.i64,65536)],entries:=none,asked:=0,found:=0:B0}))
theorem Ad5 size H Q X(h_:Vn size H Q X):qK VE Qw (size,()) H Q X:=wF Tryz.f81 {pr:=[(7,4)]} h_
def Lc(yield:Au×UT->HY->(Bool×UT->HP)->PX->Prop)(p1:Option Nat)(H:HY)(Q:UT->UU)(X:PX):=∀(l:Nat)(r:Loop),H l=none->qK L9 I9 (λ(a:Int×UT)(H:HY)(Q:Bool×UT->HP)(X:Nat->Lf Y0.D->HP)=>H l=some (Ob.lp r)/\H l=some (Ob.lp r)/\∃(b:Nat),p1=some b/\∃(x:A6),Ab H l (Ob.lp (CF r)) b=some (Ob.st CL x)/\(IK a.1->(IK a.1->(0:Int)<=a.1)/\∃(h:a.1.toNat<x.at_.length),∃(h:a.1.toNat<x.at_.length),x=x/\yield (x.at_[a.1.toNat],()) (Ab H l (Ob.lp (CF r))) (λ(b:Bool×UT)(G:HY)=>(¬b.1->G l=some (Ob.lp (CF r))/\Q (false,()) (Ab G l (Ob.lp (O7 r Code.ret))))/\(¬¬b.1->G l=some (Ob.lp (CF r))/\Q (true,()) (Ab G l (Ob.lp r)))) X),p1,()) (Ab H l (Ob.lp r)) (λ(b io:UT)(G:HY)=>(G l=some (Ob.lp r)/\∀(r':Loop),Q () () (Ab G l (Ob.lp r')))∨G l=some (Ob.lp (O7 r Code.ret))/\∀(r':Loop),Q () () (Ab G l (Ob.lp r'))) X
end
section
structure MeI(m:B0):Prop where
 s1:1<=m.size
 s2:m.size<=65536
 en:∀xs,m.entries=some xs->1<=xs.length/\xs.length<=65536
def Xb(m:B0)(e:Bm):Prop:=∃xs,m.entries=some xs/\e∈xs
theorem Zn{x:Int}:Bn .u64 x↔0<=x/\x<=18446744073709551615:=by
 have a:u64.min=0:=by decide
 have b:u64.max=18446744073709551615:=by decide
 unfold Bn;rw[a,b]
theorem wrap_u64{L:Nat}(h:L<=65536):u64.wrap (L:Int)=L:=EL (Zn.2 (by omega))
theorem Zd{x:Int}{L:Nat}(c:Bn .u64 x)(g:1<=L)(b:L<=65536):¬(u64.wrap (L:Int))=0/\Bn .u64 (x.tmod (u64.wrap (L:Int)))/\0<=x.tmod (u64.wrap (L:Int))/\(x.tmod (u64.wrap (L:Int))).toNat<L:=by rw[wrap_u64 b];obtain⟨d,f⟩:=Zn.1 c;have e:x.tmod L=x%L:=Int.tmod_eq_emod_of_nonneg d;have a:0<=x%(L:Int):=Int.emod_nonneg _ (by omega);have h:x%(L:Int)<L:=Int.emod_lt_of_pos _ (by omega);grind[Zn]
variable {bm:Nat} {m:B0} {H:HY} {X:PX}
theorem Aa5{op a b c:Int}{Q:Int×Bool×Unit->UU}(I:H bm=some (.st BX m))(G:MeI m)(r:∀m',m'.entries=m.entries->m'.size=m.size->Q (0,false,()) () (Ab H bm (.st BX m')))(z:∀m' e,m'.entries=m.entries->m'.size=m.size->Xb m e->e.full=true->e.key=⟨op,⟨a,b,c⟩⟩->Q (e.r,true,()) () (Ab H bm (.st BX m'))):qK HT F5 (some bm,op,a,b,c,()) H Q X:=by
 refine wF Tryz.f197 {wr:=[20,55],il:=ilT} (?_:Nu (some bm) op a b c H Q X);unfold Nu;refine⟨λh=>qG h (by simp),λ_=>⟨bm,rfl,m,I,λv=>⟨λ_=>r _ v.symm rfl,λh=>qG rfl h⟩,λj d y=>?_⟩⟩;have w:=G.en j d;refine⟨λh=>?_,λ_ J=>?_⟩
 .grind
 refine⟨λn x u=>u=Ab H bm (.st BX {size:=m.size,entries:=some j,asked:=Go.IntKind.wrap .i64 (m.asked+1),found:=m.found})/\n=3-x.2.1/\x.2.1<=3,⟨3,rfl,rfl,ak _⟩,?_⟩;rintro n ⟨x,k,_⟩ u ⟨rfl,l,s⟩;have v:n=3-k:=l;have t:k<=3:=s;refine⟨λf _=>?_,λf=>?_⟩
 .have i:k<3:=f;refine⟨by omega,λ_ _ _ _ F=>⟨λ_=>F,by decide,λ_ _=>⟨by grind,2-k,by omega,rfl,by simp,by grind⟩⟩⟩
 .refine⟨_,Ai _ _ _,λh=>(by cases h),λL o _ B _=>?_⟩;cases o;obtain⟨C,A,E,g⟩:=Zd B w.1 w.2;refine⟨C,A,λ_=>⟨λ_=>E,g,g,λ_=>⟨rfl,r _ d.symm rfl⟩,λD=>⟨g,λ_=>⟨rfl,r _ d.symm rfl⟩,λt=>⟨g,?_⟩⟩⟩⟩;rw[XL];have p:=ay.1 D;have q:=ay.1 t;refine z _ _ d.symm rfl ⟨j,d,b6 g⟩ p ?_;exact q
theorem Aa4{op a b c r:Int}{Q:Unit->UU}(J:H bm=some (.st BX m))(w:MeI m)(h:∀m',MeI m'->(∀e,Xb m' e->e.full=true->Xb m e∨e=⟨⟨op,⟨a,b,c⟩⟩,r,true⟩)->Q () () (Ab H bm (.st BX m'))):qK HS F4 (some bm,op,a,b,c,r,()) H Q X:=by
 refine wF Tryz.f200 {il:=ilT} (?_:Nt (some bm) op a b c r H Q X);unfold Nt;have v:∀(d:List Bm),1<=d.length/\d.length<=65536->(∀e∈d,e.full=true->Xb m e)->∀(j:Nat),j<d.length->Q () () (Ab (Ab H bm (.st BX {size:=m.size,entries:=some d,asked:=m.asked,found:=m.found})) bm (.st BX {size:=m.size,entries:=some (d.set j ⟨⟨op,⟨a,b,c⟩⟩,r,true⟩),asked:=m.asked,found:=m.found})):=λd i g j M=>by
  rw[XL];refine h _ ⟨w.s1,w.s2,λC f=>?_⟩ λe⟨C,f,p⟩z=>?_
  .cases f;simpa using i
  .cases f;rcases List.mem_or_eq_of_mem_set p with p|p
   .exact .inl (g e p z)
   .exact .inr p
 refine⟨λh=>qG h (by simp),λ_=>⟨bm,rfl,m,J,λI=>⟨trivial,λ_ _=>?_⟩,λd u=>?_⟩⟩
 .have L:=w.s1;have N:=w.s2;refine⟨by omega,rfl,by omega,?_⟩;have i:1<=(aj m.size.toNat (⟨⟨0,⟨0,0,0⟩⟩,0,false⟩:Bm)).length/\(aj m.size.toNat (⟨⟨0,⟨0,0,0⟩⟩,0,false⟩:Bm)).length<=65536:=by simp only[List.length_replicate];omega
  have g:∀e∈aj m.size.toNat (⟨⟨0,⟨0,0,0⟩⟩,0,false⟩:Bm),e.full=true->Xb m e:=λe p z=>by rw[List.eq_of_mem_replicate p]at z;cases z
  generalize aj m.size.toNat (⟨⟨0,⟨0,0,0⟩⟩,0,false⟩:Bm)=d at i g;constructor <;>
  .intro G;refine⟨λn x y=>y=Ab H bm (.st BX {size:=m.size,entries:=some d,asked:=m.asked,found:=m.found})/\n=3-x.2.1/\x.2.1<=3,⟨3,rfl,rfl,ak _⟩,?_⟩;rintro n ⟨x,k,_⟩ y ⟨rfl,t,s⟩;have I:n=3-k:=t;have K:k<=3:=s;refine⟨λl _=>?_,λl=>?_⟩
   .have o:k<3:=l;refine⟨by show k<3;exact o,λ_ _ _ _ F=>⟨λ_=>F,by decide,λ_ _=>⟨by show k+1<=_;omega,2-k,by omega,rfl,by show 2-k=3-(k+1);omega,by show k+1<=3;omega⟩⟩⟩
   .refine⟨_,Ai _ _ _,λh=>(by cases h),λC f _ A _=>?_⟩;cases f;obtain⟨E,D,B,q⟩:=Zd A i.1 i.2;exact⟨E,D,λ_=>⟨λ_=>B,q,q,v d i g _ q⟩⟩
 .have i:=w.en d u;have g:∀e∈d,e.full=true->Xb m e:=λe p _=>⟨d,u,p⟩
  refine⟨λh=>by grind,?_⟩;constructor <;>
  .intro G;refine⟨λn x y=>y=Ab H bm (.st BX {size:=m.size,entries:=some d,asked:=m.asked,found:=m.found})/\n=3-x.2.1/\x.2.1<=3,⟨3,rfl,rfl,ak _⟩,?_⟩;rintro n ⟨x,k,_⟩ y ⟨rfl,t,s⟩;have I:n=3-k:=t;have K:k<=3:=s;refine⟨λl _=>?_,λl=>?_⟩
   .have o:k<3:=l;refine⟨by show k<3;exact o,λ_ _ _ _ F=>⟨λ_=>F,by decide,λ_ _=>⟨by show k+1<=_;omega,2-k,by omega,rfl,by show 2-k=3-(k+1);omega,by show k+1<=3;omega⟩⟩⟩
   .refine⟨_,Ai _ _ _,λh=>(by cases h),λC f _ A _=>?_⟩;grind[Zd]
theorem LY{Q:Unit->UU}(d:H bm=some (.st BX m))(c:MeI m)(h:∀m',MeI m'->(∀e,Xb m' e->e.full=false)->Q () () (Ab H bm (.st BX m'))):qK E1 D9 (some bm,()) H Q X:=by
 refine R8 _ _ _ _ ?_;refine⟨λ_=>⟨bm,rfl,m,d,λf=>?_,λg a=>?_⟩,λh=>qG (by simp) h⟩
 .have e:({size:=m.size,entries:=none,asked:=m.asked,found:=m.found}:B0)=m:=by cases m;grind
  refine⟨e,?_⟩;have:=h m c λe⟨g,a,_⟩=>by grind
  rwa [KQ d]at this
 .have k:=c.en g a;refine h _ ⟨c.s1,c.s2,λj b=>?_⟩ λe⟨j,b,i⟩=>?_;all_goals grind
end
section
theorem LF{e:Int}{H:HY}{X:PX}{Q:Int×Unit->UU}(h:Q (B.flip e,()) () H):qK Et DC (e,()) H Q X:=by refine Ud _ _ _ _ λa=>?_;grind[Acf]
def CU(F G H:B.Fn):B.Fn:=λa=>if F a then G a else H a
section
variable {n:Int} {lv:Int->Int} {N:B.Tb}
def At(n:Int)(lv:Int->Int)(N:B.Tb)(k e:Int):Prop:=B.Ok N e/\k<=B.el n lv N e
variable {k:Int}
theorem At.flip{e:Int}(h:At n lv N k e):At n lv N k (B.flip e):=⟨h.1.flip,by rw[B.Ar7];exact h.2⟩
theorem At.fl{e s:Int}(h:At n lv N k e):At n lv N k (B.fl e s):=⟨h.1.fl,by rw[B.K8];exact h.2⟩
theorem Z7(h:k<=n):At n lv N k 0:=⟨B.Pq,by grind[B.Cr]⟩
theorem at_one(h:k<=n):At n lv N k 1:=⟨B.ok_one,by grind[B.Cr]⟩
end
theorem Ab3{n k:Int}{lv:Int->Int}{N:B.Tb}{f g h:Int}{H:HY}{X:PX}{Q:Int×Int×Int×Bool×Int×Bool×Unit->UU}(C:k<=n)(j:At n lv N k f)(T:At n lv N k g)(V:At n lv N k h)(v:∀r,At n lv N k r->B.den N r=CU (B.den N f) (B.den N g) (B.den N h)->Q (0,0,0,false,r,true,()) () H)(K:∀a b c t,At n lv N k a->At n lv N k b->At n lv N k c->a/2≠0->(∀x,CU (B.den N a) (B.den N b) (B.den N c) x=(t ^^ CU (B.den N f) (B.den N g) (B.den N h) x))->Q (a,b,c,t,0,false,()) () H):qK VH Qz (f,g,h,()) H Q X:=by
 refine wF Tryz.f196 {jn:=[(14,⟨[(1,.one (.dat I6))],[0,2,12],true⟩),(23,⟨[(2,.one (.dat I6))],[0,1,12],true⟩)]} (?_:∃(M:Int×UT->HP),(∀x H,M x H->∃(M:Int×UT->HP),(∀x1 H,M x1 H->(f=0->Q (0,0,0,false,x.1,true,()) () H)/\(¬f=0->(x.1=x1.1->Q (0,0,0,false,x.1,true,()) () H)/\(¬x.1=x1.1->(f=1->Q (0,0,0,false,x1.1,true,()) () H)/\(¬f=1->({a0:=x.1,a1:=x1.1:Aj}={a0:=0,a1:=1:Aj}->Q (0,0,0,false,f,true,()) () H)/\(¬{a0:=x.1,a1:=x1.1:Aj}={a0:=0,a1:=1:Aj}->({a0:=x.1,a1:=x1.1:Aj}={a0:=1,a1:=0:Aj}->qK Et DC (f,()) H (λ(b:Int×UT)_ G=>Q (0,0,0,false,b.1,true,()) () G) X)/\(¬{a0:=x.1,a1:=x1.1:Aj}={a0:=1,a1:=0:Aj}->(AW f->qK Et DC (f,()) H (λ(b:Int×UT)_ G=>Q (b.1,Az x1.1 (AW x1.1),Az x.1 (AW x1.1),AW x1.1,0,false,()) () G) X)/\(¬AW f->Q (f,Az x.1 (AW x.1),Az x1.1 (AW x.1),AW x.1,0,false,()) () H)))))))/\(h=f->M (1,()) H)/\(¬h=f->qK Et DC (f,()) H (λ(b:Int×UT)_ G=>(h=b.1->M (0,()) G)/\(¬h=b.1->M (h,()) G)) X))/\(g=f->M (0,()) H)/\(¬g=f->qK Et DC (f,()) H (λ(b:Int×UT)_ G=>(g=b.1->M (1,()) G)/\(¬g=b.1->M (g,()) G)) X));refine⟨λx E=>E=H/\At n lv N k x.1/\∀a,B.den N f a=true->B.den N x.1 a=B.den N g a,?_,λe=>⟨rfl,Z7 C,λa d=>?_⟩,λG=>LF ⟨λe=>⟨rfl,at_one C,λa d=>?_⟩,λ_=>⟨rfl,T,λ_ _=>rfl⟩⟩⟩
 .rintro⟨x,_⟩ E ⟨rfl,J,z⟩;have o:At n lv N k x:=J;have D:∀a,B.den N f a=true->B.den N x a=B.den N g a:=z;refine⟨λy l=>l=E/\At n lv N k y.1/\∀a,B.den N f a=false->B.den N y.1 a=B.den N h a,?_,λe=>⟨rfl,at_one C,λa d=>?_⟩,λG=>LF ⟨λe=>⟨rfl,Z7 C,λa d=>?_⟩,λ_=>⟨rfl,V,λ_ _=>rfl⟩⟩⟩
  .rintro⟨y,_⟩ l ⟨rfl,F,A⟩;have p:At n lv N k y:=F;have I:∀a,B.den N f a=false->B.den N y a=B.den N h a:=A;have L:CU (B.den N f) (B.den N g) (B.den N h)=CU (B.den N f) (B.den N x) (B.den N y):=by
    funext a;unfold CU;by_cases d:B.den N f a=true
    .rw[UV d,UV d,D a d]
    .rw[GT d,GT d,I a (by simpa using d)]
   rw[L]at v;simp only[L]at K;refine⟨λe=>v x o ?_,λS=>⟨λe=>v x o ?_,λP=>⟨λe=>v y p ?_,λM=>⟨λe=>v f j ?_,λU=>⟨λe=>LF (v _ j.flip ?_),λW=>⟨λw=>LF ?_,λw=>?_⟩⟩⟩⟩⟩⟩
   .grind[CU,B.HU]
   .funext a;unfold CU;have m:x=y:=e;rw[<-m];split<;>rfl
   .grind[CU,B.EW]
   .injection e with O R;have q:x=0:=O;have u:y=1:=R
    funext a;unfold CU;rw[q,u,B.HU,B.EW];cases B.den N f a<;>rfl
   .injection e with O R;have q:x=1:=O;have u:y=0:=R
    funext a;unfold CU;rw[q,u,B.HU,B.EW,B.HM j.1];cases i:B.den N f a<;>simp [i]
   .have s:f/2≠0:=by omega
    show Q (B.flip f,Az y (AW y),Az x (AW y),AW y,0,false,()) () l;rw[JH p.1.1,JH p.1.1,Ad3 p.1.1];refine K _ _ _ _ j.flip p.fl o.fl (by grind[B.Lj]) λa=>?_;unfold CU;rw[B.HM j.1,B.J4 p.1,B.J4 o.1];cases i:B.den N f a<;>simp [i]
   .have s:f/2≠0:=by omega
    show Q (f,Az x (AW x),Az y (AW x),AW x,0,false,()) () l;rw[JH o.1.1,JH o.1.1,Ad3 o.1.1];refine K _ _ _ _ j o.fl p.fl s λa=>?_;unfold CU;rw[B.J4 o.1,B.J4 p.1];cases i:B.den N f a<;>simp
  .have m:h=f:=e;show B.den N 1 a=B.den N h a;rw[m,d,B.EW]
  .have m:h=B.flip f:=e;show B.den N 0 a=B.den N h a;rw[m,B.HM j.1,B.HU];grind
 .have m:g=f:=e;show B.den N 0 a=B.den N g a;rw[m,d,B.HU]
 .have m:g=B.flip f:=e;show B.den N 1 a=B.den N g a;rw[m,B.HM j.1,B.EW];grind
end
section
abbrev Mn.T(M:Mn):B.Tb:=Ax M.S.po
abbrev Mn.lv(M:Mn):Int->Int:=Df M.S.lv
structure MEn(M:Mn)(f g h r:Int):Prop where
 of:B.Ok M.T f
 og:B.Ok M.T g
 oh:B.Ok M.T h
 or:B.Ok M.T r
 den:B.den M.T r=CU (B.den M.T f) (B.den M.T g) (B.den M.T h)
 lev:∀k,k<=B.el M.S.n M.lv M.T f->k<=B.el M.S.n M.lv M.T g->k<=B.el M.S.n M.lv M.T h->k<=B.el M.S.n M.lv M.T r
structure MV(M:Mn):Prop where
 me:MeI M.me
 en:∀e,Xb M.me e->e.full=true->e.key.op=1->MEn M e.key.Cj.a0 e.key.Cj.a1 e.key.Cj.a2 e.r
variable {e:Int}
theorem L5{S S':B9}(h:I4 S S')(a:B.Ok (Ax S.po) e):B.el S'.n (Df S'.lv) (Ax S'.po) e=B.el S.n (Df S.lv) (Ax S.po) e:=by rw[h.n,h.lv];exact B.O6 h.Ax a
variable {M M':Mn} {f h:Int}
theorem MEn.ext{g r:Int}(a:SI M.S)(e:I4 M.S M'.S)(k:MEn M f g h r):MEn M' f g h r where
 of:=k.of.ext e.Ax
 og:=k.og.ext e.Ax
 oh:=k.oh.ext e.Ax
 or:=k.or.ext e.Ax
 den:=by show B.den (Ax M'.S.po) r=CU (B.den (Ax M'.S.po) f) (B.den (Ax M'.S.po) g) (B.den (Ax M'.S.po) h);rw[e.den a k.of,e.den a k.og,e.den a k.oh,e.den a k.or];exact k.den
 lev j d c b:=by have d:j<=B.el M'.S.n (Df M'.S.lv) (Ax M'.S.po) f:=d;have c:j<=B.el M'.S.n (Df M'.S.lv) (Ax M'.S.po) g:=c;have b:j<=B.el M'.S.n (Df M'.S.lv) (Ax M'.S.po) h:=b;rw[L5 e k.of]at d;rw[L5 e k.og]at c;rw[L5 e k.oh]at b;show j<=B.el M'.S.n (Df M'.S.lv) (Ax M'.S.po) r;rw[L5 e k.or];exact k.lev j d c b
theorem MV.ext(h:MV M)(f:SI M.S)(e:I4 M.S M'.S)(b:M'.me=M.me):MV M':=
 ⟨by rw[b];exact h.me,λg a c d=>by rw[b]at a;exact(h.en g a c d).ext f e⟩
structure MC(M M':Mn):Prop where
 bs:Dx M M'
 se:I4 M.S M'.S
 si:SI M'.S
 hs:M'.hs=M.hs
 nx:M'.nx=M.nx
 mv:MV M'
theorem Dx.refl:Dx M M:=⟨rfl,rfl,rfl,rfl,rfl⟩
variable {M'':Mn}
theorem Dx.trans(h:Dx M M')(k:Dx M' M''):Dx M M'':=⟨k.sb.trans h.sb,k.mb.trans h.mb,k.bl.trans h.bl,k.bp.trans h.bp,k.tb.trans h.tb⟩
theorem MC.refl(h:SI M.S)(v:MV M):MC M M:=⟨.refl,.refl,h,rfl,rfl,v⟩
theorem MC.trans(h:MC M M')(k:MC M' M''):MC M M'':=⟨h.bs.trans k.bs,h.se.trans k.se,k.si,k.hs.trans h.hs,k.nx.trans h.nx,k.mv⟩
def L1(M M':Mn)(F:B.Fn):Prop:=∀R,F∈R->B.QL M.S.n M.lv M.T R->B.QL M'.S.n M'.lv M'.T R
theorem L1.refl{F:B.Fn}:L1 M M F:=λ_ _ h=>h
theorem L1.trans{F:B.Fn}(h:L1 M M' F)(k:L1 M' M'' F):L1 M M'' F:=λR a b=>k R a (h R a b)
def WZ(M M':Mn)(l:Lf Y0.D):Prop:=(l=Aqv 7/\M'.ws=M.ws/\M'.S.po.many=M'.S.po.room)∨∃ev,l=pEv ev/\M.ws=ev::M'.ws
abbrev Mn.At(M:Mn)(k e:Int):Prop:=YtcbkbpjlbmalmaaGreatDoor.At M.S.n M.lv M.T k e
theorem MC.at(h:MC M M'){k:Int}(a:M.At k e):M'.At k e:=⟨a.1.ext h.se.Ax,by have:=L5 h.se a.1;show k<=B.el M'.S.n (Df M'.S.lv) (Ax M'.S.po) e;rw[this];exact a.2⟩
theorem MC.den(h:MC M M')(hI:SI M.S)(a:B.Ok M.T e):B.den M'.T e=B.den M.T e:=h.se.den hI a
theorem MC.lv(h:MC M M'):M'.lv=M.lv:=by show Df _=Df _;rw[h.se.lv]
theorem MC.n(h:MC M M'):M'.S.n=M.S.n:=h.se.n
def Mn.wm(M:Mn)(m:B0):Mn:={M with me:=m}
theorem MD.Alh{H:HY}{c b:Nat}(a:MD H c b M)(m:B0):MD (Ab H M.mb (.st BX m)) c b (M.wm m)/\J7 b M H (Ab H M.mb (.st BX m)):=by
 refine⟨⟨?_,?_,?_,Ai _ _ _⟩,λx _ d _ _ _ _=>Ag _ _ d⟩
 .rw[Ag _ _ (Bg a.cx a.NB.me (by decide))];exact a.cx
 .rw[Ag _ _ (Bg a.NB.ob a.NB.me (by decide))];exact a.NB.ob
 .exact a.NB.st.other a.NB.me (by decide) (by decide) (by decide) (by decide)
theorem Ani{n:Int}{lv:Int->Int}{N:B.Tb}(g:B.Good n lv N){g' v:Int}{c:Bool}(b:0<=v/\v<n){f1 g1 h1:Int}(p:B.Ok N f1)(i:B.Ok N g1)(o:B.Ok N h1)(l:lv v<B.el n lv N f1)(d:lv v<B.el n lv N g1)(m:lv v<B.el n lv N h1)(j:∀a,a v=c->B.den N f a=B.den N f1 a)(k:∀a,a v=c->B.den N g' a=B.den N g1 a)(e:∀a,a v=c->B.den N h a=B.den N h1 a)(a:B.As):CU (B.den N f1) (B.den N g1) (B.den N h1) a=CU (B.den N f) (B.den N g') (B.den N h) (B.Aae a v c):=by unfold CU;rw[j _ B.Pf,k _ B.Pf,e _ B.Pf,g.P2 p b.1 b.2 l,g.P2 i b.1 b.2 d,g.P2 o b.1 b.2 m]
theorem Vx{n:Int}{lv:Int->Int}{N:B.Tb}(g:B.Good n lv N){k g':Int}(i:At n lv N k f)(e:At n lv N k g')(d:At n lv N k h):B.Dep n lv k (CU (B.den N f) (B.den N g') (B.den N h)):=λa b c=>by unfold CU;rw[g.dep i.1 i.2 a b c,g.dep e.1 e.2 a b c,g.dep d.1 d.2 a b c]
end
section
def Aht(c b d:Nat):Prop:=∀(k:Int)(M:Mn)(H:HY)(f g h:Int)(F:B.Fn)(X:PX)(Q:Int×Unit->UU),MD H c b M->SI M.S->MV M->M.S.n-k<=d->k<=M.S.n->M.At k f->M.At k g->M.At k h->B.S6 M.lv k F (CU (B.den M.T f) (B.den M.T g) (B.den M.T h))->(∀M' H' l,MD H' c b M'->MC M M'->L1 M M' F->J7 b M H H'->WZ M M' l->X 231 l H')->(∀e M' H',MD H' c b M'->MC M M'->L1 M M' F->J7 b M H H'->M'.ws=M.ws->M'.At k e->B.den M'.T e=CU (B.den M.T f) (B.den M.T g) (B.den M.T h)->Q (e,()) () H')->qK BO BF (some c,f,g,h,()) H Q X
variable {M:Mn}
theorem WZ.step{M1 M':Mn}{l:Lf Y0.D}(c:M1.ws=M.ws)(h:WZ M1 M' l):WZ M M' l:=by
 rcases h with ⟨a,b,d⟩|⟨e,a,b⟩
 .exact .inl ⟨a,b.trans c,d⟩
 .exact .inr ⟨e,a,by grind⟩
theorem XV{c b:Nat}{v lo hi:Int}{F:B.Fn}{H:HY}{X:PX}{Q:Int×Unit->UU}(P:MD H c b M)(n:SI M.S)(z:MV M)(U:0<=v/\v<M.S.n)(r:M.At (M.lv v+1) lo)(t:M.At (M.lv v+1) hi)(m:B.S6 M.lv (M.lv v) F (λa=>if a v=true then B.den M.T hi a else B.den M.T lo a))
  (I:∀M' H' l,MD H' c b M'->MC M M'->L1 M M' F->J7 b M H H'->WZ M M' l->X 231 l H')
  (h:∀e M' H',MD H' c b M'->MC M M'->L1 M M' F->J7 b M H H'->M'.ws=M.ws->M'.At (M.lv v) e->B.den M'.T e=(λa=>if a v=true then B.den M.T hi a else B.den M.T lo a)->Q (e,()) () H') :
  qK E2 DN (some c,v,lo,hi,()) H Q X:=by
 refine Aoh P n U r.1 t.1 (bq (Int.lt_succ _) r.2) (bq (Int.lt_succ _) t.2) (λJ L H' D j w=>?_) (λH' O j w=>?_) (λe f H' j C o w p A y u=>?_)
 .exact I (M.we L) H' _ j ⟨⟨rfl,rfl,rfl,rfl,rfl⟩,I4.refl,n,rfl,rfl,z.ext n I4.refl rfl⟩ L1.refl w (.inr ⟨J,rfl,D⟩)
 .exact I (M.wk M.S) H' _ j ⟨⟨rfl,rfl,rfl,rfl,rfl⟩,I4.refl,n,rfl,rfl,z.ext n I4.refl rfl⟩ L1.refl w (.inl ⟨rfl,rfl,O⟩)
 .have x:MC M (M.wk f):=⟨⟨rfl,rfl,o.bl,o.bp,o.tb⟩,o,C,rfl,rfl,z.ext n o rfl⟩
  have E:(M.wk f).lv=M.lv:=x.lv
  refine h e (M.wk f) H' j x (λR Y q i d hi=>?_) w rfl ⟨p,by show M.lv v<=B.el f.n (Df f.lv) (Ax f.po) e;rw[o.n,o.lv];exact y⟩ A
  rw[E,x.n]
  rcases u i d hi with hi|⟨hi,G⟩
  .refine(q i d hi).imp id λ⟨g,W,V⟩=>⟨g,W,?_⟩
   have s:B.Ok M.T (2*i):=by have:=(n.ib hi).1;exact⟨by omega,.inr ⟨d,by grind⟩⟩
   rw[x.den n s];exact V
  .refine .inr ⟨F,Y,?_⟩
   rw[G]
   have k:e=2*i∨e=B.flip (2*i):=by grind[B.flip]
   have s:B.Ok (M.wk f).T (2*i):=by
    rcases k with k|k
    .rw[<-k];exact p
    .have:=p.flip;rw[k,B.flip_flip]at this;exact this
   rcases k with k|k
   .rw[<-k]
    show B.S6 M.lv (M.lv v) F (B.den (Ax f.po) e)
    grind
   .have K:B.den (M.wk f).T (2*i)=λa=>!(B.den (M.wk f).T e a):=by grind[B.flip,B.flip_flip,B.HM]
    rw[K];refine B.S6.not ?_;show B.S6 M.lv (M.lv v) F (B.den (Ax f.po) e);grind
theorem Abn{c b d:Nat}(ih:∀d',d'<d->Aht c b d'){k:Int}{H:HY}{f g h:Int}{F:B.Fn}{t:Bool}{X:PX}{Q:Int×Unit->UU}(hC:MD H c b M)(r:SI M.S)(hV:MV M)(hd:M.S.n-k<=d)(R:M.At k f)(Y:M.At k g)(z:M.At k h)(hnc:f/2≠0)(hcof:B.S6 M.lv k F (CU (B.den M.T f) (B.den M.T g) (B.den M.T h)))(hx:∀M' i l,MD i c b M'->MC M M'->L1 M M' F->J7 b M H i->WZ M M' l->X 231 l i)(hq:∀e M' i,MD i c b M'->MC M M'->L1 M M' F->J7 b M H i->M'.ws=M.ws->M'.At k e->B.den M'.T e=CU (B.den M.T f) (B.den M.T g) (B.den M.T h)->Q (Az e t,()) () i):qK HT F5 (M.ob.RA,1,f,g,h,()) H (λ(b_2:Int×Bool×Unit)(_:Unit)(i:HY)=>
   (b_2.2.1=true->Q (Az b_2.1 t,()) () i)/\
   (¬b_2.2.1=true->qK IW GK (some c,[f,g,h],()) i (λ(V:Int×Unit)(_:Unit)(i:HY)=>
    qK Cq BY (some c,f,V.1,()) i (λ(b_4:Int×Int×Unit)(_:Unit)(i:HY)=>
    qK Cq BY (some c,g,V.1,()) i (λ(b_5:Int×Int×Unit)(_:Unit)(i:HY)=>
    qK Cq BY (some c,h,V.1,()) i (λ(b_6:Int×Int×Unit)(_:Unit)(i:HY)=>
    qK BO BF (some c,b_4.1,b_5.1,b_6.1,()) i (λ(b_7:Int×Unit)(_:Unit)(i:HY)=>
    qK BO BF (some c,b_4.2.1,b_5.2.1,b_6.2.1,()) i (λ(b_8:Int×Unit)(_:Unit)(i:HY)=>
    qK E2 DN (some c,V.1,b_7.1,b_8.1,()) i (λ(b_9:Int×Unit)(_:Unit)(i:HY)=>
     ∃(x:Dw),i c=some (Ob.st Ea x)/\∃(b:Nat),x.m=some b/\{m:=x.m:Dw}=x/\∃(x:Bc),i b=some (Ob.st CP x)/\{store:=x.store,RA:=x.RA,Bs:=x.Bs,EV:=x.EV,waits:=x.waits,calls:=x.calls:Bc}=x/\
      qK HS F4 (x.RA,1,f,g,h,b_9.1,()) i (λ(_ _:Unit)(i:HY)=>Q (Az b_9.1 t,()) () i) X) X) X) X) X) X) X) X)) X:=by
 have hn:0<=M.S.n:=B9.Ko
 have wm:∀q,q.entries=M.me.entries->q.size=M.me.size->MV (M.wm q):=λq u s=>⟨⟨by show 1<=q.size;rw[s];exact hV.me.s1,by show q.size<=_;rw[s];exact hV.me.s2,λxs hxs=>hV.me.en xs (by rw[<-u];exact hxs)⟩,λe⟨xs,h3,h4⟩R ho=>(hV.en e ⟨xs,by rw[<-u];exact h3,h4⟩ R ho).ext (M':=M.wm q) r I4.refl⟩
 have stp1:∀q,MV (M.wm q)->MC M (M.wm q):=λq hv=>⟨⟨rfl,rfl,rfl,rfl,rfl⟩,I4.refl,r,rfl,rfl,hv⟩
 refine Aa5 hC.NB.me hV.me (λq u s=>⟨λh=>(by cases h),λ_=>?_⟩) λq e u s hin hfu hkey=>⟨λ_=>?_,λh=>qG rfl h⟩
 .obtain⟨c1,f1⟩:=hC.Alh q
  have v1:=wm q u s
  have s1:=stp1 q v1
  generalize Ab H M.mb (.st BX q)=H1 at c1 f1
  have D:SI (M.wm q).S:=r
  refine Ajm c1 D (by intro x hx;simp only[ax,ad,or_false]at hx;rcases hx with rfl|rfl|rfl;exact R.1;exact Y.1;exact z.1) λv w hT=>?_
  rcases hT with ⟨_,hT⟩|⟨v0,vn,_,hle,j,hj,_,hje⟩
  .exact qG (hT 0 (by simp) (by simp)) hnc
  have lf:M.lv v<=B.el M.S.n M.lv M.T f:=hle 0 (by simp) (by simp)
  have lg:M.lv v<=B.el M.S.n M.lv M.T g:=hle 1 (by simp) (by simp)
  have lh:M.lv v<=B.el M.S.n M.lv M.T h:=hle 2 (by simp) (by simp)
  have I:0<=v/\v<M.S.n:=⟨v0,vn⟩
  have one:B.el M.S.n M.lv M.T f=M.lv v∨B.el M.S.n M.lv M.T g=M.lv v∨B.el M.S.n M.lv M.T h=M.lv v:=by
   have hj3:j<3:=hj;match j,hj3 with
   |0,_=>exact .inl hje
   |1,_=>exact .inr (.inl hje)
   |2,_=>exact .inr (.inr hje)
  have hkv:k<=M.lv v:=by have:=R.2;have:=Y.2;have:=z.2;rcases one with h|h|h<;>omega
  have hvlt:M.lv v<M.S.n:=(r.BS.od.Mp v v0 vn).2
  obtain⟨pf1,J,pf3,pf4,pf5,_⟩:=r.BS.I8 hn I R.1 lf
  obtain⟨pg1,K,pg3,pg4,Z,_⟩:=r.BS.I8 hn I Y.1 lg
  obtain⟨ph1,P,ph3,ph4,ph5,_⟩:=r.BS.I8 hn I z.1 lh
  refine O9 c1 D R.1 (O9 c1 D Y.1 (O9 c1 D z.1 ?_))
  change B.Ok M.T (B.sp M.T v f).1 at pf1
  generalize hF2:B.sp M.T v f=f2 at pf1 J pf3 pf4 pf5
  generalize hG2:B.sp M.T v g=g2 at pg1 K pg3 pg4 Z
  generalize hH2:B.sp M.T v h=s at ph1 P ph3 ph4 ph5
  have hF2':B.sp (Ax (M.wm q).S.po) v f=f2:=hF2
  have hG2':B.sp (Ax (M.wm q).S.po) v g=g2:=hG2
  have hH2':B.sp (Ax (M.wm q).S.po) v h=s:=hH2
  rw[hF2',hG2',hH2']
  obtain⟨d',hd'⟩:∃d':Nat,(d':Int)=M.S.n-(M.lv v+1):=⟨(M.S.n-(M.lv v+1)).toNat,by omega⟩
  have hdd:d'<d:=by omega
  have U:∀{x:Int},B.Ok M.T x->M.lv v<B.el M.S.n M.lv M.T x->M.At (M.lv v+1) x:=λu s=>⟨u,by omega⟩
  have cofs:∀(cc:Bool){f' g' h':Int},B.Ok M.T f'->B.Ok M.T g'->B.Ok M.T h'->M.lv v<B.el M.S.n M.lv M.T f'->M.lv v<B.el M.S.n M.lv M.T g'->M.lv v<B.el M.S.n M.lv M.T h'->
    (∀a,a v=cc->B.den M.T f a=B.den M.T f' a)->(∀a,a v=cc->B.den M.T g a=B.den M.T g' a)->(∀a,a v=cc->B.den M.T h a=B.den M.T h' a)->B.S6 M.lv (M.lv v+1) F (CU (B.den M.T f') (B.den M.T g') (B.den M.T h')):=λcc f' g' h' o1 o2 o3 l1 l2 l3 e1 e2 e3=>
   hcof.set (v:=v) (c:=cc) (by omega) hkv (Ani r.BS I o1 o2 o3 l1 l2 l3 e1 e2 e3) (Vx r.BS (U o1 l1) (U o2 l2) (U o3 l3))
  have lo0:∀{x x0 x1:Int},(∀a,B.den M.T x a=if a v=true then B.den M.T x1 a else B.den M.T x0 a)->∀a,a v=false->B.den M.T x a=B.den M.T x0 a:=λz a ha=>by grind
  have hi1:∀{x x0 x1:Int},(∀a,B.den M.T x a=if a v=true then B.den M.T x1 a else B.den M.T x0 a)->∀a,a v=true->B.den M.T x a=B.den M.T x1 a:=λz a ha=>by grind
  refine ih d' hdd (M.lv v+1) (M.wm q) H1 _ _ _ F _ _ c1 D v1 (by show M.S.n-_<=_;omega) (by show _<=M.S.n;omega) (U pf1 pf3) (U pg1 pg3) (U ph1 ph3) (cofs false pf1 pg1 ph1 pf3 pg3 ph3 (lo0 pf5) (lo0 Z) (lo0 ph5)) (λM' i l L O E C hp=>hx M' i l L (s1.trans O) E (f1.trans C ⟨rfl,rfl,rfl,rfl,rfl⟩) (hp.step rfl)) λlo M2 H2' c2 s2 cv2 fr2 w2 at2 den2=>?_
  have n:=s1.trans s2
  have I2:=s2.si
  have den2':B.den M2.T lo=CU (B.den M.T f2.1) (B.den M.T g2.1) (B.den M.T s.1):=den2
  have n2:M2.S.n=M.S.n:=n.n
  have lv2:M2.lv=M.lv:=n.lv
  refine ih d' hdd (M.lv v+1) M2 H2' _ _ _ F _ _ c2 I2 s2.mv (by omega) (by omega) (n.at (U J pf4)) (n.at (U K pg4)) (n.at (U P ph4)) (by rw[lv2,n.den r J,n.den r K,n.den r P];exact cofs true J K P pf4 pg4 ph4 (hi1 pf5) (hi1 Z) (hi1 ph5)) (λM' i l L O E C hp=>hx M' i l L (n.trans O) (cv2.trans E) ((f1.trans fr2 ⟨rfl,rfl,rfl,rfl,rfl⟩).trans C n.bs) (hp.step w2)) λhi T H3 c3 s3 cv3 fr3 w3 at3 den3=>?_
  have y:=n.trans s3
  have I3:=s3.si
  have n3:T.S.n=M.S.n:=y.n
  have N:T.lv=M.lv:=y.lv
  have den3':B.den T.T hi=CU (B.den M.T f2.2) (B.den M.T g2.2) (B.den M.T s.2):=by rw[den3,n.den r J,n.den r K,n.den r P]
  have W:B.den T.T lo=CU (B.den M.T f2.1) (B.den M.T g2.1) (B.den M.T s.1):=by rw[s3.den I2 at2.1];omega
  have G:(λa=>if a v=true then B.den T.T hi a else B.den T.T lo a)=CU (B.den M.T f) (B.den M.T g) (B.den M.T h):=by funext a;rw[den3',W];unfold CU;rw[pf5 a,Z a,ph5 a];cases a v<;>rfl
  have fr13:=((f1.trans fr2 ⟨rfl,rfl,rfl,rfl,rfl⟩).trans fr3 n.bs)
  have atl:T.At (T.lv v+1) lo:=by rw[N];exact s3.at at2
  have ath:T.At (T.lv v+1) hi:=by rw[N];omega
  have dv:B.Dep M.S.n M.lv (M.lv v) (CU (B.den M.T f) (B.den M.T g) (B.den M.T h)):=Vx r.BS ⟨R.1,lf⟩ ⟨Y.1,lg⟩ ⟨z.1,lh⟩
  refine XV (F:=F) c3 I3 s3.mv (by omega) atl ath (by rw[N,G];exact hcof.Axx hkv dv) (λM' i l L O E C hp=>hx M' i l L (y.trans O) ((cv2.trans cv3).trans E) (fr13.trans C y.bs) ((hp.step w3).step w2)) λe p H4 c4 s4 cv4 fr4 w4 at4 den4=>?_
  have o:=y.trans s4
  have fr14:=fr13.trans fr4 y.bs
  have A:B.den p.T e=CU (B.den M.T f) (B.den M.T g) (B.den M.T h):=by rw[den4,G]
  have lv4:p.lv=M.lv:=o.lv
  have n4:p.S.n=M.S.n:=o.n
  have at4':p.At k e:=⟨at4.1,by have:=at4.2;rw[N]at this;exact br hkv this⟩
  refine⟨⟨some b⟩,c4.cx,b,rfl,rfl,p.ob,c4.NB.ob,rfl,?_⟩
  refine Aa4 c4.NB.me s4.mv.me λm4 hI4 hen=>?_
  obtain⟨c5,f5⟩:=c4.Alh m4
  have v5:MV (p.wm m4):=⟨hI4,λen hin hfu ho=>by
   rcases hen en hin hfu with h|h
   .exact(s4.mv.en en h hfu ho).ext (M':=p.wm m4) s4.si I4.refl
   .subst h;refine⟨R.1.ext o.se.Ax,Y.1.ext o.se.Ax,z.1.ext o.se.Ax,at4.1,?_,λj u s h3=>?_⟩
    .show B.den p.T e=CU (B.den p.T f) (B.den p.T g) (B.den p.T h);rw[A,o.den r R.1,o.den r Y.1,o.den r z.1]
    .have u:j<=B.el p.S.n (Df p.S.lv) (Ax p.S.po) f:=u;have s:j<=B.el p.S.n (Df p.S.lv) (Ax p.S.po) g:=s;have h3:j<=B.el p.S.n (Df p.S.lv) (Ax p.S.po) h:=h3;rw[L5 o.se R.1]at u;rw[L5 o.se Y.1]at s;rw[L5 o.se z.1]at h3;show j<=B.el p.S.n p.lv p.T e;have h4:=at4.2;rw[N]at h4;have u:j<=B.el M.S.n M.lv M.T f:=u;have s:j<=B.el M.S.n M.lv M.T g:=s;have h3:j<=B.el M.S.n M.lv M.T h:=h3;refine br ?_ h4;show j<=M.lv v;rcases one with h|h|h<;>omega⟩
  have s5:MC p (p.wm m4):=⟨⟨rfl,rfl,rfl,rfl,rfl⟩,I4.refl,s4.si,rfl,rfl,v5⟩
  exact hq e (p.wm m4) _ c5 (o.trans s5) ((cv2.trans cv3).trans cv4) (fr14.trans f5 o.bs) (w4.trans (w3.trans w2)) at4' A
 .obtain⟨c1,f1⟩:=hC.Alh q
  have v1:=wm q u s
  have en:=hV.en e hin hfu (by rw[hkey])
  rw[hkey]at en
  refine hq e.r (M.wm q) _ c1 (stp1 q v1) L1.refl f1 rfl ⟨en.or,en.lev k R.2 Y.2 z.2⟩ en.den
end
theorem Ajt{n k:Int}{lv:Int->Int}{N:B.Tb}{e:Int}{t:Bool}(h:At n lv N k e):At n lv N k (Az e t):=by
 unfold Az;split
 .exact h.flip
 .exact h
theorem Ael{N:B.Tb}{e:Int}{t:Bool}(h:B.Ok N e):B.den N (Az e t)=λa=>(t ^^ B.den N e a):=by
 unfold Az;cases t
 .simp
 .simp only[if_true];rw[B.HM h];funext a;simp
theorem Oj(a b:Bool):not (decide (a=true)==decide (b=true))=(a ^^ b):=by cases a<;>cases b<;>rfl
theorem Anh{c b:Nat}:∀d,Aht c b d:=by
 intro d;induction d using Nat.strongRecOn with
 |_ d ih=>
 intro k M H f g h F X Q u T hV hd hk hf hg hh J hx hq;apply Zz;unfold Sj;refine⟨λn x y=>y=H/\M.At k x.1/\M.At k x.2.1/\M.At k x.2.2.1/\(∀a,CU (B.den M.T x.1) (B.den M.T x.2.1) (B.den M.T x.2.2.1) a=(x.2.2.2.1 ^^ CU (B.den M.T f) (B.den M.T g) (B.den M.T h) a))/\n=3-x.2.2.2.2.1/\x.2.2.2.2.1<=3/\(0<x.2.2.2.2.1->x.1/2≠0),⟨3,rfl,hf,hg,hh,λa=>by simp,rfl,ak _,λh=>qG h (Nat.lt_irrefl 0)⟩,?_⟩;rintro n ⟨v,A,z,j,m,_⟩ y ⟨rfl,K,E,I,L,G,C,s⟩;have hn:n=3-m:=G;have hm:m<=3:=C;have hnc:0<m->v/2≠0:=s;replace K:M.At k v:=K;replace E:M.At k A:=E;replace I:M.At k z:=I;replace L:∀a,CU (B.den M.T v) (B.den M.T A) (B.den M.T z) a=(j ^^ CU (B.den M.T f) (B.den M.T g) (B.den M.T h) a):=L;have q:B.S6 M.lv k F (CU (B.den M.T v) (B.den M.T A) (B.den M.T z)):=by rw[show CU (B.den M.T v) (B.den M.T A) (B.den M.T z)=λa=>(j ^^ CU (B.den M.T f) (B.den M.T g) (B.den M.T h) a) from funext L];exact J.sign j
 have l:∀e o w,MD w c b o->MC M o->L1 M o F->J7 b M y w->o.ws=M.ws->o.At k e->B.den o.T e=CU (B.den M.T v) (B.den M.T A) (B.den M.T z)->Q (Az e j,()) () w:=λe o w c1 c2 Y V W P S=>by refine hq _ o w c1 c2 Y V W (Ajt P) ?_;rw[Ael P.1,S];funext a;rw[L a];cases j<;>simp
 refine⟨λhlt=>Ab3 hk K E I (λr hr D=>⟨λ_=>l r M y u (MC.refl T hV) L1.refl J7.refl rfl hr D,λh=>qG rfl h⟩) (λa b' R t ha hb hc p N=>⟨λh=>(by cases h),λ_=>?_⟩),λU=>?_⟩
 .have hlt':m<3:=hlt;have i:m+1<=9223372036854775807/\∃(m':Nat),m'<n/\(y=y/\M.At k a/\M.At k b'/\M.At k R/\(∀x,CU (B.den M.T a) (B.den M.T b') (B.den M.T R) x=((not (decide (j=true)==decide (t=true))) ^^ CU (B.den M.T f) (B.den M.T g) (B.den M.T h) x))/\m'=3-(m+1)/\m+1<=3/\(0<m+1->a/2≠0)):=
   ⟨by show m+1<=_;omega,3-(m+1),by omega,rfl,ha,hb,hc,λx=>by rw[N x,L x,Oj];cases t<;>cases j<;>simp,rfl,by omega,λ_=>p⟩
  refine⟨λO=>⟨λZ=>⟨λe3=>?_,λ_=>i⟩,λ_=>i⟩,λ_=>i⟩;have O:a=v:=O;have Z:b'=A:=Z;have e3:R=z:=e3;have ht:t=false:=by
   have:=N (λ_=>false);rw[O,Z,e3]at this;cases t
   .rfl
   .simp at this
  subst ht;have et:(not (decide (j=true) == decide (false=true)))=j:=by rw[Oj];simp
  refine⟨c,rfl,⟨some b⟩,u.cx,b,rfl,rfl,M.ob,u.NB.ob,rfl,?_⟩;exact Abn (t:=not (decide (j=true) == decide (false=true))) ih u T hV hd K E I (O▸p) q hx λe o w c1 c2 Y V W P S=>by rw[et];exact l e o w c1 c2 Y V W P S
 .have hge':¬m<3:=U;refine⟨c,rfl,⟨some b⟩,u.cx,b,rfl,rfl,M.ob,u.NB.ob,rfl,?_⟩;exact Abn (t:=j) ih u T hV hd K E I (hnc (by omega)) q hx l
theorem XW{c b:Nat}{M:Mn}{f g h:Int}{H:HY}{X:PX}{Q:Int×Unit->UU}(o:MD H c b M)(d:SI M.S)(u:MV M)(i:B.Ok M.T f)(k:B.Ok M.T g)(j:B.Ok M.T h)(q:∀M' H' l,MD H' c b M'->MC M M'->L1 M M' (CU (B.den M.T f) (B.den M.T g) (B.den M.T h))->J7 b M H H'->WZ M M' l->X 231 l H')(t:∀e M' H',MD H' c b M'->MC M M'->L1 M M' (CU (B.den M.T f) (B.den M.T g) (B.den M.T h))->J7 b M H H'->M'.ws=M.ws->B.Ok M'.T e->B.den M'.T e=CU (B.den M.T f) (B.den M.T g) (B.den M.T h)->Q (e,()) () H'):qK BO BF (some c,f,g,h,()) H Q X:=by
 have m:0<=M.S.n:=B9.Ko;have a:∀{e:Int},B.Ok M.T e->M.At 0 e:=λh=>⟨h,(d.BS.VM h m).1⟩
 exact Anh M.S.n.toNat 0 M H f g h _ X Q o d u (by omega) m (a i) (a k) (a j) (B.S6.refl (Vx d.BS (a i) (a k) (a j))) q λe M' H' r x w n v p s=>t e M' H' r x w n v p.1 s
end Go.Proofs.YtcbkbpjlbmalmaaGreatDoor
namespace Go.Proofs.YtcbkbpjlbmalmaaGreatDoor
open Go Go.X Go.Y Go.RowKit
section
set_option maxRecDepth 20000
section
variable {P:Program} {N:Nat} {f:Fr} {w w':World} {cs cs':List Frame} {ops:Array Oper} {Q:Exit->Act->List Frame->World->Prop}
def WS(P:Program)(N:Nat)(ops:Array Oper)(Q:Exit->Act->List Frame->World->Prop)(l:List Nat)(f:Fr)(cs:List Frame)(w:World):Prop:=∀arr,Is N arr f->wpOpsS P ops Q l ⟨arr,[]⟩ cs w
def WC(P:Program)(N:Nat)(Q:Exit->Act->List Frame->World->Prop)(c:Code)(f:Fr)(cs:List Frame)(w:World):Prop:=∀arr,Is N arr f->c.wpS P Q ⟨arr,[]⟩ cs w
theorem Aum(h:∀arr,Is N arr f->Q .normal ⟨arr,[]⟩ cs w):WS P N ops Q [] f cs w:=λarr a=>h arr a
variable {y:Code}
theorem QT(h:WC P N Q y f cs w):WS P N ops (Exit.thenS (λa cs w=>y.wpS P Q a cs w) Q) [] f cs w:=λb c=>h b c
variable {o:Oper}
theorem NK{y:Nat->Option Bool}(a:o.guard=none):Region.wanted o y=true:=by grind[Region.wanted]
variable {i:Nat} {l:List Nat} {d:Option Tmp} {v:Value}
theorem Js(g:ops[i]?=some o)(m:o.dst=d)(k:o.guard=none)(j:(execOp (ev f) o).run P w=.ok (.value v) w')(h:WS P N ops Q l (put N f d v) cs w'):WS P N ops Q (i::l) f cs w:=λa c=>by
 subst m;obtain⟨p,n,e⟩:=c.put (ds:=[]) o.dst v;have b:(execOp (Act.eval ⟨a,[]⟩) o).run P w=.ok (.value v) w':=by grind[G4]
 simp only[wpOpsS,g,NK k,if_true,b,Oper.upon,n];exact h p e
theorem Afd(e:ops[i]?=some o)(k:o.dst=d)(n:o.guard=none)(g:(execOp (ev f) o).run P w=.ok .skip w')(h:WS P N ops Q l (put N f d undef) cs w'):WS P N ops Q (i::l) f cs w:=λb c=>by
 subst k;obtain⟨p,m,j⟩:=c.put (ds:=[]) o.dst undef;have a:(execOp (Act.eval ⟨b,[]⟩) o).run P w=.ok .skip w':=by grind[G4]
 simp only[wpOpsS,e,NK n,if_true,a,Oper.upon,m];exact h p j
theorem Aul(p:ops[i]?=some o)(n:o.dst=d)(m:o.guard=none)(j:(execOp (ev f) o).run P w=.ok .recover w')(a:recoverD cs=some (v,cs'))(h:WS P N ops Q l (put N f d v) cs' w'):WS P N ops Q (i::l) f cs w:=λb e=>by
 subst n;obtain⟨g,k,q⟩:=e.put (ds:=[]) o.dst v;have c:(execOp (Act.eval ⟨b,[]⟩) o).run P w=.ok .recover w':=by grind[G4]
 simp only[wpOpsS,p,NK m,if_true,c,a,k];exact h g q
theorem KP{id:Nat}(h:WS P N ops Q (List.range ops.size) f cs w):WC P N Q (.region id ops false) f cs w:=λa b=>wpS_region (h a b)
theorem NJ{x:Code}(h:WC P N (Exit.thenS (λa cs w=>y.wpS P Q a cs w) Q) x f cs w):WC P N Q (.seq x y) f cs w:=λb c=>wpS_seq (h b c)
theorem Yv{c:Operand}{x:Code}{t:Bool}(d:ev f c=.bool t)(h:WC P N Q (if t then x else y) f cs w):WC P N Q (.cond c x y) f cs w:=λa b=>wpS_cond (t:=t) (by rw[G4 b];exact d) (h a b)
theorem Aff(h:∀arr,Is N arr f->Q .normal ⟨arr,[]⟩ cs w):WC P N Q .skip f cs w:=λarr a=>wpS_of_wp (wp_skip (h arr a))
theorem Aup(h:∀arr,Is N arr f->Q .ret ⟨arr,[]⟩ cs w):WC P N Q .ret f cs w:=λarr a=>wpS_of_wp (wp_ret (h arr a))
theorem Iq{op:Op}{ty:TypeId}(h:∀(a:String)(b:Array Edge)(K:Fr->World->Prop),K (put 1 f (some 0) v) w'->WL P 1 #[] (λ_ _=>False) true K [⟨some 0,op,ty,a,b,none⟩] f w)(dst:Option Tmp)(a:String)(b:Array Edge):(execOp (ev f) ⟨dst,op,ty,a,b,none⟩).run P w=.ok (.value v) w':=by
 have c:=h a b (λi d=>i 0=v/\d=w') ⟨rfl,rfl⟩;simp only[WL,Region.wanted,if_true]at c;obtain⟨g,d,e,j,k⟩:=ZA _ c;have l:g=v:=by simp_all[put,DG]
 rw[l,k]at e;exact e
end
variable {v:Value}
theorem Dj{N d:Nat}{f:Fr}(h:d<N):put N f (some d) v d=v:=by simp [put,DG,h]
theorem AZ{N d j:Nat}{f:Fr}(h:j≠d):put N f (some d) v j=f j:=by simp [put,DG,h]
theorem Aw7{vs:List Value}{n:Nat}:Is (vs.length+n) (⟨vs⟩++bw n undef) (Wo vs):=by refine⟨by simp,λi=>?_⟩;rw[<-L8,aq,az];grind
theorem ZN{P:Program}{N n:Nat}{Q:Exit->Act->List Frame->World->Prop}{c:Code}{vs:List Value}{cs:List Frame}{w:World}(hN:vs.length+n=N)(h:WC P N Q c (Wo vs) cs w):c.wpS P Q {tmps:=⟨vs⟩++bw n undef,defers:=[]} cs w:=h _ (hN▸Aw7)
theorem Akz{bd bs:Nat}{w:World}{ed:TypeId}{I:Cc}{T:Bd}(hs:St I w ([(bd,.cells #[.bool true] ed (0,0))]++T)):CallsD Y0.P Oz ⟨[.pointer (some ⟨bd,0,none⟩),.pointer (some ⟨bs,0,none⟩)]⟩ .returning w λe u' w'=>e=.returned (.tuple #[])/\u'=.returning/\w'=w:=by refine callsD_of_wpS (fn:=Tryz.f256) (by kernel_rfl) rfl λc₀ cs hu=>?_;refine ZN (N:=16) (n:=14) rfl ?_;refine NJ (NJ (KP (Js (d:=some 5) (i:=0) (l:=[]) rfl rfl rfl (Iq (w':=w) (v:=.bool true) (λpos af K hk=>Uo (by kernel_rfl) hs rfl rfl hk) _ _ _) (QT ?_))));refine Yv (t:=true) (Dj (by decide)) (Aup λarr' ha'=>?_);exact⟨rfl,.returning,by cases c₀;cases hu;rfl,.tuple #[],results_none rfl _ _ _,rfl,rfl,rfl⟩
theorem SQ{P:Program}{f:Fr}{w:World}{e:TypeId}{z:Value}(a:zrB P e z)(dst:Option Tmp)(ty:TypeId)(b:String)(d:Array Edge):(execOp (ev f) ⟨dst,.alloc e,ty,b,d,none⟩).run P w=.ok (.value (.pointer (some ⟨w.heap.size,0,none⟩))) (w.alloc (.cells z.cells e)):=by
 unfold zrB at a;cases c:P.info? e with
 |none=>grind
 |some i=>
  simp only[c,bb]at a;simp_all[execOp,Instr.alloc,newVar,newRow,zeroValue,typeInfo]
variable {x:Operand}
theorem LW{P:Program}{f:Fr}{w:World}(h:ev f x=v)(dst:Option Tmp)(ty:TypeId)(pos:String)(af:Array Edge):(execOp (ev f) ⟨dst,.move x,ty,pos,af,none⟩).run P w=.ok (.value v) w:=by simp [execOp,h]
theorem MU{P:Program}{f:Fr}{w:World}(h:ev f x=v)(dst:Option Tmp)(ty:TypeId)(pos:String)(af:Array Edge):(execOp (ev f) ⟨dst,.assign x,ty,pos,af,none⟩).run P w=.ok (.value v) w:=by simp [execOp,h]
theorem YB{P:Program}{f:Fr}{w w':World}{t:TypeId}{y:Operand}{p:Value}(b:ev f x=p)(c:ev f y=v)(h:(Instr.storeAt t p v).run P w=.ok () w')(dst:Option Tmp)(ty:TypeId)(a:String)(d:Array Edge):(execOp (ev f) ⟨dst,.store t x y,ty,a,d,none⟩).run P w=.ok .skip w':=by simp_all[execOp]
theorem Ak0{bd bs:Nat}{w:World}{ed es:TypeId}{ar:Array Value}{I:Cc}{T:Bd}{u:Value}{st:EK}(hs:St I w ([(bs,.cells ar es (0,0))]++([(bd,.cells #[.bool false] ed (0,0))]++T)))(has:ar.size=5)(hu:rp Y0.toUS (.u 15) I w u st):CallsD Y0.P Oz ⟨[.pointer (some ⟨bd,0,none⟩),.pointer (some ⟨bs,0,none⟩)]⟩ (.panicking [{v:=.iface 231 u,recovered:=false}]) w λe u' w'=>e=.returned (.tuple #[])/\u'=.panicking [{v:=.iface 231 u,recovered:=true}]/\Ext I w I w'/\∃row:Array Value,row.toList=u.cells.toList/\St I w' ([(bs,.cells row es (0,0))]++([(bd,.cells #[.bool false] ed (0,0))]++T)):=by
 obtain⟨us,rfl,hF⟩:=GM.1 hu;have hus:us.length=5:=by rw[hF.len];rfl
 have huc:(Value.agg ⟨us⟩).cells=⟨us⟩:=rfl;have hone:∀v∈(Value.agg ⟨us⟩).cells.toList,v.oneCell'=true:=Wh hF Py;have h231:OZ Y0.P 231 true 5=true:=by kernel_rfl
 have hz:∃z,zrB Y0.P 231 z/\z.cells.size=5:=⟨.agg #[.int .i64 0,.bool false,.int .i64 0,.int .i64 0,.int .i64 0],by unfold zrB;kernel_rfl,rfl⟩
 obtain⟨z,hz1,hz2⟩:=hz;have hst:FX Y0.P 231 Ab7=true:=by kernel_rfl
 obtain⟨fs,hfs⟩:∃fs,Y0.P.underlying 231=some (.struct fs):=by
  unfold FX at hst;split at hst
  .rename_i d hd;cases d<;>simp [Ab7]at hst;exact⟨_,hd⟩
  .cases hst
 refine callsD_of_wpS (fn:=Tryz.f256) (by kernel_rfl) rfl λc₀ cs hm=>?_;refine ZN (N:=16) (n:=14) rfl ?_;have hrec:recoverD (c₀::cs)=some (.iface 231 (.agg ⟨us⟩),{c₀ with mode:=.panicking [{v:=.iface 231 (.agg ⟨us⟩),recovered:=true}]}::cs):=by simp [recoverD,hm]
 generalize hf0:Wo [.pointer (some ⟨bd,0,none⟩),.pointer (some ⟨bs,0,none⟩)]=f;have f0:f 0=.pointer (some ⟨bd,0,none⟩):=by rw[<-hf0];rfl
 have f1:f 1=.pointer (some ⟨bs,0,none⟩):=by rw[<-hf0];rfl
 refine NJ (NJ (KP (Js (d:=some 5) (i:=0) (l:=[]) rfl rfl rfl (Iq (w':=w) (v:=.bool false) (λpos af K hk=>Uo (by kernel_rfl) hs.W8 (by exact f0) rfl hk) _ _ _) (QT ?_))));refine Yv (t:=false) (Dj (by decide)) (Aff λarr ha=>?_);refine(?_:WC _ 16 _ _ _ _ _) arr ha;refine NJ (KP (Aul (d:=some 6) (i:=0) (l:=[1]) rfl rfl rfl (by simp [execOp,resolve,invoke,builtin];rfl) hrec ?_));refine Js (d:=some 2) (i:=1) (l:=[]) (v:=.iface 231 (.agg ⟨us⟩)) rfl rfl rfl (MU ?_ _ _ _ _) (QT ?_)
 .exact Dj (by decide)
 generalize hg:put 16 (put 16 (put 16 f (some 5) (.bool false)) (some 6) (.iface 231 (.agg ⟨us⟩))) (some 2) (.iface 231 (.agg ⟨us⟩))=g;have g1:g 1=.pointer (some ⟨bs,0,none⟩):=by rw[<-hg,AZ (by decide),AZ (by decide),AZ (by decide),f1]
 have g2:g 2=.iface 231 (.agg ⟨us⟩):=by rw[<-hg];exact Dj (by decide)
 change WC _ _ _ _ g _ _;refine NJ (KP (Js (d:=some 8) (i:=0) (l:=[1,2,3,4,5,6,7]) (v:=.iface 231 (.agg ⟨us⟩)) rfl rfl rfl (LW ?_ _ _ _ _) ?_))
 .exact g2
 refine Js (w':=w) (d:=some 9) (i:=1) (v:=.tuple #[.agg ⟨us⟩,.bool true]) rfl rfl rfl ?_ ?_
 .have:ev (put 16 g (some 8) (.iface 231 (.agg ⟨us⟩))) (.tmp 8)=.iface 231 (.agg ⟨us⟩):=Dj (by decide);simp [execOp,Instr.typeAssert,this,run_underlying hfs]
 refine Js (d:=some 7) (i:=2) (v:=.tuple #[.agg ⟨us⟩,.bool true]) rfl rfl rfl (LW ?_ _ _ _ _) ?_
 .exact Dj (by decide)
 generalize hg2:put 16 (put 16 (put 16 g (some 8) (.iface 231 (.agg ⟨us⟩))) (some 9) (.tuple #[.agg ⟨us⟩,.bool true])) (some 7) (.tuple #[.agg ⟨us⟩,.bool true])=k;have k1:k 1=.pointer (some ⟨bs,0,none⟩):=by rw[<-hg2,AZ (by decide),AZ (by decide),AZ (by decide),g1]
 have k7:k 7=.tuple #[.agg ⟨us⟩,.bool true]:=by rw[<-hg2];exact Dj (by decide)
 change WS _ _ _ _ _ k _ _;refine Js (w':=w) (d:=some 10) (i:=3) (v:=.agg ⟨us⟩) rfl rfl rfl ?_ ?_
 .have:ev k (.tmp 7)=.tuple #[.agg ⟨us⟩,.bool true]:=k7;simp [execOp,Instr.extract,this]
 refine Js (w':=w) (d:=some 11) (i:=4) (v:=.bool true) rfl rfl rfl ?_ ?_
 .have:ev (put 16 k (some 10) (.agg ⟨us⟩)) (.tmp 7)=.tuple #[.agg ⟨us⟩,.bool true]:=by show put 16 k (some 10) _ 7=_;rw[AZ (by decide),k7]
  simp [execOp,Instr.extract,this]
 obtain⟨e1,s1⟩:=hs.alloc (.cells z.cells 231);refine Js (d:=some 3) (i:=5) (v:=.pointer (some ⟨w.heap.size,0,none⟩)) rfl rfl rfl (SQ hz1 _ _ _ _) ?_;generalize hg3:put 16 (put 16 (put 16 k (some 10) (.agg ⟨us⟩)) (some 11) (.bool true)) (some 3) (.pointer (some ⟨w.heap.size,0,none⟩))=m;have m1:m 1=.pointer (some ⟨bs,0,none⟩):=by rw[<-hg3,AZ (by decide),AZ (by decide),AZ (by decide),k1]
 have m3:m 3=.pointer (some ⟨w.heap.size,0,none⟩):=by rw[<-hg3];exact Dj (by decide)
 have m10:m 10=.agg ⟨us⟩:=by rw[<-hg3,AZ (by decide),AZ (by decide)];exact Dj (by decide)
 have m11:m 11=.bool true:=by rw[<-hg3,AZ (by decide)];exact Dj (by decide)
 change WS _ _ _ _ _ m _ _;obtain⟨w2,row2,r2,e2,s2,hr2⟩:=Go.Y.storeCells (P:=Y0.P) (t:=231) (y:=.agg ⟨us⟩) (o:=0) (n:=5) h231 s1 (by rw[huc];exact hus) hone (by omega);refine Afd (d:=none) (i:=6) (w':=w2) rfl rfl rfl (YB (p:=.pointer (some ⟨w.heap.size,0,none⟩)) (v:=.agg ⟨us⟩) ?_ ?_ r2 _ _ _ _) ?_
 .exact m3
 .exact m10
 have hr2':row2.toList=us:=by
  rw[hr2,huc];have:z.cells.toList.length=5:=by simpa using hz2
  simp [be,this]
 refine Js (d:=some 4) (i:=7) (l:=[]) (v:=.bool true) rfl rfl rfl (MU ?_ _ _ _ _) (QT ?_)
 .exact m11
 refine NJ (NJ (KP (Js (d:=some 12) (i:=0) (l:=[1]) (v:=.bool true) rfl rfl rfl (LW ?_ _ _ _ _) ?_)))
 .exact Dj (by decide)
 refine Js (w':=w2) (d:=some 13) (i:=1) (l:=[]) (v:=.bool false) rfl rfl rfl ?_ (QT ?_)
 .have:ev (put 16 (put 16 (put 16 m none undef) (some 4) (.bool true)) (some 12) (.bool true)) (.tmp 12)=.bool true:=Dj (by decide);simp only[execOp];rfl
 refine Yv (t:=false) (Dj (by decide)) (Aff λarr2 ha2=>?_);refine(?_:WC _ 16 _ _ _ _ _) arr2 ha2;generalize hg4:put 16 (put 16 (put 16 (put 16 m none undef) (some 4) (.bool true)) (some 12) (.bool true)) (some 13) (.bool false)=p;have p1:p 1=.pointer (some ⟨bs,0,none⟩):=by rw[<-hg4,AZ (by decide),AZ (by decide),AZ (by decide)];exact m1
 have p3:p 3=.pointer (some ⟨w.heap.size,0,none⟩):=by rw[<-hg4,AZ (by decide),AZ (by decide),AZ (by decide)];exact m3
 refine KP (Js (d:=some 15) (i:=0) (l:=[1]) (v:=.agg ⟨us⟩) (w':=w2) rfl rfl rfl (Iq (λpos af K hk=>Rz (n:=5) h231 s2 (by exact p3) (vs:=us) (by rw[hr2',<-hus];simp) hus hk) _ _ _) ?_);have s3:St I w2 ([(bs,.cells ar es (0,0))]++([(w.heap.size,.cells row2 231 (0,0))]++([(bd,.cells #[.bool false] ed (0,0))]++T))):=s2.W8;obtain⟨w3,row3,r3,e3,s4,hr3⟩:=Go.Y.storeCells (P:=Y0.P) (t:=231) (y:=.agg ⟨us⟩) (o:=0) (n:=5) h231 s3 (by rw[huc];exact hus) hone (by omega);refine Afd (d:=none) (i:=1) (l:=[]) (w':=w3) rfl rfl rfl (YB (p:=.pointer (some ⟨bs,0,none⟩)) (v:=.agg ⟨us⟩) ?_ ?_ r3 _ _ _ _) (Aum λarr3 ha3=>?_)
 .show put 16 p (some 15) _ 1=_;rw[AZ (by decide),p1]
 .exact Dj (by decide)
 have hr3':row3.toList=us:=by
  rw[hr3,huc];have:ar.toList.length=5:=by simpa using has
  simp [be,this]
 refine⟨rfl,.panicking [{v:=.iface 231 (.agg ⟨us⟩),recovered:=true}],rfl,.tuple #[],results_none rfl _ _ _,rfl,rfl,e1.trans (e2.trans e3),row3,by rw[hr3',huc],?_⟩;have:St I w3 ([(w.heap.size,.cells row2 231 (0,0))]++([(bs,.cells row3 es (0,0))]++([(bd,.cells #[.bool false] ed (0,0))]++T))):=s4.W8;exact this.drop
end
section
set_option maxRecDepth 100000
set_option maxHeartbeats 1000000
noncomputable def Yn:Go.Y.Sys:={Y0 with gls:=λ_=>none}
theorem A0l(a:I5 Yn [FQ])(F:I5 Yn [.bool]):((decide ¬a.1=a.1,PUnit.unit)=F)=pfP (Y:=Yn) (λ_=>none) Tryz.f265 [FQ] [.bool] a F:=by kernel_rfl
noncomputable def Azq:PF Yn 265 where
 ta:=[FQ]
 tr:=[.bool]
 Mg:=none
 F a:=(false,())
 pa:=rfl
 pr:=rfl
 can:=by kernel_rfl
 ok a hr _ I w hG:=Ld (pf:=λ_=>none) (fn:=Tryz.f265) (by kernel_rfl) rfl rfl hr (Eq.mp (A0l a _) (by show (decide ¬a.1=a.1,())=(false,());simp)) I w hG
theorem Awf(a:I5 Yn [FQ])(F:I5 Yn [.bool]):((decide ¬a.1=a.1,PUnit.unit)=F)=pfP (Y:=Yn) (λ_=>none) Tryz.f280 [FQ] [.bool] a F:=by kernel_rfl
noncomputable def Avr:PF Yn 280 where
 ta:=[FQ]
 tr:=[.bool]
 Mg:=none
 F a:=(false,())
 pa:=rfl
 pr:=rfl
 can:=by kernel_rfl
 ok a hr _ I w hG:=Ld (pf:=λ_=>none) (fn:=Tryz.f280) (by kernel_rfl) rfl rfl hr (Eq.mp (Awf a _) (by show (decide ¬a.1=a.1,())=(false,());simp)) I w hG
noncomputable def pfC:(q:FuncId)->Option (PF Yn q)
 |265=>some Azq
 |280=>some Avr
 |_=>none
def I1(x y:Int):Int:=if x<y then -1 else if y<x then 1 else 0
theorem A1d(a:I5 Yn [FQ,FQ])(F:I5 Yn [FQ]):((false=true->(false=true->((0:Int),PUnit.unit)=F)/\(¬false=true->((-1:Int),PUnit.unit)=F))/\(¬false=true->(false=true->((1:Int),PUnit.unit)=F)/\(¬false=true->(a.1<a.2.1->((-1:Int),PUnit.unit)=F)/\(¬a.1<a.2.1->(a.2.1<a.1->((1:Int),PUnit.unit)=F)/\(¬a.2.1<a.1->((0:Int),PUnit.unit)=F)))))=pfP (Y:=Yn) pfC Tryz.f272 [FQ,FQ] [FQ] a F:=by kernel_rfl
theorem Ajo(x y:Int)(hx:Bn .i64 x)(hy:Bn .i64 y)(w:World):Calls Y0.P 272 #[.int .i64 x,.int .i64 y] w λe w'=>e=.returned (.int .i64 (I1 x y))/\w'=w:=by
 have h:=Ld (Y:=Yn) (pf:=pfC) (fn:=Tryz.f272) (q:=272) (a:=(show I5 Yn [FQ,FQ] from (x,y,()))) (F:=(show I5 Yn [FQ] from (I1 x y,()))) (by kernel_rfl) rfl rfl ⟨hx,hy,trivial⟩ (Eq.mp (A1d (x,y,()) (I1 x y,())) (by
  refine⟨λh=>qG h (by simp),λ_=>⟨λh=>qG h (by simp),λ_=>⟨λh=>?_,λh=>⟨λh2=>?_,λh2=>?_⟩⟩⟩⟩
  .have h':x<y:=h;show ((-1:Int),())=(I1 x y,());unfold I1;rw[UV h']
  .have h':¬x<y:=h;have h2':y<x:=h2;show ((1:Int),())=(I1 x y,());unfold I1;rw[GT h',UV h2']
  .have h':¬x<y:=h;have h2':¬y<x:=h2;show ((0:Int),())=(I1 x y,());unfold I1;rw[GT h',GT h2'])) (λ_=>False) w ⟨λ_ h=>h.elim,λg q hq=>by cases hq⟩
 exact Calls.mono h λe w' he=>⟨he.1,he.2.1⟩
theorem Ax5(a:I5 Yn [FQ,FQ])(F:I5 Yn [FQ]):((false=true->(false=true->((0:Int),PUnit.unit)=F)/\(¬false=true->((-1:Int),PUnit.unit)=F))/\(¬false=true->(false=true->((1:Int),PUnit.unit)=F)/\(¬false=true->(a.1<a.2.1->((-1:Int),PUnit.unit)=F)/\(¬a.1<a.2.1->(a.2.1<a.1->((1:Int),PUnit.unit)=F)/\(¬a.2.1<a.1->((0:Int),PUnit.unit)=F)))))=pfP (Y:=Yn) pfC Tryz.f273 [FQ,FQ] [FQ] a F:=by kernel_rfl
theorem VW(x y:Int)(hx:Bn .i64 x)(hy:Bn .i64 y)(w:World):Calls Y0.P 273 #[.int .i64 x,.int .i64 y] w λe w'=>e=.returned (.int .i64 (I1 x y))/\w'=w:=by
 have h:=Ld (Y:=Yn) (pf:=pfC) (fn:=Tryz.f273) (q:=273) (a:=(show I5 Yn [FQ,FQ] from (x,y,()))) (F:=(show I5 Yn [FQ] from (I1 x y,()))) (by kernel_rfl) rfl rfl ⟨hx,hy,trivial⟩ (Eq.mp (Ax5 (x,y,()) (I1 x y,())) (by
  refine⟨λh=>qG h (by simp),λ_=>⟨λh=>qG h (by simp),λ_=>⟨λh=>?_,λh=>⟨λh2=>?_,λh2=>?_⟩⟩⟩⟩
  .have h':x<y:=h;show ((-1:Int),())=(I1 x y,());unfold I1;rw[UV h']
  .have h':¬x<y:=h;have h2':y<x:=h2;show ((1:Int),())=(I1 x y,());unfold I1;rw[GT h',UV h2']
  .have h':¬x<y:=h;have h2':¬y<x:=h2;show ((0:Int),())=(I1 x y,());unfold I1;rw[GT h',GT h2'])) (λ_=>False) w ⟨λ_ h=>h.elim,λg q hq=>by cases hq⟩
 exact Calls.mono h λe w' he=>⟨he.1,he.2.1⟩
end
section
set_option maxRecDepth 100000
set_option maxHeartbeats 1000000
def orI(l:Nat->Int):Int:=if l 0=0 then if l 1=0 then l 2 else l 1 else l 0
theorem Al9{W:World}{rb:Nat}{e:TypeId}{fr:Nat×Nat}{cs:Array Value}{l:Nat->Int}(hb:W.heap[rb]?=some (.cells cs e fr))(hc:∀j,j<3->cs[j]?=some (.int .i64 (l j))):Calls Y0.P 271 #[.slice (some ⟨rb,0,none⟩) 3 3] W λe w'=>e=.returned (.int .i64 (orI l))/\w'=W:=by
 refine Ix (F:=Tryz.f271) (N:=18) (vs:=[.slice (some ⟨rb,0,none⟩) 3 3]) (by kernel_rfl) rfl rfl (by simp) ?_;have hs23:Wn Y0.P 23 3 1 8=true:=by kernel_rfl
 have h3:OZ Y0.P 3 false 1=true:=by kernel_rfl
 generalize hf0:Wo [.slice (some ⟨rb,0,none⟩) 3 3]=f0;have f00:f0 0=.slice (some ⟨rb,0,none⟩) 3 3:=by rw[<-hf0];rfl
 have ret:∀{f:Fr}{k:List Item},f 2=.int .i64 (orI l)->WT Y0.P ⟨271,none,[]⟩ 18 (.code .ret::k) (Ajz Y0.P Tryz.f271 18 λe w'=>e=.returned (.int .i64 (orI l))/\w'=W) f W:=λ{f k}h2=>
  MF ⟨.int .i64 (orI l),λa ha=>by refine Gv (vs:=[.int .i64 (orI l)]) ?_;have hR:Tryz.f271.results.toList=[.tmp 2]:=rfl;have h4:=ha.2 2;rw[h2,aq]at h4;rw[hR];simp [bz,PO,h4],rfl,rfl⟩
 refine Dz (CJ (Aw (v:=.int .i64 0) (MU rfl _ _ _ _) ?_));refine Dz (CJ (Aw (v:=.int .i64 0) (MU rfl _ _ _ _) ?_));generalize hf1:put 18 (put 18 f0 (some 2) (.int .i64 0)) (some 3) (.int .i64 0)=f1;have f10:f1 0=.slice (some ⟨rb,0,none⟩) 3 3:=by rw[<-hf1];simp [put,DG,f00]
 have f13:f1 3=.int .i64 0:=by rw[<-hf1];simp [put,DG]
 refine Dz (Dz (CJ (Aw (v:=.slice (some ⟨rb,0,none⟩) 3 3) (LW (x:=.tmp 0) f10 _ _ _ _) (Aw (w':=W) (v:=.int .i64 3) ?_ (Aw (v:=.int .i64 0) (LW rfl _ _ _ _) ?_)))))
 .have:ev (put 18 f1 (some 6) (.slice (some ⟨rb,0,none⟩) 3 3)) (.tmp 6)=.slice (some ⟨rb,0,none⟩) 3 3:=by simp [ev,put,DG]
  simp [execOp,resolve,invoke,builtin,Builtin.len_,this,run_underlying (EE hs23).under,goInt]
 generalize hf2:put 18 (put 18 (put 18 f1 (some 6) (.slice (some ⟨rb,0,none⟩) 3 3)) (some 7) (.int .i64 3)) (some 8) (.int .i64 0)=f2;have f23:f2 3=.int .i64 0:=by rw[<-hf2];simp [put,DG,f13]
 have f26:f2 6=.slice (some ⟨rb,0,none⟩) 3 3:=by rw[<-hf2];simp [put,DG]
 have f27:f2 7=.int .i64 3:=by rw[<-hf2];simp [put,DG]
 have f28:f2 8=.int .i64 0:=by rw[<-hf2];simp [put,DG]
 refine KU (Yr (λn f w=>w=W/\∃j:Nat,n=3-j/\j<=3/\f 3=.int .i64 0/\f 6=.slice (some ⟨rb,0,none⟩) 3 3/\f 7=.int .i64 3/\f 8=.int .i64 (j:Int)/\∀i,i<j->l i=0) 3 ⟨rfl,0,rfl,by omega,f23,f26,f27,f28,λi hi=>qG hi (by omega)⟩ ?_);rintro n f w ⟨rfl,j,hn,hj,g3,g6,g7,g8,hz⟩ ih;refine Dz (CJ (Aml (a:=(j:Int)) (b:=3) (kd:=.i64) g8 g7 ?_));by_cases hlt:j<3
 .have hd:decide ((j:Int)<3)=true:=by simp;omega
  rw[hd];refine Dz (QR (by simp [ev,put,DG]) (QS ?_));refine Dz (KU (Dz (CJ (Aw (w':=w) (v:=.pointer (some ⟨rb,j,none⟩)) ?_ (Aw (w':=w) (v:=.int .i64 (l j)) ?_ (Aw (w':=w) (v:=.int .i64 (l j)) ?_ ?_))))))
  .have e6:ev (put 18 f (some 9) (.bool true)) (.tmp 6)=.slice (some ⟨rb,0,none⟩) 3 3:=by simp [ev,put,DG,g6]
   have e8:ev (put 18 f (some 9) (.bool true)) (.tmp 8)=.int .i64 (j:Int):=by simp [ev,put,DG,g8]
   have h1:(0:Int)<=j/\(j:Int)<(3:Nat):=by omega
   have hsl:=EE hs23;simp [execOp,Instr.indexAt,e6,e8,asIntOf,run_underlying hsl.under,hsl.size,DF];omega
  .have e10:ev (put 18 (put 18 f (some 9) (.bool true)) (some 10) (.pointer (some ⟨rb,j,none⟩))) (.tmp 10)=.pointer (some ⟨rb,j,none⟩):=by simp [ev,put,DG]
   have hcell:w.cell? ⟨rb,j,none⟩=some (.int .i64 (l j)):=by rw[Bo hb];exact hc j hlt
   simp [execOp,Instr.loadAt,e10,Instr.sureAddr,loadVar,(GB (w:=w) h3).1,hcell]
  .exact MU (by simp [ev,put,DG]) _ _ _ _
  refine Dz (CJ (Aw (v:=.int .i64 (l j)) (LW (by simp [ev,put,DG]) _ _ _ _) (Aw (v:=.int .i64 0) (LW (by simp [ev,put,DG,g3]) _ _ _ _) (Amk (a:=l j) (b:=0) (kd:=.i64) (by simp [ev,put,DG]) (by simp [ev,put,DG]) ?_))));by_cases h0:l j=0
  .have hd2:(!decide (l j=0))=false:=by simp [h0]
   rw[hd2];refine NH (by simp [ev,put,DG]) (QS (KT ?_));refine CJ (Agc (a:=(j:Int)) (b:=1) (kd:=.i64) (by simp [ev,put,DG,g8]) rfl (Aw (v:=.int .i64 ((j+1:Nat):Int)) (LW ?_ _ _ _ _) ?_))
   .have:IntKind.i64.wrap ((j:Int)+1)=((j+1:Nat):Int):=by have h2:Bn .i64 ((j:Int)+1):=A7.2 (by omega);rw[EL h2];omega
    simp [ev,put,DG,this]
   .refine ih.out (3-(j+1)) _ _ (by omega) ⟨rfl,j+1,rfl,by omega,by simp [put,DG,g3],by simp [put,DG,g6],by simp [put,DG,g7],by simp [put,DG],λi hi=>?_⟩;by_cases e:i=j
    .rw[e];exact h0
    .exact hz i (by omega)
  .have hd2:(!decide (l j=0))=true:=by simp [h0]
   rw[hd2];have ho:orI l=l j:=by
    unfold orI;match j,hlt with
    |0,_=>rw[GT h0]
    |1,_=>rw[UV (hz 0 (by omega)),GT h0]
    |2,_=>rw[UV (hz 0 (by omega)),UV (hz 1 (by omega))]
   refine QR (by simp [ev,put,DG]) (Dz (CJ (Aw (v:=.int .i64 (l j)) (LW (by simp [ev,put,DG]) _ _ _ _) (Aw (v:=.int .i64 (l j)) (MU (by simp [ev,put,DG]) _ _ _ _) ?_))));exact ret (by rw[ho];simp [put,DG])
 .have hd:decide ((j:Int)<3)=false:=by simp;omega
  rw[hd];refine Dz (NH (by simp [ev,put,DG]) (Ui (by simp [exitTo];rfl) ?_));have ho:orI l=0:=by unfold orI;rw[UV (hz 0 (by omega)),UV (hz 1 (by omega)),hz 2 (by omega)]
  refine Dz (CJ (Aw (v:=.int .i64 0) (LW (by simp [ev,put,DG,g3]) _ _ _ _) (Aw (v:=.int .i64 0) (MU (by simp [ev,put,DG]) _ _ _ _) ?_)));exact ret (by rw[ho];simp [put,DG])
end
section
set_option maxRecDepth 100000
set_option maxHeartbeats 2000000
section
variable {P:Program} {φ:FK} {N:Nat} {k:List Item} {R:Qp->World->Prop} {f:Fr} {w:World} {ops:Array Oper} {S:World->Prop} {n:Nat} {l:Array Bool} {E:List Nat}
theorem At3{i:Nat}{o:Oper}(hi:ops[i]?=some o)(d:Region.ready .any ops l=[i])(h:WL P N ops (φ.at R) false (λf' w'=>S w'/\WG P φ N ops k R S n (l.setIfInBounds i true) f' w') [o] f w):WG P φ N ops k R S (n+1) l f w:=λa p=>by refine⟨λm=>qG (d.symm.trans m) (by simp),λj c=>?_⟩;rw[d,a4]at c;subst c;exact Pp p hi (λf' w' e g b=>⟨b.1,b.2 e g⟩) h
theorem A1a{i:Nat}{o:Oper}(hi:ops[i]?=some o)(m:E.contains i=true)(c:Region.ready .any ops l=[i])(h:WL P N ops (φ.at R) false (λf' w'=>S w'/\WG P φ N ops k R S n (l.setIfInBounds i true) f' w') [o] f w):WE P φ N ops k R S E (n+1) l f w:=λa q=>by refine⟨λp=>qG (c.symm.trans p) (by simp),λj e=>?_⟩;rw[c,a4]at e;subst e;refine(Pp (ds:=φ.ds) q hi (K':=λb w'=>S w'/\Wl P ops (φ.at R) (VG P φ N k R) S n (l.setIfInBounds j true) b w') (λf' w' b r d=>⟨d.1,d.2 b r⟩) h).mono λb w' g=>?_;grind
theorem Axj(c:Region.ready .any ops l=[])(h:WT P φ N k R f w):WG P φ N ops k R S 0 l f w:=λ_ b=>⟨c,rfl,f,b,h⟩
end
structure ClW(W:World)(ab ao tb mb:Nat)(m:List (K2×Int)):Prop where
 box:W.cell? ⟨ab,ao,none⟩=some (.pointer (some ⟨tb,0,none⟩))
 tab:W.cell? ⟨tb,0,none⟩=some (.map (some mb))
 map:∃es cl,W.heap[mb]?=some (.map es cl)/\Ws Y0 (.u 17) I6 (λ_=>False) W [(mb,.map es cl)] (.map (some mb)) m
variable {x:K2}
theorem Alp{I I':Cc}{w w':World}{v:Value}(h:rp Y0.toUS (.u 17) I w v x):rp Y0.toUS (.u 17) I' w' v x:=by obtain⟨f,rfl,e⟩:=GM.1 h;refine GM.2 ⟨f,rfl,?_⟩;cases e with|cons a b=>cases b with|cons c d=>cases d;exact .cons (AT.2 (AT.1 a)) (.cons (AT.2 (AT.1 c)) .nil)
theorem ClW.BD{W W':World}{ab ao tb mb:Nat}{m:List (K2×Int)}(h:ClW W ab ao tb mb m)(e:∀b,b=ab∨b=tb∨b=mb->W'.heap[b]?=W.heap[b]?):ClW W' ab ao tb mb m:=by
 obtain⟨n,q,p,f⟩:=h.map;refine⟨?_,?_,n,q,?_,?_⟩
 .rw[cell?_of_heap (e ab (.inl rfl))];exact h.box
 .rw[cell?_of_heap (e tb (.inr (.inl rfl)))];exact h.tab
 .grind
 .obtain⟨b,d,c,k,l,o,i⟩:=@Cz.ex _ _ (RT Y0.toUS (.u 17)) (RT Y0.toUS I6) _ _ _ _ _ f;exact @Cz.mk _ _ (RT Y0.toUS (.u 17)) (RT Y0.toUS I6) _ _ _ _ _ ⟨b,d,c,k,l,o,λj g a=>⟨Alp (i j g a).1,AT.2 (AT.1 (i j g a).2)⟩⟩ (@Cz.bo _ _ (RT Y0.toUS (.u 17)) (RT Y0.toUS I6) _ _ _ _ _ f)
def ZF(m:List (K2×Int))(x:K2):Int:=(Ad m x).getD 0
def My(x:K2):List Value:=[.int .i64 x.a0,.int .i64 x.a1]
def okK(x:K2):Prop:=Bn .i64 x.a0/\Bn .i64 x.a1
theorem Afw{I:Cc}{w:World}(h:okK x):rp Y0.toUS (.u 17) I w (.agg ⟨My x⟩) x:=GM.2 ⟨_,rfl,.cons (AT.2 ⟨rfl,h.1⟩) (.cons (AT.2 ⟨rfl,h.2⟩) .nil)⟩
def cfK(m:List (K2×Int))(x y:K2):Int:=orI λj=>match j with
 |0=>I1 (ZF m x) (ZF m y)
 |1=>I1 x.a0 y.a0
 |_=>I1 x.a1 y.a1
theorem VV{x y:Int}:Bn .i64 (I1 x y):=by unfold I1;split<;>(try split)<;>exact A7.2 (by omega)
theorem Ir{P:Program}{f:Fr}{w:World}{t ty:TypeId}{x:Operand}{a:Addr}{v:Value}(g:OZ P t false 1=true)(c:ev f x=.pointer (some a))(d:w.cell? a=some v)(dst:Option Tmp)(b:String)(e:Array Edge):(execOp (ev f) ⟨dst,.load t x,ty,b,e,none⟩).run P w=.ok (.value v) w:=by simp [execOp,Instr.loadAt,c,Instr.sureAddr,loadVar,(GB (w:=w) g).1,d]
theorem Adp{q:FuncId}{f:Fr}{w:World}{a b:Operand}{x y:Value}{at_:Array TypeId}(h:CO Y0.P q=true)(g:ev f a=x)(d:ev f b=y)(dst:Option Tmp)(ty:TypeId)(c:String)(e:Array Edge):(execOp (ev f) ⟨dst,.call ⟨.value (.func q),#[a,b],at_⟩,ty,c,e,none⟩).run Y0.P w=.ok (.enter q #[x,y]) w:=by grind[SP,Y0]
theorem Aqi{f:Fr}{w:World}{a b c:Operand}{p q r:Int}(ha:ev f a=.int .i64 p)(hb:ev f b=.int .i64 q)(hc:ev f c=.int .i64 r)(hp:Bn .i64 p)(hq:Bn .i64 q)(hr:Bn .i64 r)(dst:Option Tmp)(ty:TypeId)(pos:String)(af:Array Edge):(execOp (ev f) ⟨dst,.buildSlice 23 3 #[(0,a),(1,b),(2,c)],ty,pos,af,none⟩).run Y0.P w=.ok (.value (.slice (some ⟨w.heap.size,0,none⟩) 3 3)) (w.alloc (.cells #[.int .i64 p,.int .i64 q,.int .i64 r] 3)):=by
 have hs23:Wn Y0.P 23 3 1 8=true:=by kernel_rfl
 letI:AP (den Y0.D I6):=RT Y0.toUS I6
 have hrun:=La (P:=Y0.P) (I:=λ_=>False) (w:=w) (α:=den Y0.D I6) (t:=23) (e:=3) (nb:=8) (ps:=#[(0,.int .i64 p),(1,.int .i64 q),(2,.int .i64 r)]) (vs:=[.int .i64 p,.int .i64 q,.int .i64 r]) (xs:=[p,q,r]) (EE hs23) rfl rfl (λj h h'=>by
  match j,h with
  |0,_=>exact AT.2 ⟨rfl,hp⟩
  |1,_=>exact AT.2 ⟨rfl,hq⟩
  |2,_=>exact AT.2 ⟨rfl,hr⟩) (by show 3*1<=16777216;decide)
 have hps:((#[(0,a),(1,b),(2,c)]:Array (Nat×Operand)).map λ(x:Nat×Operand)=>match x with|(i,x)=>(i,ev f x))=#[(0,.int .i64 p),(1,.int .i64 q),(2,.int .i64 r)]:=by simp [ha,hb,hc]
 simp only[execOp,Sem.run_bind];rw[hps];have hl:([p,q,r]:List (den Y0.D I6)).length=3:=rfl;rw[hl]at hrun;rw[hrun];rfl
theorem Ajq{W:World}{ab ao tb mb:Nat}{m:List (K2×Int)}{y:K2}(hx:okK x)(hy:okK y)(hW:ClW W ab ao tb mb m):Calls Y0.P 270 #[.agg ⟨My x⟩,.agg ⟨My y⟩,.pointer (some ⟨ab,ao,none⟩)] W λe w'=>e=.returned (.int .i64 (cfK m x y))/\∃q os',w'=Sort.grow (W.drewN q) os':=by
 refine Ix (F:=Tryz.f270) (N:=31) (vs:=[.agg ⟨My x⟩,.agg ⟨My y⟩,.pointer (some ⟨ab,ao,none⟩)]) (by kernel_rfl) rfl rfl (by simp) ?_;have t201:OZ Y0.P 201 false 1=true:=by kernel_rfl
 have t248:OZ Y0.P 248 false 1=true:=by kernel_rfl
 have t140:OZ Y0.P 140 false 1=true:=by kernel_rfl
 have t288:OZ Y0.P 288 true 2=true:=by kernel_rfl
 have fl250:flB Y0.P 250 0 0=true:=by kernel_rfl
 have hm:QB Y0.P 248=some (288,3):=by kernel_rfl
 have hkm:Y0.km 288 (.u 17)=true:=by kernel_rfl
 have hT:=Ze (e:=.int .i64) hm hkm;have und288:Y0.P.underlying 288=some (.array 2 140):=by kernel_rfl
 have sz140:∀w,(Go.sizeOf 140).run Y0.P w=.ok 1 w:=λw=>(GB (w:=w) t140).2;generalize hf0:Wo [.agg ⟨My x⟩,.agg ⟨My y⟩,.pointer (some ⟨ab,ao,none⟩)]=f0;have f00:f0 0=.agg ⟨My x⟩:=by rw[<-hf0];rfl
 have f01:f0 1=.agg ⟨My y⟩:=by rw[<-hf0];rfl
 have f02:f0 2=.pointer (some ⟨ab,ao,none⟩):=by rw[<-hf0];rfl
 let bx:Obj:=.cells ⟨My x⟩ 288 (0,0);let b_y:Obj:=.cells ⟨My y⟩ 288 (0,0);refine Dz (CJ (Aw (w':=W.alloc bx) (v:=.pointer (some ⟨W.heap.size,0,none⟩)) ?_ (Aw (w':=(W.alloc bx).alloc b_y) (v:=.pointer (some ⟨W.heap.size+1,0,none⟩)) ?_ (Aw (v:=.int .i64 0) (MU rfl _ _ _ _) ?_))))
 .have e0:ev f0 (.tmp 0)=.agg ⟨My x⟩:=f00;simp [execOp,Instr.box,newVar,newRow,e0];rfl
 .have e1:ev (put 31 f0 (some 3) (.pointer (some ⟨W.heap.size,0,none⟩))) (.tmp 1)=.agg ⟨My y⟩:=by simp [ev,put,DG,f01]
  simp [execOp,Instr.box,newVar,newRow,e1];rfl
 generalize hf1:put 31 (put 31 (put 31 f0 (some 3) (.pointer (some ⟨W.heap.size,0,none⟩))) (some 4) (.pointer (some ⟨W.heap.size+1,0,none⟩))) (some 5) (.int .i64 0)=f1;have f12:f1 2=.pointer (some ⟨ab,ao,none⟩):=by rw[<-hf1];simp [put,DG,f02]
 have f13:f1 3=.pointer (some ⟨W.heap.size,0,none⟩):=by rw[<-hf1];simp [put,DG]
 have f14:f1 4=.pointer (some ⟨W.heap.size+1,0,none⟩):=by rw[<-hf1];simp [put,DG]
 let wd:World:={(W.alloc bx).alloc b_y with drawn:=((W.alloc bx).alloc b_y).drawn+1}
 have hwd:wd=Sort.grow (W.drewN 1) #[bx,b_y]:=by show ({(W.alloc bx).alloc b_y with drawn:=((W.alloc bx).alloc b_y).drawn+1}:World)=_;rw[Sort.alloc_eq_grow,Sort.alloc_eq_grow,Sort.grow_grow];rfl
 let S:World->Prop:=λw=>∃os,w=Sort.grow wd os;have hS:S wd:=⟨#[],by simp⟩
 have KK:∀w,S w->∀b,b<W.heap.size->w.heap[b]?=W.heap[b]?:=λw⟨os,e⟩b hb=>by rw[e,hwd,Sort.grow_grow];show (W.heap++_)[b]?=_;rw[av hb]
 have lt:∀{b:Nat}{o:Obj},W.heap[b]?=some o->b<W.heap.size:=λh=>(aw.1 h).1;have ltc:∀{b o:Nat}{v:Value},W.cell? ⟨b,o,none⟩=some v->b<W.heap.size:=λ{b o v}h=>by
  rcases ca b W.heap.size with h1|h1
  .exact h1
  .simp [World.cell?,bf h1]at h
 have cl:∀w,S w->ClW w ab ao tb mb m:=λw hw=>hW.BD λb hb=>KK w hw b (by
  obtain⟨es,c,h1,_⟩:=hW.map;rcases hb with rfl|rfl|rfl
  .exact ltc hW.box
  .exact ltc hW.tab
  .exact lt h1)
 have hbx:∀w,S w->w.heap[W.heap.size]?=some bx:=λw⟨os,e⟩=>by rw[e,hwd,Sort.grow_grow];show (W.heap++_)[W.heap.size]?=_;simp [az]
 have hby:∀w,S w->w.heap[W.heap.size+1]?=some b_y:=λw⟨os,e⟩=>by rw[e,hwd,Sort.grow_grow];show (W.heap++_)[W.heap.size+1]?=_;simp [az]
 have look:∀(z:K2),okK z->∀w,S w->∀(f:Fr)(a b:Operand)(dst:Option Tmp)(ty:TypeId)(pos:String)(af:Array Edge),ev f a=.map (some mb)->ev f b=.agg ⟨My z⟩->(execOp (ev f) ⟨dst,.lookup 248 a b false,ty,pos,af,none⟩).run Y0.P w=.ok (.value (.int .i64 (ZF m z))) w:=λz hz w hw f a b dst ty pos af ha hb=>by
  obtain⟨es,c,h1,h2⟩:=(cl w hw).map;have hs:St (λ_=>False) w ([(mb,.map es c)]++[]):=⟨λ_ h=>h.elim,λp hp=>by simp at hp;subst hp;exact⟨h1,λh=>h⟩,by simp⟩
  refine Iq (P:=Y0.P) (f:=f) (w:=w) (w':=w) (v:=.int .i64 (ZF m z)) (ty:=ty) (λpos af K hk=>?_) dst pos af;have hzr:(zeroValue 3).run Y0.P w=.ok (.int .i64 0) w:=by
   have:zrB Y0.P 3 (.int .i64 0):=by unfold zrB;kernel_rfl
   unfold zrB at this;cases hi:Y0.P.info? 3 with
   |none=>simp [hi]at this
   |some i=>simp only[hi,bb]at this;simp [zeroValue,typeInfo,hi,this]
  letI:AP (den Y0.D (.u 17)):=RT Y0.toUS (.u 17)
  letI:AP (den Y0.D I6):=RT Y0.toUS I6
  letI:DecidableEq (den Y0.D (.u 17)):=HI Y0 (.u 17)
  refine Vf (P:=Y0.P) (κ:=den Y0.D (.u 17)) (β:=den Y0.D I6) (k:=z) (zd:=(0:Int)) hT h2 hs ha hb (Afw hz) hzr (AT.2 ⟨rfl,A7.2 (by omega)⟩) λu hu=>?_;have hu':=(AT.1 (show rp Y0.toUS I6 _ _ u _ from hu)).1;rw[hu'];exact hk
 have ink:∀z,okK z->Bn .i64 (ZF m z):=λz hz=>by
  obtain⟨es,c,h1,h2⟩:=(cl wd hS).map;obtain⟨b,es',c',k1,k2,k3,k4⟩:=@Cz.ex _ _ (RT Y0.toUS (.u 17)) (RT Y0.toUS I6) _ _ _ _ _ h2;unfold ZF;cases hg:Ad m z with
  |none=>exact A7.2 (by simp)
  |some v=>
   rw[Option.getD_some];have:∃j,∃(hj:j<m.length),m[j].2=v:=by
    rw[R6]at hg;cases hi:(m.map (·.1)).findIdx? (· == z) with
    |none=>rw[hi]at hg;cases hg
    |some i=>
     rw[hi,bb]at hg;cases hm:m[i]? with
     |none=>rw[hm]at hg;cases hg
     |some p=>
      rw[hm]at hg;obtain⟨hj,e⟩:=a7.1 hm;exact⟨i,hj,by rw[e];simpa using hg⟩
   obtain⟨j,hj,e⟩:=this;have:=AT.1 (k4 j (by rw[k3];exact hj) hj).2;rw[<-e];exact this.2
 have arr:∀(b j:Nat)(w:World)(f:Fr)(a:Operand)(dst:Option Tmp)(ty:TypeId)(pos:String)(af:Array Edge),j<2->ev f a=.pointer (some ⟨b,0,none⟩)->(execOp (ev f) ⟨dst,.indexAddr 288 a (.const (.int .i64 (j:Int))),ty,pos,af,none⟩).run Y0.P w=.ok (.value (.pointer (some ⟨b,j,none⟩))) w:=λb j w f a dst ty pos af hj ha=>by
  have h1:(0:Int)<=j/\(j:Int)<(2:Nat):=by omega
  have ec:ev f (.const (.int .i64 (j:Int)))=.int .i64 (j:Int):=rfl;simp [execOp,Instr.indexAt,ha,ec,asIntOf,run_underlying und288,Instr.sureAddr,sz140,DF];omega
 refine Dz (Afc (m:=26) S (by kernel_rfl) rfl rfl (Zw [23,24,25] hS ?_));refine Mf (i:=0) (d:=6) rfl rfl rfl (by kernel_rfl) rfl hS (λw hw=>Aw (v:=.pointer (some ⟨tb,0,none⟩)) (Ir t201 (a:=⟨ab,ao,none⟩) (by simp [ev,f12]) (cl w hw).box _ _ _) ⟨rfl,rfl⟩) ?_;refine Mf (i:=1) (d:=7) rfl rfl rfl (by kernel_rfl) rfl hS (λw hw=>Q6 (a:=⟨tb,0,none⟩) (by simp [ev,put,DG]) ⟨rfl,rfl⟩) ?_;refine Mf (i:=2) (d:=8) rfl rfl rfl (by kernel_rfl) rfl hS (λw hw=>Vg fl250 (b:=tb) (o:=0) (by simp [ev,put,DG]) ⟨rfl,rfl⟩) ?_;refine Mf (i:=3) (d:=9) rfl rfl rfl (by kernel_rfl) rfl hS (λw hw=>Aw (v:=.map (some mb)) (Ir t248 (a:=⟨tb,0,none⟩) (by simp [ev,put,DG]) (cl w hw).tab _ _ _) ⟨rfl,rfl⟩) ?_;refine Mf (i:=4) (d:=10) rfl rfl rfl (by kernel_rfl) rfl hS (λw hw=>Aw (v:=.agg ⟨My x⟩) (Iq (λpos af K hk=>Rz (n:=2) (I:=λ_=>False) (T:=[]) t288 (b:=W.heap.size) (o:=0) (cs:=⟨My x⟩) ⟨λ_ h=>h.elim,λp hp=>by simp at hp;subst hp;exact⟨hbx w hw,λh=>h⟩,by simp⟩ (by simp [ev,put,DG,f13]) rfl rfl hk) _ _ _) ⟨rfl,rfl⟩) ?_;refine Mf (i:=5) (d:=11) rfl rfl rfl (by kernel_rfl) rfl hS (λw hw=>Aw (v:=.int .i64 (ZF m x)) (look x hx w hw _ _ _ _ _ _ _ (by simp [ev,put,DG]) (by simp [ev,put,DG])) ⟨rfl,rfl⟩) ?_;refine Mf (i:=6) (d:=12) rfl rfl rfl (by kernel_rfl) rfl hS (λw hw=>Aw (v:=.pointer (some ⟨tb,0,none⟩)) (Ir t201 (a:=⟨ab,ao,none⟩) (by simp [ev,put,DG,f12]) (cl w hw).box _ _ _) ⟨rfl,rfl⟩) ?_;refine Mf (i:=7) (d:=13) rfl rfl rfl (by kernel_rfl) rfl hS (λw hw=>Q6 (a:=⟨tb,0,none⟩) (by simp [ev,put,DG]) ⟨rfl,rfl⟩) ?_;refine Mf (i:=8) (d:=14) rfl rfl rfl (by kernel_rfl) rfl hS (λw hw=>Vg fl250 (b:=tb) (o:=0) (by simp [ev,put,DG]) ⟨rfl,rfl⟩) ?_;refine Mf (i:=9) (d:=15) rfl rfl rfl (by kernel_rfl) rfl hS (λw hw=>Aw (v:=.map (some mb)) (Ir t248 (a:=⟨tb,0,none⟩) (by simp [ev,put,DG]) (cl w hw).tab _ _ _) ⟨rfl,rfl⟩) ?_;refine Mf (i:=10) (d:=16) rfl rfl rfl (by kernel_rfl) rfl hS (λw hw=>Aw (v:=.agg ⟨My y⟩) (Iq (λpos af K hk=>Rz (n:=2) (I:=λ_=>False) (T:=[]) t288 (b:=W.heap.size+1) (o:=0) (cs:=⟨My y⟩) ⟨λ_ h=>h.elim,λp hp=>by simp at hp;subst hp;exact⟨hby w hw,λh=>h⟩,by simp⟩ (by simp [ev,put,DG,f14]) rfl rfl hk) _ _ _) ⟨rfl,rfl⟩) ?_;refine Mf (i:=11) (d:=17) rfl rfl rfl (by kernel_rfl) rfl hS (λw hw=>Aw (v:=.int .i64 (ZF m y)) (look y hy w hw _ _ _ _ _ _ _ (by simp [ev,put,DG]) (by simp [ev,put,DG])) ⟨rfl,rfl⟩) ?_;refine Ag5 (i:=12) (d:=18) (v:=.int .i64 (I1 (ZF m x) (ZF m y))) rfl rfl (by kernel_rfl) hS rfl (λw hw=>.inr ⟨272,#[.int .i64 (ZF m x),.int .i64 (ZF m y)],?_,Ajo _ _ (ink x hx) (ink y hy) w⟩) ?_
 .have hcan:CO Y0.P 272=true:=by kernel_rfl
  exact Adp hcan (by simp [ev,put,DG]) (by simp [ev,put,DG]) _ _ _ _
 refine Mf (i:=13) (d:=19) rfl rfl rfl (by kernel_rfl) rfl hS (λw hw=>Aw (v:=.pointer (some ⟨W.heap.size,0,none⟩)) (arr (W.heap.size) 0 w _ _ _ _ _ _ (by decide) (by simp [ev,put,DG,f13])) ⟨rfl,rfl⟩) ?_;refine Mf (i:=14) (d:=20) rfl rfl rfl (by kernel_rfl) rfl hS (λw hw=>Aw (v:=.int .i64 x.a0) (Ir t140 (a:=⟨W.heap.size,0,none⟩) (by simp [ev,put,DG]) (by rw[Bo (hbx w hw)];rfl) _ _ _) ⟨rfl,rfl⟩) ?_;refine Mf (i:=15) (d:=21) rfl rfl rfl (by kernel_rfl) rfl hS (λw hw=>Aw (v:=.pointer (some ⟨W.heap.size+1,0,none⟩)) (arr (W.heap.size+1) 0 w _ _ _ _ _ _ (by decide) (by simp [ev,put,DG,f14])) ⟨rfl,rfl⟩) ?_;refine Mf (i:=16) (d:=22) rfl rfl rfl (by kernel_rfl) rfl hS (λw hw=>Aw (v:=.int .i64 y.a0) (Ir t140 (a:=⟨W.heap.size+1,0,none⟩) (by simp [ev,put,DG]) (by rw[Bo (hby w hw)];rfl) _ _ _) ⟨rfl,rfl⟩) ?_;refine Ag5 (i:=17) (d:=23) (v:=.int .i64 (I1 (x.a0) (y.a0))) rfl rfl (by kernel_rfl) hS rfl (λw hw=>.inr ⟨273,#[.int .i64 (x.a0),.int .i64 (y.a0)],?_,VW _ _ (hx.1) (hy.1) w⟩) ?_
 .have hcan:CO Y0.P 273=true:=by kernel_rfl
  exact Adp hcan (by simp [ev,put,DG]) (by simp [ev,put,DG]) _ _ _ _
 refine Mf (i:=18) (d:=24) rfl rfl rfl (by kernel_rfl) rfl hS (λw hw=>Aw (v:=.pointer (some ⟨W.heap.size,1,none⟩)) (arr (W.heap.size) 1 w _ _ _ _ _ _ (by decide) (by simp [ev,put,DG,f13])) ⟨rfl,rfl⟩) ?_;refine Mf (i:=19) (d:=25) rfl rfl rfl (by kernel_rfl) rfl hS (λw hw=>Aw (v:=.int .i64 x.a1) (Ir t140 (a:=⟨W.heap.size,1,none⟩) (by simp [ev,put,DG]) (by rw[Bo (hbx w hw)];rfl) _ _ _) ⟨rfl,rfl⟩) ?_;refine Mf (i:=20) (d:=26) rfl rfl rfl (by kernel_rfl) rfl hS (λw hw=>Aw (v:=.pointer (some ⟨W.heap.size+1,1,none⟩)) (arr (W.heap.size+1) 1 w _ _ _ _ _ _ (by decide) (by simp [ev,put,DG,f14])) ⟨rfl,rfl⟩) ?_;refine Mf (i:=21) (d:=27) rfl rfl rfl (by kernel_rfl) rfl hS (λw hw=>Aw (v:=.int .i64 y.a1) (Ir t140 (a:=⟨W.heap.size+1,1,none⟩) (by simp [ev,put,DG]) (by rw[Bo (hby w hw)];rfl) _ _ _) ⟨rfl,rfl⟩) ?_;refine Ag5 (i:=22) (d:=28) (v:=.int .i64 (I1 (x.a1) (y.a1))) rfl rfl (by kernel_rfl) hS rfl (λw hw=>.inr ⟨273,#[.int .i64 (x.a1),.int .i64 (y.a1)],?_,VW _ _ (hx.2) (hy.2) w⟩) ?_
 .have hcan:CO Y0.P 273=true:=by kernel_rfl
  exact Adp hcan (by simp [ev,put,DG]) (by simp [ev,put,DG]) _ _ _ _
 have hcan271:CO Y0.P 271=true:=by kernel_rfl
 have hs23:Wn Y0.P 23 3 1 8=true:=by kernel_rfl
 let lv:Nat->Int:=λj=>match j with
  |0=>I1 (ZF m x) (ZF m y)
  |1=>I1 x.a0 y.a0
  |_=>I1 x.a1 y.a1
 let row:Array Value:=#[.int .i64 (lv 0),.int .i64 (lv 1),.int .i64 (lv 2)];refine A1a (i:=23) rfl rfl (by kernel_rfl) (Aw (v:=.slice (some ⟨wd.heap.size,0,none⟩) 3 3) (w':=wd.alloc (.cells row 3)) ?_ ⟨⟨#[.cells row 3 (0,0)],Sort.alloc_eq_grow _ _⟩,?_⟩)
 .exact Aqi (by simp [ev,put,DG]) (by simp [ev,put,DG]) (by simp [ev,put,DG]) VV VV VV _ _ _ _
 have hrow:(wd.alloc (.cells row 3)).heap[wd.heap.size]?=some (.cells row 3 (0,0)):=heap_alloc_new _ _;have hS2:S (wd.alloc (.cells row 3)):=⟨#[.cells row 3 (0,0)],Sort.alloc_eq_grow _ _⟩
 refine At3 (i:=24) rfl (by kernel_rfl) (Vi (vs:=[.slice (some ⟨wd.heap.size,0,none⟩) 3 3]) hcan271 (by simp [ev,put,DG]) (Calls.mono (Al9 (l:=lv) hrow λj hj=>?_) ?_))
 .match j,hj with
  |0,_|1,_|2,_=>rfl
 rintro e w' ⟨rfl,rfl⟩;refine⟨hS2,?_⟩;refine At3 (i:=25) rfl (by kernel_rfl) (Aw (v:=.int .i64 (orI lv)) (MU (by simp [ev,put,DG]) _ _ _ _) ⟨hS2,?_⟩);refine Axj (by kernel_rfl) (MF ⟨.int .i64 (orI lv),λa ha=>?_,rfl,1,#[bx,b_y,.cells row 3 (0,0)],?_⟩)
 .refine Gv (vs:=[.int .i64 (orI lv)]) ?_;have hR:Tryz.f270.results.toList=[.tmp 5]:=rfl;have h4:=ha.2 5;rw[aq]at h4;rw[hR];have h5:(a[5]?).getD undef=.int .i64 (orI lv):=by rw[h4];simp [put,DG]
  simp [bz,PO,h5]
 .rw[Sort.alloc_eq_grow,hwd,Sort.grow_grow];rfl
end
section
set_option maxRecDepth 100000
set_option maxHeartbeats 1000000
abbrev KS:Type:={x:K2 // okK x}
instance:Inhabited KS:=⟨⟨⟨0,0⟩,A7.2 (by show _<=(0:Int)/\(0:Int)<=_;omega),A7.2 (by show _<=(0:Int)/\(0:Int)<=_;omega)⟩⟩
def encS(x:KS):List Value:=My x.1
def cfS(m:List (K2×Int))(x y:KS):Int:=cfK m x.1 y.1
theorem ltS(m:List (K2×Int))(x y:KS):Go.Proofs.ltOf (cfS m) x y=decide (ZF m x.1<ZF m y.1∨ZF m x.1=ZF m y.1/\(x.1.a0<y.1.a0∨x.1.a0=y.1.a0/\x.1.a1<y.1.a1)):=by grind[Go.Proofs.ltOf,cfS,cfK,orI,I1]
theorem A27(m:List (K2×Int)):Sort.SWO (Go.Proofs.ltOf (cfS m)) where
 irrefl x:=by grind[ltS]
 trans x y z a b:=by grind[ltS]
 ntrans x y z a b:=by grind[ltS]
theorem Ak8{I:Cc}{w:World}{T:Bd}(os:Array Obj)(h:St I w T):Ext I w I (Sort.grow w os)/\St I (Sort.grow w os) T:=by
 have a:∀b,b<w.heap.size->(Sort.grow w os).heap[b]?=w.heap[b]?:=λb c=>by show (w.heap++os)[b]?=_;rw[av c]
 refine⟨⟨rfl,rfl,rfl,by simp,λ_ h=>h,λb c=>a b (h.imm b c)⟩,λb c=>?_,λp d=>⟨?_,(h.own p d).2⟩,h.nodup⟩
 .have:=h.imm b c;grind
 .have:=(h.own p d).1;grind
theorem Adh{I:Cc}{W:World}{A T:Bd}{v:Value}{xs:List K2}{ab ao tb mb:Nat}{m:List (K2×Int)}(ho:Nz Y0 (.u 17) I W A v xs)(hs:St I W (A++T))(hW:ClW W ab ao tb mb m)(hne:∀p∈A,p.1≠ab/\p.1≠tb/\p.1≠mb)(hmax:xs.length<4611686018427387904):Calls Y0.P 269 #[v,.func (.func 270) #[] #[.pointer (some ⟨ab,ao,none⟩)]] W λe w'=>e=.returned (.tuple #[])/\∃xs' A',xs'.Perm xs/\Ext I W I w'/\St I w' (A'++T)/\Nz Y0 (.u 17) I w' A' v xs':=by
 rcases @Bx.ex _ (RT Y0.toUS (.u 17)) _ _ _ _ _ ho with ⟨rfl,rfl,rfl⟩|⟨b,arr,cap,e0,off,rfl,rfl,h3,h4,h5,h6⟩
 .have key:=Go.Proofs.AnyF.slices_SortFunc_none (P:=Y0.P) {ZX with} none 0 (.func (.func 270) #[] #[.pointer (some ⟨ab,ao,none⟩)]) W;change Calls Y0.P 269 _ _ _ at key;refine Calls.mono key λe w'⟨he,hw⟩=>⟨he,[],[],.refl _,?_⟩
  subst hw;exact⟨Ext.refl _ _,hs,ho⟩
 .have hok:∀x∈xs,okK x:=λx hx=>by obtain⟨j,hj,rfl⟩:=b7.1 hx;obtain⟨u,hu,_⟩:=h6 j hj;obtain⟨cs,rfl,hF⟩:=GM.1 (show rp Y0.toUS (.u 17) _ _ u _ from hu);cases hF with|cons a c=>cases c with|cons d f=>exact⟨(AT.1 a).2,(AT.1 d).2⟩
  obtain⟨ys,hys⟩:∃ys:List KS,ys.map (·.1)=xs:=⟨xs.attach.map λx=>⟨x.1,hok x.1 x.2⟩,by simp⟩
  subst hys;let d:Array KS:=⟨ys⟩
  letI:AP (den Y0.D (.u 17)):=RT Y0.toUS (.u 17)
  have hsz:AP.size (den Y0.D (.u 17))=2:=rfl;have hlen:(ys.map (·.1)).length=ys.length:=by simp
  replace h3:ys.length<=cap:=hlen▸h3;have cell:∀j(hj:j<ys.length)(i:Nat)(hi:i<2),arr[off+(j*2+i)]?=some ((encS ys[j])[i]!):=λj hj i hi=>by
   obtain⟨u,hu,hc⟩:=h6 j (b9 hj hlen.symm);have hu':rp Y0.toUS (.u 17) I W u ys[j].1:=by
    have e:(ys.map (·.1))[j]'(b9 hj hlen.symm)=ys[j].1:=by simp
    rw[<-e];exact hu
   obtain⟨cs,rfl,hF⟩:=GM.1 hu';have hcs:cs=encS ys[j]:=by cases hF with|cons a c=>cases c with|cons d f=>cases f;rw[(AT.1 a).1,(AT.1 d).1];rfl
   subst hcs;have:=hc i (by show i<(encS ys[j]).length;exact hi);rw[hsz]at this;refine(show arr[off+(j*2+i)]?=_ from this).trans ?_;match i,hi with
   |0,_|1,_=>rfl
  have hb:=hs.heap;have hblk:b<W.heap.size:=(aw.1 hb).1;have hH:Go.Sort.HoldsK encS 2 W b off d:=by
   intro t ht;have ht':t<ys.length*2:=by have:=ht;rw[Go.Sort.size_flatK]at this;exact this
   refine⟨?_,by simp [World.frozen?,hb]⟩;rw[Bo hb,id,Go.Sort.get_flatK _ _ _ _ (show t<d.size*2 from ht')];have h1:t/2<ys.length:=by omega
   have h2:=cell (t/2) h1 (t%2) (by omega);have e1:t/2*2+t%2=t:=by omega
   rw[e1]at h2;rw[h2];have e2:d[t/2]! = ys[t/2]:=by rw[getElem!_pos d (t/2) h1];rfl
   rw[e2]
  obtain⟨n1,n2,n3⟩:=hne _ (a4.2 rfl);have ltc:∀{b o:Nat}{v:Value},W.cell? ⟨b,o,none⟩=some v->b<W.heap.size:=λ{b o v}h=>by
   rcases ca b W.heap.size with h1|h1
   .exact h1
   .simp [World.cell?,bf h1]at h
  have oth:∀(n:Nat)(dk:Array KS)(os:Array Obj)(c:Nat),c<W.heap.size->c≠b->(Go.Proofs.sortWorldK encS 2 W b off n dk os).heap[c]?=W.heap[c]?:=λn dk os c hc hcb=>by show ((W.heap.modify b _)++os)[c]?=_;rw[av (by simpa using hc),b0,GT (Ne.symm hcb)]
  have hcmp:Go.Proofs.CmpLays Y0.P 270 #[.pointer (some ⟨ab,ao,none⟩)] encS 2 (cfS m) b off d.size W:=by
   intro n os dk hdk x y;have hW':ClW (Go.Proofs.sortWorldK encS 2 W b off n dk os) ab ao tb mb m:=hW.BD λc hc=>by
    obtain⟨es,cl,h1,_⟩:=hW.map;rcases hc with rfl|rfl|rfl
    .exact oth n dk os _ (ltc hW.box) (Ne.symm n1)
    .exact oth n dk os _ (ltc hW.tab) (Ne.symm n2)
    .exact oth n dk os _ (aw.1 h1).1 (Ne.symm n3)
   exact Ajq x.2 y.2 hW'
  have key:=Go.Proofs.AnyQ.slices_SortFunc (P:=Y0.P) ZX 2 (λw=>(GB (w:=w) (show OZ Y0.P 288 true 2=true by kernel_rfl)).1) (λw=>(GB (w:=w) (show OZ Y0.P 288 true 2=true by kernel_rfl)).2) encS (λ_=>rfl) (λx v hv=>by simp [encS,My]at hv;rcases hv with rfl|rfl<;>rfl) (cfS m) (A27 m) 270 #[.pointer (some ⟨ab,ao,none⟩)] b off cap d W (λargs w=>Mo (by kernel_rfl)) hcmp hH hblk (Nat.lt_of_le_of_lt (cb hlen.symm) hmax);change Calls Y0.P 269 _ _ _ at key;suffices hN:∀N,N=ys.length->Calls Y0.P 269 #[.slice (some ⟨b,off,none⟩) N cap,.func (.func 270) #[] #[.pointer (some ⟨ab,ao,none⟩)]] W λe w'=>e=.returned (.tuple #[])/\∃xs' A',xs'.Perm (ys.map (·.1))/\Ext I W I w'/\St I w' (A'++T)/\Nz Y0 (.u 17) I w' A' (.slice (some ⟨b,off,none⟩) N cap) xs' from hN _ hlen
  intro N hN;subst hN;refine key.mono λe w'⟨he,d',n,os,hp,_,hw⟩=>⟨he,d'.toList.map (·.1),?_⟩
  obtain⟨p1,_,p3⟩:=hp;have hd':d'.toList.Perm ys:=by
   have e1:d'.extract 0 d.size=d':=by rw[<-p1];simp
   have e2:d.extract 0 d.size=d:=by simp
   rw[e1,e2]at p3;exact p3
  have hl':d'.toList.length=ys.length:=hd'.length_eq;have hlm:(d'.toList.map (·.1)).length=ys.length:=by rw[ae];exact hl'
  let arr':Array Value:=Go.Sort.putCells id off (Go.Sort.flatK encS 2 d') arr;have harr':arr'.size=arr.size:=by simp [arr',Go.Sort.putCells]
  refine⟨[(b,.cells arr' e0 (0,0))],hd'.map _,?_⟩;obtain⟨x1,s1⟩:=hs.write (w':=Go.Sort.putRowK encS 2 (Go.Sort.ahead W n) b off d') (o':=.cells arr' e0 (0,0)) rfl rfl rfl (by simp [Go.Sort.putRowK,Go.Sort.putRow,Go.Sort.mapBlock,Go.Sort.ahead]) (by
   show (W.heap.modify b _)[b]?=_;rw[b0,UV rfl,hb];rfl) (λc hc=>by
   show (W.heap.modify b _)[c]?=_;rw[b0,GT (Ne.symm hc)])
  obtain⟨x2,s2⟩:=Ak8 os s1;subst hw;refine⟨x1.trans x2,s2,⟨.inr ⟨b,arr',cap,e0,off,rfl,congrArg (λn=>Value.slice (some ⟨b,off,none⟩) n cap) hlm.symm,Nat.le_trans (cb hlm) h3,h4,by rw[harr'];exact h5,λj hj=>?_⟩⟩⟩;have hj':j<d'.toList.length:=b9 hj (hlm.trans hl'.symm);have hjs:j<d'.size:=hj';refine⟨.agg ⟨encS d'.toList[j]⟩,?_,λi hi=>?_⟩
  .have e:(d'.toList.map (·.1))[j]'(by rw[ae];exact hj')=d'.toList[j].1:=by simp
   exact cast (congrArg (λz=>rp Y0.toUS (.u 17) I _ _ z) e.symm) (Afw d'.toList[j].2)
  .have hi2:i<2:=hi;show arr'[off+(j*2+i)]?=(⟨encS d'.toList[j]⟩:Array Value)[i]?;have hlt:off+(j*2+i)<arr.size:=by
    rw[hsz]at h5;have:j*2+i<cap*2:=by omega
    omega
   simp only[arr',Go.Sort.putCells,Array.getElem?_mapIdx,Array.getElem?_eq_getElem hlt,Option.map_some];have hr:off<=off+(j*2+i)/\off+(j*2+i)<off+(Go.Sort.flatK encS 2 d').size:=by rw[Go.Sort.size_flatK];omega
   rw[UV hr];have e1:off+(j*2+i)-off=j*2+i:=by omega
   rw[e1,id,Go.Sort.get_flatK _ _ _ _ (by omega)];have e2:(j*2+i)/2=j:=by omega
   have e3:(j*2+i)%2=i:=by omega
   rw[e2,e3,getElem!_pos d' j hjs];match i,hi2 with
   |0,_|1,_=>rfl
end
section
set_option maxRecDepth 100000
set_option maxHeartbeats 1000000
def Ati(c:Cf Y0)(la:List (AV Y0))(_:PX)(k:AV Y0->Cf Y0->Prop):Prop:=match la with
 | [.own j,.own j2]=>match c.op,Ie c.sg j,Ie c.sg j2 with
  |none,some (.sl (.u 17) xs),some (.clo 270 [] [.del .ptr p 0])=>(∃tb y,p=some tb/\c.H tb=some (.st 7 y))/\xs.length<4611686018427387904/\∀xs':List (den Y0.D (.u 17)),xs'.Perm xs->k (.own c.nx) {c with sg:=(c.nx,.tp [])::(j,.sl (.u 17) xs')::FP c.sg j,nx:=c.nx+1}
  |_,_,_=>False
 |_=>False
noncomputable def Arr:T2 Y0 269 where
 tr:=Ati
 can:=by kernel_rfl
 ok {g0 g T AH A c f la vs X k} h ha hx R K _ next:=by
  unfold Ati at hx;split at hx
  .rename_i j j2;split at hx
   .rename_i xs p hop hj hj2;obtain⟨⟨tb,y,rfl,hH⟩,hlen,hx⟩:=hx;rcases ha with _|⟨a1,_|⟨a2,_|_⟩⟩
    obtain⟨hjn,rfl⟩:=a1;obtain⟨hj2n,rfl⟩:=a2;obtain⟨A1,A2,hp,_,hsl,hsg⟩:=h.sg.take hj;obtain⟨B1,B2,_,_,⟨rfl,vs,us,hm,hv1,hv2⟩,_⟩:=h.sg.take hj2;rcases hv1 with _|_
    rcases hv2 with _|⟨b1,_|_⟩
    obtain⟨ab,ao,u,hu,hpt,hI,rfl⟩:=b1;replace hu:u=.pointer (some ⟨tb,0,none⟩):=by have:=Lb.1 hu;exact this
    subst hu;have hr:=h.hr;rw[hop]at hr;obtain⟨C1,C2,hob,hX,hst⟩:=Hu.take (T:=A++T) hr hH h.st;obtain⟨arr,e,A',rfl,hor⟩:=hob;obtain⟨cell,hcell,mA,hmp⟩:∃v,arr.toList=[v]/\∃A1,A'=A1/\Ws Y0 (.u 17) I6 g.I g.w A1 v y.ids:=by
     have hor:OR Y0 g.I g.w arr.toList [.map (.u 17) I6 y.ids] A':=hor;revert hor;cases arr.toList with
     |nil=>exact λhor=>hor.elim
     |cons v vs=>
      intro hor;obtain⟨D1,D2,rfl,hm,hn⟩:=hor;cases vs with
      |nil=>cases (show D2=[] from hn);exact⟨v,rfl,_,bg _,hm⟩
      |cons _ _=>exact hn.elim
    obtain⟨rfl,hmp⟩:=hmp;obtain⟨mb,es,cl,k1,k2,k3,k4⟩:=@Cz.ex _ _ (RT Y0.toUS (.u 17)) (RT Y0.toUS I6) _ _ _ _ _ hmp;subst k1 k2;have st1:St g.I g.w (A1++(((tb,.cells arr e (0,0))::[(mb,.map es cl)])++(C2++(A2++T)))):=by refine hst.perm ?_;have:=F6 (T:=T) hp (((tb,Obj.cells arr e (0,0))::[(mb,Obj.map es cl)])++C2);simpa [bt] using this
    have inT:∀p,p∈((tb,Obj.cells arr e (0,0))::[(mb,Obj.map es cl)])->g.w.heap[p.1]?=some p.2/\¬g.I p.1:=λp hm=>hst.own p (ag _ hm);have hbox:g.w.cell? ⟨ab,ao,none⟩=some (.pointer (some ⟨tb,0,none⟩)):=hpt.2 0 Nat.zero_lt_one;have hW:ClW g.w ab ao tb mb y.ids:=by
     refine⟨hbox,?_,es,cl,(inT (mb,.map es cl) (aa _ a5)).1,?_⟩
     .rw[Bo (inT (tb,.cells arr e (0,0)) a5).1];show arr[0]?=some (Value.map (some mb));rw[<-Array.getElem?_toList,hcell];rfl
     .exact @Cz.mk _ _ (RT Y0.toUS (.u 17)) (RT Y0.toUS I6) _ _ _ _ _ ⟨mb,es,cl,rfl,rfl,k3,λj hj hj'=>⟨Alp (k4 j hj hj').1,AT.2 (AT.1 (k4 j hj hj').2)⟩⟩ (@Cz.bo _ _ (RT Y0.toUS (.u 17)) (RT Y0.toUS I6) _ _ _ _ _ hmp)
    have nd:∀p∈A1,p.1≠ab/\p.1≠tb/\p.1≠mb:=λp hm=>by have h1:=(st1.own p (ag _ hm)).2;have h2:=st1.nodup;rw[am,au]at h2;have h3:=h2.2.2 p.1 (ac hm);exact⟨λe'=>h1 (e'▸hI),h3 tb (by simp),h3 mb (by simp)⟩
    have key:=Adh (I:=g.I) (T:=((tb,.cells arr e (0,0))::[(mb,.map es cl)])++(C2++(A2++T))) (ao:=ao) hsl st1 hW nd hlen;rw[hm];refine Calls.mono key λen w'⟨he,xs',A1',hpm,hext,hst',hsl'⟩=>?_;subst he;have hle:Le g (g.new w' (.tuple #[])):=Le.new hext;refine next (.tuple #[]) (.own c.nx) _ (g.new w' (.tuple #[])) (((tb,.cells arr e (0,0))::[(mb,.map es cl)])++C2) (A1'++A2) hle ?_ ?_ (hx xs' hpm)
    .refine⟨by show g.n+1=c.nx+1;rw[h.n],h.le.trans hext,?_,?_,⟨[],A1'++A2,rfl,by show c.nx<g.n+1;rw[h.n];omega,⟨rfl,[],by rw[<-h.n];exact B4.BC _ _ _,.nil⟩,A1',A2,rfl,Nat.lt_succ_of_lt hjn,?_,hsg.mono hle⟩,h.hs.mono hle,hle.pt h.pt,λj a hj=>(h.fr j a hj).mono hle⟩
     .refine hst'.perm ?_;have:=(F6 (T:=T) (c0 (A1'++A2)) (((tb,Obj.cells arr e (0,0))::[(mb,Obj.map es cl)])++C2)).symm;simpa [bt] using this
     .show HR _ c.H _ _ c.op;rw[hop];exact Hu.mono (HpX.back hX hH ⟨arr,e,_,rfl,by show OR Y0 g.I g.w arr.toList [.map (.u 17) I6 y.ids] _;rw[hcell];exact⟨_,[],(bg _).symm,hmp,rfl⟩⟩) hext
     .show Nz Y0 (.u 17) g.I w' A1' ((g.new w' (.tuple #[])).μ j) xs';rw[hle.μ j hjn];exact hsl'
    .rw[<-h.n];exact FI rfl
   .exact hx.elim
  .exact hx.elim
noncomputable def ilS:(q:FuncId)->Option (T2 Y0 q)
 |269=>some Arr
 |q=>ilT q
end
end Go.Proofs.YtcbkbpjlbmalmaaGreatDoor
namespace Go.Proofs.YtcbkbpjlbmalmaaGreatDoor
open Go Go.X Go.Y
section
set_option maxRecDepth 100000
set_option maxHeartbeats 2000000
def Ky(yield:Aj×Int×UT->HY->(Bool×UT->HP)->PX->Prop)(p1:Option Nat)(H:HY)(Q:UT->UU)(X:PX):=(p1=none->Q () () H)/\(¬p1=none->∃(b:Nat),p1=some b/\∃(x:Ay),H b=some (Ob.st BK x)/\(some (C4.blk (Y:=Y0) [AV.own (2)])=some (C4.blk [AV.own (2)])/\True)/\∃(V:List (Aj×Int)->List Aj×UT->HP),({i:=1,b:=b,n:=7,x:=none:Wr Y0}={i:=1,b:=b,n:=7,x:=none:Wr Y0}/\(some (C4.blk (Y:=Y0) [AV.own (2)])=some (C4.blk [AV.own (2)])/\True)/\V x.ids ([],()) H)/\∀(left:List (Aj×Int))(x1:List Aj×UT)(H1:HY),V left x1 H1->(left=[]->(∃(tb:Nat),∃(y:Ay),p1=some tb/\Ab H1 b (Ob.st BK x) tb=some (Ob.st BK y))/\x1.1.length<4611686018427387904/\∀(xs':List Aj),xs'.Perm x1.1->xs'.length<=2^63-1->∃(V:Nat->List Aj×Nat×UT->HP),(∃(n:Nat),V n (xs',0,()) (Ab H1 b (Ob.st BK x)))/\∀n x H,V n x H->(x.2.1<xs'.length->x.2.1<=2^63-1->∃(h:x.2.1<x.1.length),∃(h:x.2.1<x.1.length),∃(b:Nat),p1=some b/\∃(x2:Ay),H b=some (Ob.st BK x2)/\x2=x2/\yield (x.1[x.2.1],(Ad x2.ids x.1[x.2.1]).getD 0,()) H (λ(b:Bool×UT)(G:HY)=>(¬b.1->Q () () G)/\(¬¬b.1->x.2.1+1<=2^63-1/\∃m,m<n/\V m (x.1,x.2.1+1,()) G)) X)/\(¬x.2.1<xs'.length->Q () () H))/\∀(l1:List (Aj×Int))(p:Aj×Int)(l2:List (Aj×Int)),left=l1++p::l2->(x1.1.length+[p.1].length)*16<=2^47/\{i:=1,b:=b,n:=7,x:=none:Wr Y0}={i:=1,b:=b,n:=7,x:=none:Wr Y0}/\(some (C4.blk (Y:=Y0) [AV.own (2)])=some (C4.blk [AV.own (2)])/\True)/\V (l1++l2) (x1.1++[p.1],()) H1)
end
section
variable {x:A6}
theorem YW{k:Nat}(h:k<x.taken.length):N8 x (k:Int)=x.taken[k]:=by unfold N8;simp [h]
theorem Aas{p:Nat}{y:FT Y0 [.int .i64] [.bool]}{H:HY}{X:PX}{Q:Unit->UU}(l:Fh x)(J:Nat->HP)(s:J 0 H)(r:∀k H,J k H->H p=some (.st CL x))(t:∀(k:Nat)H(Q:Bool×Unit->HP),N8 x k=true->J k H->(∀H',J (k+1) H'->Q (true,()) H')->y ((k:Int),()) H Q X)(hs:∀(k:Nat)H,N8 x k=false->k<x.at_.length->J k H->J (k+1) H)(u:∀H,J x.at_.length H->Q () () H):qK L9 I9 (y,some p,()) H Q X:=by
 refine wF Tryz.f278 {lp:=[(2,⟨[(11,.nat)],[0,1,10],true⟩)]} (?_:((some p)=none->Q () () H)/\(¬(some p)=none->∃(b:Nat),(some p)=some b/\∃(x:A6),H b=some (Ob.st CL x)/\(x.at_.length<=2^63-1->x=x/\∃(V:Nat->Nat×UT->HP),(∃(n:Nat),V n (0,()) H)/\∀n x1 H,V n x1 H->(x1.1<x.at_.length->∃(b:Nat),(some p)=some b/\∃(x:A6),H b=some (Ob.st CL x)/\(x1.1<=2^63-1->∃(h:x1.1<x.taken.length),∃(h:x1.1<x.taken.length),(x.taken[x1.1]->x=x/\y ((↑x1.1:Int),()) H (λ(b:Bool×UT)(G:HY)=>(¬b.1->Q () () G)/\(¬¬b.1->x1.1+1<=2^63-1/\∃m,m<n/\V m (x1.1+1,()) G)) X)/\(¬x.taken[x1.1]->x1.1+1<=2^63-1/\∃m,m<n/\x=x/\V m (x1.1+1,()) H)))/\(¬x1.1<x.at_.length->Q () () H))));have A:x.at_.length<2000000:=by have:=l.len;have:=l.room;omega
 refine⟨λh=>qG h (by simp),λ_=>⟨p,rfl,x,r _ _ s,λ_=>⟨rfl,λn z H'=>n=x.at_.length-z.1/\z.1<=x.at_.length/\J z.1 H',⟨_,rfl,ak _,s⟩,?_⟩⟩⟩;rintro n ⟨k,_⟩ H' ⟨g,f,e⟩;have B:n=x.at_.length-k:=g;have C:k<=x.at_.length:=f;have j:J k H':=e;refine⟨λd=>?_,λd=>?_⟩
 .have a:k<x.at_.length:=d;have c:k<x.taken.length:=by rw[<-l.ln];exact a
  have i:∀b,J (k+1) b->∃m,m<n/\(m=x.at_.length-(k+1)/\k+1<=x.at_.length/\J (k+1) b):=λb h=>⟨x.at_.length-(k+1),by omega,rfl,by omega,h⟩
  refine⟨p,rfl,x,r _ _ j,λ_=>⟨c,c,λo=>⟨rfl,?_⟩,λo=>⟨by show k+1<=_;omega,?_⟩⟩⟩
  .refine t k H' _ ((YW c).trans o) j λb h=>⟨λh=>qG rfl h,λ_=>⟨by show k+1<=_;omega,i b h⟩⟩
  .have q:N8 x k=false:=by rw[YW c];simpa using o
   obtain⟨m,w,v⟩:=i H' (hs k H' q a j);exact⟨m,w,rfl,v⟩
 .have a:¬k<x.at_.length:=d;have:k=x.at_.length:=by omega
  subst this;exact u H' j
theorem YS{p:Nat}{y:FT Y0 [.u 13] [.bool]}{H0:HY}{X:PX}{Q:Unit->UU}(w:Fh x)(J:Nat->HP)(z:J 0 H0)(t:∀k H,J k H->H p=some (.st CL x))(i:∀l k H o,H0 l=none->J k H->J k (Ab H l o))(D:∀(k:Nat)(n:Au)H(Q:Bool×Unit->HP),FY x k=some n->J k H->(∀H',J (k+1) H'->(∀c,H0 c=none->H' c=H c)->Q (true,()) H')->y (n,()) H Q X)(hs:∀(k:Nat)H,FY x k=none->k<x.at_.length->J k H->J (k+1) H)(A:∀H,J x.at_.length H->Q () () H):qK Lm HW (y,some p,()) H0 Q X:=by
 refine wFS Tryz.f266 {im:=[2],il:=ilT} (?_:Lc y (some p) H0 Q X);unfold Lc;intro l r a;have q:p≠l:=λe=>by have:=t _ _ z;rw[e,a]at this;cases this
 refine Aas w (λk H=>J k H/\H l=some (.lp r)) ⟨i l 0 H0 _ a z,Ai _ _ _⟩ (λk H h=>t k H h.1) (λk H v s d h=>?_) (λk H s C d=>⟨hs k H ?_ C d.1,d.2⟩) λH d=>.inl ⟨d.2,λI=>A _ (i l _ H _ a d.1)⟩
 .obtain⟨G,F,n,B,E⟩:=w.tk s;obtain⟨f,g⟩:=a7.1 E;have e:n=x.at_[((k:Int)).toNat]'f:=g.symm;refine⟨d.2,d.2,p,rfl,x,by rw[Ag _ _ q];exact t _ _ d.1,λ_=>⟨λ_=>by show (0:Int)<=(k:Int);omega,f,f,rfl,?_⟩⟩;have:=D k n (Ab H l (.lp (CF r))) (λb H'=>(¬b.1=true->H' l=some (Ob.lp (CF r))/\v (false,()) (Ab H' l (Ob.lp (O7 r Code.ret))))/\(¬¬b.1=true->H' l=some (Ob.lp (CF r))/\v (true,()) (Ab H' l (Ob.lp r)))) B (i l k H _ a d.1) λH' m j=>⟨λh=>qG rfl h,λ_=>⟨by rw[j l a,Ai],h _ ⟨i l _ H' _ a m,Ai _ _ _⟩⟩⟩
  rw[e]at this;exact this
 .unfold FY;rw[s];rfl
end
section
def PH(b:Nat)(S:B9)(H H':HY):Prop:=∀c,H c≠none->c≠b->c≠S.bl->c≠S.bp->c∉S.tb->H' c=H c
variable {b:Nat} {S:B9} {H:HY}
theorem N0.n{H':HY}(h:N0 b S H H'):PH b S H H':=λc _ e f d a=>h c e f d a
theorem PH.refl:PH b S H H:=λ_ _ _ _ _ _=>rfl
theorem PH.trans{S':B9}{H' H'':HY}(h:PH b S H H')(k:PH b S' H' H'')(m:S'.bl=S.bl)(l:S'.bp=S.bp)(j:S'.tb=S.tb):PH b S H H'':=λc f i a g d=>by have e:=h c f i a g d;rw[k c (by rw[e];exact f) i (by rw[m];exact a) (by rw[l];exact g) (by rw[j];exact d),e]
def gl(S:B9):Nat->List Au
 |0=>[]
 |k+1=>gl S k++(match FY S.po k with
  |some n=>if F1 S.cn k=0 then [n] else []
  |none=>[])
theorem Aee{S:B9}(d:Fh S.po){n:Au}:∀{k:Nat},n∈gl S k↔FY S.po n.ID=some n/\F1 S.cn n.ID=0/\0<=n.ID/\n.ID<k
 |0=>by simp only[gl,ad,false_iff];intro ⟨_,_,a,b⟩;omega
 |k+1=>by
  simp only[gl,an,Aee d (k:=k)];constructor
  .rintro(⟨a,b,c,g⟩|h)
   .exact⟨a,b,c,by omega⟩
   .split at h
    .rename_i m f;split at h
     .rename_i i;rw[a4]at h;subst h;have:=d.id _ _ f;exact⟨by rw[this];exact f,by rw[this];exact i,by omega,by omega⟩
     .cases h
    .cases h
  .rintro⟨a,b,c,g⟩;by_cases e:n.ID=k
   .right;rw[e]at a b;rw[a];simp only[b,if_true,a4]
   .exact .inl ⟨a,b,c,by omega⟩
theorem Anv{S:B9}(c:Fh S.po):∀{k:Nat},((gl S k).map (·.ID)).Nodup/\(gl S k).length<=k
 |0=>by simp [gl]
 |k+1=>by
  obtain⟨d,j⟩:=Anv c (k:=k);simp only[gl];split
  .rename_i m e;split
   .rename_i l;refine⟨?_,by simp;omega⟩;rw[am,au];refine⟨d,by simp,λa f b g=>?_⟩;obtain⟨n,h,rfl⟩:=b8.1 f;have:=((Aee c).1 h).2.2.2;have i:=c.id _ _ e;simp only[bn,cd,a4]at g;omega
   .simpa using ⟨d,by omega⟩
  .simpa using ⟨d,by omega⟩
structure Wi(S S':B9)(l:List Int):Prop where
 po:Fh S'.po
 nd:∀j,FY S'.po j=if j∈l then none else FY S.po j
 many:S'.po.many=S.po.many-l.length
 room:S'.po.room=S.po.room
 len:S'.po.at_.length=S.po.at_.length
 lv:S'.lv=S.lv
 tb:S'.tb=S.tb
 bl:S'.bl=S.bl
 bp:S'.bp=S.bp
 cn:S'.cn=S.cn
 tn:∀v:Nat,v<S.tb.length->N9 (S'.ta v).ids
 tg:∀v:Nat,v<S.tb.length->∀lo hi i,Ad (S'.ta v).ids (⟨lo,hi⟩:K2)=some i↔i∉l/\Ax S.po i=some ⟨(v:Int),lo,hi⟩
theorem Wi.refl(h:SI S):Wi S S []:=⟨h.sc.po,λj=>by simp,by simp,rfl,rfl,rfl,rfl,rfl,rfl,rfl,h.tn,λv a c b i=>by simpa using h.tg v a c b i⟩
structure Clt(S S':B9):Prop where
 lv:S'.lv=S.lv
 tb:S'.tb=S.tb
 bl:S'.bl=S.bl
 bp:S'.bp=S.bp
 room:S'.po.room=S.po.room
 Ax:∀i,Ax S'.po i=if F1 S.cn i=0 then none else YtcbkbpjlbmalmaaGreatDoor.Ax S.po i
 rf:∀i,EU S'.po i=EU S.po i
 cn:S'.cn=S.cn
theorem Wi.si{S':B9}{l:List Int}(h:SI S)(c:Wi S S' l)(w:∀i,i∈l↔Ax S.po i≠none/\F1 S.cn i=0):SI {S' with dead:=0}/\Clt S {S' with dead:=0}:=by
 have x:∀i,Ax S'.po i=if F1 S.cn i=0 then none else Ax S.po i:=λi=>by
  unfold Ax;rw[c.nd];by_cases f:i∈l
  .rw[UV f,UV ((w i).1 f).2];rfl
  .rw[GT f];by_cases j:F1 S.cn i=0
   .rw[UV j];have:Ax S.po i=none:=by
     cases e:Ax S.po i with
     |none=>rfl
     |some d=>exact qG ((w i).2 ⟨by rw[e];simp,j⟩) f
    exact this
   .rw[GT j]
 have a:∀i d,Ax S'.po i=some d->Ax S.po i=some d/\F1 S.cn i≠0:=λi d b=>by
  rw[x]at b;split at b
  .cases b
  .rename_i o;exact⟨b,o⟩
 have m:∀i d,Ax S'.po i=some d->0<F1 S.cn i:=λi d b=>by have:=a i d b;have:=h.sc.cn.nn this.1;omega
 have q:∀i,EU S'.po i=EU S.po i:=λi=>by
  unfold EU;rw[c.nd];by_cases f:i∈l
  .rw[UV f];obtain⟨j,F⟩:=(w i).1 f;cases e:Ax S.po i with
   |none=>exact qG e j
   |some d=>
    have D:=h.sc.cn.ge e;have E:=h.rf i;unfold EU at D E;cases z:FY S.po i with
    |none=>rfl
    |some n=>rw[z]at D E;simp only at D E ⊢;omega
  .rw[GT f]
 have s:∀i d,Ax S'.po i=some d->B.Ok (Ax S'.po) d.lo/\B.Ok (Ax S'.po) d.hi:=λi d b=>by
  obtain⟨f,j⟩:=a i d b;obtain⟨J,I⟩:=h.kids i d f;have u:∀e,B.Ok (Ax S.po) e->(e/2=d.lo/2∨e/2=d.hi/2)->B.Ok (Ax S'.po) e:=λe H M=>by
   refine⟨H.1,?_⟩;rcases H.2 with F|⟨L,r⟩
   .exact .inl F
   .have:=h.sc.cn.kid (λ_=>h.rf _) f (m i d b) r M;exact .inr ⟨L,by rw[x,GT (by omega)];exact r⟩
  exact⟨u _ J (.inl rfl),u _ I (.inr rfl)⟩
 have t:=h.BS.cut B9.Ko (λi d b=>(a i d b).1) s;have z:S'.n=S.n:=by unfold B9.n;rw[c.tb]
 have A:∀i p,B.pt (Ax S'.po) (F1 S.cn) i p=B.pt (Ax S.po) (F1 S.cn) i p:=λi p=>by
  unfold B.pt;rw[x];by_cases o:F1 S.cn p=0
  .rw[UV o];cases Ax S.po p with
   |none=>rfl
   |some d=>simp only;rw[GT (by omega)]
  .rw[GT o]
 refine⟨⟨⟨c.po,⟨λ{i d}b=>?_,λ{i d}b=>?_,λ{i d}b=>?_⟩,λi d b=>?_,?_⟩,?_,?_,?_,?_,c.tb▸c.tn,?_,λi=>by rw[q];exact h.rf i⟩,c.lv,c.tb,c.bl,c.bp,c.room,x,q,c.cn⟩
 .show 0<i/\i<(S'.po.at_.length:Int);rw[c.len];exact h.sc.cn.Mg (a i d b).1
 .show 0<=F1 S'.cn i;rw[c.cn];exact h.sc.cn.nn (a i d b).1
 .show F1 S'.cn i=EU S'.po i+B.sm S'.po.at_.length (B.pt (Ax S'.po) (F1 S'.cn) i);rw[c.cn,c.len,q,h.sc.cn.eq (a i d b).1];congr 1;exact(B.EN λk _ _=>A i k).symm
 .show i.toNat<S'.cn.length;rw[c.cn];exact h.sc.ln i d (a i d b).1
 .show (0:Int)=B.sm S'.po.at_.length (B.zr (Ax S'.po) (F1 S'.cn));rw[B.EN (g:=λ_=>0) λk _ _=>?_,B.Um];unfold B.zr;rw[c.cn];cases e:Ax S'.po k with
  |none=>rfl
  |some d=>have:=m k d e;simp only;rw[GT (by omega)]
 .show B.Good S'.n (Df S'.lv) (Ax S'.po);rw[z,c.lv];exact t.1
 .show S'.lv.vars.length=S'.tb.length;rw[c.lv,c.tb];exact h.vl
 .show S'.lv.level.length=S'.tb.length;rw[c.lv,c.tb];exact h.ll
 .show ∀(l:Nat)(v:Int),S'.lv.vars[l]?=some v->0<=v/\v<S'.n/\Df S'.lv v=(l:Int);rw[c.lv,z];exact h.inv
 .intro v K G y i;show Ad (S'.ta v).ids (⟨G,y⟩:K2)=some i↔Ax S'.po i=some ⟨(v:Int),G,y⟩;have C:v<S.tb.length:=by rw[<-c.tb];exact K
  rw[c.tg v C,x];constructor
  .rintro⟨f,j⟩;rw[GT λo=>f ((w i).2 ⟨by rw[j];simp,o⟩)];exact j
  .intro f;split at f
   .cases f
   .rename_i o;exact⟨λy=>o ((w i).1 y).2,f⟩
end
section
variable {S:B9}
theorem Ca.KK{H H':HY}{b:Nat}(h:Ca H b S)(f:∀c,H c≠none->H' c=H c):Ca H' b S:=by
 refine⟨?_,?_,?_,h.nd,λv a=>?_⟩
 .rw[f _ (by rw[h.st];simp)];exact h.st
 .rw[f _ (by rw[h.lv];simp)];exact h.lv
 .rw[f _ (by rw[h.po];simp)];exact h.po
 .rw[f _ (by rw[h.ta v a];simp)];exact h.ta v a
variable {k:Nat}
theorem Arw(h:FY S.po k=none):gl S (k+1)=gl S k:=by simp [gl,h]
variable {n:Au}
theorem Ary(h:FY S.po k=some n)(h0:F1 S.cn k=0):gl S (k+1)=gl S k++[n]:=by simp [gl,h,h0]
theorem Arx(h:FY S.po k=some n)(h0:¬F1 S.cn k=0):gl S (k+1)=gl S k:=by simp [gl,h,h0]
theorem Wi.step{S1:B9}{l:List Int}(h:SI S)(c:Wi S S1 l)(F:FY S.po n.ID=some n)(_:n.ID∉l){x':A6}(z:Fh x')(D:∀j,FY x' j=if j=n.ID then none else FY S1.po j)(f:x'.many=S1.po.many-1)(B:x'.room=S1.po.room)(s:x'.at_.length=S1.po.at_.length){t:Ay}(A:t=⟨Db (S1.ta n.Var.toNat).ids (⟨n.Lo,n.Hi⟩:K2)⟩):Wi S {S1 with ta:=λw=>if w=n.Var.toNat then t else S1.ta w,po:=x'} (n.ID::l):=by
 subst A;have o:=Hf F;have y:0<=n.Var/\n.Var<S.n:=(h.BS.var o).2;have g:n.Var.toNat<S.tb.length:=by grind[B9.n]
 have x:((n.Var.toNat:Nat):Int)=n.Var:=by omega
 refine⟨z,λj=>?_,?_,B.trans c.room,s.trans c.len,c.lv,c.tb,c.bl,c.bp,c.cn,λv m=>?_,λv m r q i=>?_⟩
 .show FY x' j=_;rw[D,c.nd];grind
 .show x'.many=_;rw[f,c.many];grind
 .show N9 (if v=n.Var.toNat then _ else S1.ta v).ids;split
  .exact RB (c.tn _ g) _
  .exact c.tn v m
 .show Ad (if v=n.Var.toNat then _ else S1.ta v).ids (⟨r,q⟩:K2)=some i↔_;by_cases e:v=n.Var.toNat
  .subst e;rw[UV rfl];simp only;rw[It (c.tn _ g)];by_cases p:(⟨r,q⟩:K2)=⟨n.Lo,n.Hi⟩
   .rw[UV p];obtain⟨rfl,rfl⟩:r=n.Lo/\q=n.Hi:=by grind
    constructor
    .simp
    .rintro⟨k,d⟩;exfalso;rw[<-h.tg _ g]at d;have u:=(h.tg _ g n.Lo n.Hi n.ID).2 (by rw[o,x]);grind
   .rw[GT p,c.tg _ g];grind
  .rw[GT e,c.tg v m];grind
theorem Aoq(h:SI S)(c:S.dead=0):Clt S S:=by
 refine⟨rfl,rfl,rfl,rfl,rfl,λi=>?_,λ_=>rfl,rfl⟩;split
 .rename_i b;cases e:Ax S.po i with
  |none=>rfl
  |some d=>
   have j:=h.sc.dead;have a:=h.sc.cn.Mg e;have k:=B.Atk (f:=B.zr (Ax S.po) (F1 S.cn)) (m:=S.po.at_.length) (λ_ _ _=>Akk.1) (ce a.1) a.2;grind[B.zr,Ax,F1]
 .rfl
theorem GH{b:Nat}{H:HY}{X:PX}{Q:Int×Unit->UU}(L:Ca H b S)(F:SI S)(h:∀S' H' k,Ca H' b S'->SI S'->Clt S S'->PH b S H H'->Q (k,()) () H'):qK Dk C8 (some b,()) H Q X:=by
 refine wFS Tryz.f207 {lp:=[(9,⟨[(3,.blk [.dat (.sl (.u 13))]),(37,.nat)],[1,35,36],true⟩)],pr:=[(3,46)],im:=[1],il:=ilT,tk:=[35]} (?_:((some b)=none->Q (0,()) () H)/\(¬(some b)=none->∃(c:Nat),(some b)=some c/\∃(x:Ah),H c=some (Ob.st A8 x)/\(x.dead=0->x=x/\Q (0,()) () H)/\(¬x.dead=0->x=x/\∀(c:Nat),H c=none->∃(b1:Nat),(some b)=some b1/\∃(x:Ah),Ab H c (Ob.st Dd []) b1=some (Ob.st A8 x)/\x=x/\∀(l:Nat)(r:Loop),Ab H c (Ob.st Dd []) l=none->qK Lm HW (λ(a:Au×UT)(H:HY)(Q:Bool×UT->HP)(X:Nat->Lf Y0.D->HP)=>H l=some (Ob.lp r)/\H l=some (Ob.lp r)/\∃(b2:Nat),(some b)=some b2/\∃(x:Ah),Ab H l (Ob.lp (CF r)) b2=some (Ob.st A8 x)/\(IK a.1.ID->(IK a.1.ID->(0:Int)<=a.1.ID)/\∃(h:a.1.ID.toNat<x.counts.length),∃(h:a.1.ID.toNat<x.counts.length),(x.counts[a.1.ID.toNat]=0->x=x/\∃(x:List Au),Ab H l (Ob.lp (CF r)) c=some (Ob.st Dd x)/\(x.length+[{ID:=a.1.ID,Var:=a.1.Var,Lo:=a.1.Lo,Hi:=a.1.Hi,Refs:=a.1.Refs:Au}].length)*40<=2^47/\Ab (Ab H l (Ob.lp (CF r))) c (Ob.st Dd (x++[{ID:=a.1.ID,Var:=a.1.Var,Lo:=a.1.Lo,Hi:=a.1.Hi,Refs:=a.1.Refs:Au}])) l=some (Ob.lp (CF r))/\Q (true,()) (Ab (Ab (Ab H l (Ob.lp (CF r))) c (Ob.st Dd (x++[{ID:=a.1.ID,Var:=a.1.Var,Lo:=a.1.Lo,Hi:=a.1.Hi,Refs:=a.1.Refs:Au}]))) l (Ob.lp r)))/\(¬x.counts[a.1.ID.toNat]=0->x=x/\Ab H l (Ob.lp (CF r)) l=some (Ob.lp (CF r))/\Q (true,()) (Ab (Ab H l (Ob.lp (CF r))) l (Ob.lp r)))),x.DZ,()) (Ab (Ab H c (Ob.st Dd [])) l (Ob.lp r)) (λ(b2 io:UT)(G:HY)=>(G l=some (Ob.lp r)/\∀(r':Loop),∃(x:List Au),Ab G l (Ob.lp r') c=some (Ob.st Dd x)/\(x.length<=2^63-1->∃(V:Nat->(List Au×UT)×Nat×UT->HP),(∃(n:Nat),V n ((x,()),0,()) (C0 (Ab G l (Ob.lp r')) c))/\∀n x1 H,V n x1 H->(x1.2.1<x.length->x1.2.1<=2^63-1->∃(h:x1.2.1<x.length),∃(c:Nat),(some b)=some c/\(∃(x2:Ah),H c=some (Ob.st A8 x2)/\(IK x[x1.2.1].Var->(IK x[x1.2.1].Var->(0:Int)<=x[x1.2.1].Var)/\∃(h1:x[x1.2.1].Var.toNat<x2.tables.length),∃(h2:x[x1.2.1].Var.toNat<x2.tables.length),x2=x2/\qK DS Dl (x2.tables[x[x1.2.1].Var.toNat],x[x1.2.1].Lo,x[x1.2.1].Hi,()) H (λ(c:Int×UT)_ G=>∃(c:Nat),(some b)=some c/\∃(x3:Ah),G c=some (Ob.st A8 x3)/\x3=x3/\qK GS ER (x3.DZ,x[x1.2.1].ID,()) G (λ(c:Int×UT)_ G=>x1.2.1+1<=(2^63-1:Nat)/\∃m,m<n/\V m ((x1.1.1,()),x1.2.1+1,()) G) X) X))/\∃(x2:Ah),H c=some (Ob.st A8 x2)/\(IK x[x1.2.1].Var->(IK x[x1.2.1].Var->(0:Int)<=x[x1.2.1].Var)/\∃(h1:x[x1.2.1].Var.toNat<x2.tables.length),∃(h2:x[x1.2.1].Var.toNat<x2.tables.length),x2=x2/\qK DS Dl (x2.tables[x[x1.2.1].Var.toNat],x[x1.2.1].Lo,x[x1.2.1].Hi,()) H (λ(c:Int×UT)_ G=>∃(c:Nat),(some b)=some c/\∃(x3:Ah),G c=some (Ob.st A8 x3)/\x3=x3/\qK GS ER (x3.DZ,x[x1.2.1].ID,()) G (λ(c:Int×UT)_ G=>x1.2.1+1<=(2^63-1:Nat)/\∃m,m<n/\V m ((x1.1.1,()),x1.2.1+1,()) G) X) X))/\(¬x1.2.1<x.length->∃(c:Nat),(some b)=some c/\∃(x:Ah),H c=some (Ob.st A8 x)/\(x1.1.1.length<=2^63-1->Q ((↑x1.1.1.length:Int),()) () (Ab H c (Ob.st A8 {x with dead:=0}))))))∨G l=some (Ob.lp (O7 r Code.ret))/\∀(r':Loop),Q (0,()) () (Ab G l (Ob.lp r'))) X)));refine⟨λh=>qG h (by simp),λ_=>⟨b,rfl,S.ob,L.st,λhd=>⟨rfl,h S H 0 L F (Aoq F hd) PH.refl⟩,λhd=>⟨rfl,λI hb2=>?_⟩⟩⟩;have K:=F.sc.po;have hL:S.po.at_.length<2000000:=by have:=K.len;have:=K.room;omega
 have bne:∀{c:Nat}{o:Ob Y0},H c=some o->c≠I:=λg e=>by rw[e,hb2]at g;cases g
 refine⟨b,rfl,S.ob,by rw[Ag _ _ (bne L.st)];exact L.st,rfl,λl r J=>?_⟩;have p:l≠I:=λe=>by rw[e,Ai]at J;cases J
 have hl:H l=none:=by rw[Ag _ _ p]at J;exact J
 have y:∀{c:Nat},H c≠none->c≠l:=λg e=>g (by rw[e];exact hl);have E:∀{c:Nat},H c≠none->c≠I:=λg e=>g (by rw[e];exact hb2);refine YS K (λk H'=>H' I=some (.st Dd (gl S k))/\H' l=some (.lp r)/\∀c,H c≠none->H' c=H c) ⟨?_,Ai _ _ _,λc g=>?_⟩ (λk H' C=>(L.KK C.2.2).po) (λl' k H' o B C=>?_) (λk n H' Q' w C hQ=>?_) (λk H' w hk C=>?_) λH' C=>.inl ⟨C.2.1,λr'=>⟨gl S S.po.at_.length,?_,λ_=>?_⟩⟩
 .rw[Ag _ _ (Ne.symm p),Ai];rfl
 .rw[Ag _ _ (y g),Ag _ _ (E g)]
 .have M:l'≠l:=λe=>by rw[e,Ai]at B;cases B
  have e2:l'≠I:=λe=>by rw[e,Ag _ _ (Ne.symm p),Ai]at B;cases B
  rw[Ag _ _ M,Ag _ _ e2]at B;exact⟨by rw[Ag _ _ (Ne.symm e2)];exact C.1,by rw[Ag _ _ (Ne.symm M)];exact C.2.1,λc g=>by rw[Ag _ _ (λe=>g (by rw[e];exact B))];exact C.2.2 c g⟩
 .obtain⟨j1,j2,O⟩:=C;have D:=K.id _ _ w;have hk:k<S.cn.length:=by have:=F.sc.ln k _ (Hf w);simpa using this
  have hkk:n.ID.toNat=k:=by omega
  have Z:∀(h:n.ID.toNat<S.cn.length),S.cn[n.ID.toNat]=F1 S.cn k:=λh=>by rw[<-D,Uw (by omega) h]
  have G:n.ID.toNat<S.cn.length:=by omega
  have hlen:=(Anv K (k:=k)).2;have hkL:k<S.po.at_.length:=by have:=F.sc.cn.Mg (Hf w);omega
  have st':Ab H' l (Ob.lp (CF r)) b=some (Ob.st A8 S.ob):=by rw[Ag _ _ (y (by rw[L.st];simp))];exact(L.KK O).st
  refine⟨j2,j2,b,rfl,S.ob,st',λ_=>⟨λ_=>(by show 0<=n.ID;omega),G,G,λh0=>⟨rfl,gl S k,?_,?_,?_,?_⟩,λh0=>⟨rfl,Ai _ _ _,?_⟩⟩⟩
  .rw[Ag _ _ (Ne.symm p)];exact j1
  .show ((gl S k).length+1)*40<=_;omega
  .rw[Ag _ _ p,Ai]
  .have T:F1 S.cn k=0:=(Z G).symm.trans h0;refine hQ _ ⟨?_,Ai _ _ _,λc g=>?_⟩ λc g=>?_
   .rw[Ag _ _ (Ne.symm p),Ai,Ary w T]
   .rw[Ag _ _ (y g),Ag _ _ (E g),Ag _ _ (y g)];exact O c g
   .have M:c≠l:=λe=>by rw[e,Ai]at g;cases g
    have e2:c≠I:=λe=>by rw[e,Ag _ _ (Ne.symm p),Ai]at g;cases g
    rw[Ag _ _ M,Ag _ _ e2,Ag _ _ M]
  .have T:¬F1 S.cn k=0:=λe=>h0 ((Z G).trans e);refine hQ _ ⟨?_,Ai _ _ _,λc g=>?_⟩ λc g=>?_
   .rw[Ag _ _ (Ne.symm p),Ag _ _ (Ne.symm p),Arx w T];exact j1
   .rw[Ag _ _ (y g),Ag _ _ (y g)];exact O c g
   .have M:c≠l:=λe=>by rw[e,Ai]at g;cases g
    rw[Ag _ _ M,Ag _ _ M]
 .obtain⟨j1,j2,O⟩:=C;exact⟨by rw[Arw w];exact j1,j2,O⟩
 .rw[Ag _ _ (Ne.symm p)];exact C.1
 .obtain⟨j1,j2,O⟩:=C;have hg:∀n,n∈gl S S.po.at_.length↔FY S.po n.ID=some n/\F1 S.cn n.ID=0/\0<=n.ID/\n.ID<S.po.at_.length:=λn=>Aee K;obtain⟨g1,g2⟩:=Anv K (k:=S.po.at_.length);generalize gl S S.po.at_.length=N at hg g1 g2;have s0:Ca (C0 (Ab H' l (Ob.lp r')) I) b S/\PH b S H (C0 (Ab H' l (Ob.lp r')) I):=by
   have f:∀c,H c≠none->C0 (Ab H' l (Ob.lp r')) I c=H c:=λc g=>by unfold C0;rw[GT (E g),Ag _ _ (y g)];exact O c g
   exact⟨L.KK f,λc g _ _ _ _=>f c g⟩
  refine⟨λn x H2=>x.1.1=N/\n=N.length-x.2.1/\x.2.1<=N.length/\∃q,Ca H2 b q/\Wi S q ((N.take x.2.1).map (·.ID))/\q.dead=S.dead/\PH b S H H2,⟨_,rfl,rfl,ak _,S,s0.1,Wi.refl F,rfl,s0.2⟩,?_⟩;rintro m ⟨⟨a,_⟩,k,_⟩ H2 ⟨e0,W,hk0,q,U,z,d1,f1⟩;have e0:a=N:=e0;have hm:m=N.length-k:=W;have hk:k<=N.length:=hk0;replace z:Wi S q ((N.take k).map (·.ID)):=z;subst e0;refine⟨λP _=>?_,λP=>?_⟩
  .have s:k<a.length:=P;obtain⟨w,h0,hid0,hid1⟩:=(hg a[k]).1 (b6 s);have hd:=Hf w;have V:=F.BS.var hd;simp only at V;have hv':(a[k]).Var.toNat<S.tb.length:=by have:=V.2.2;unfold B9.n at this;omega
   have u:(a[k]).Var.toNat<q.tb.length:=by rw[z.tb];exact hv'
   have hvv:(((a[k]).Var.toNat:Nat):Int)=(a[k]).Var:=by omega
   have R:(a[k]).ID∉(a.take k).map (·.ID):=λA=>by
    have h1:a.map (·.ID)=(a.take k).map (·.ID)++(a[k]).ID::(a.drop (k+1)).map (·.ID):=by rw[<-bn,<-am,<-a9 s,bi]
    rw[h1,au]at g1;exact g1.2.2 _ A _ (a5) rfl
   have hob:q.ob.tables[(a[k]).Var.toNat]'(by simpa [B9.ob] using u)=some q.tb[(a[k]).Var.toNat]:=by simp [B9.ob]
   have cut:qK DS Dl (q.ob.tables[(a[k]).Var.toNat]'(by simpa [B9.ob] using u),(a[k]).Lo,(a[k]).Hi,()) H2 (λ(b_2:Int×Unit)io H'=>∃(Y:Nat),some b=some Y/\∃(t:Ah),H' Y=some (Ob.st A8 t)/\({levels:=t.levels,DZ:=t.DZ,tables:=t.tables,counts:=t.counts,dead:=t.dead}:Ah)=t/\
     qK GS ER (t.DZ,(a[k]).ID,()) H' (λ(b_4:Int×Unit)io H'=>k+1<=9223372036854775807/\∃(m':Nat),m'<m/\(a=a/\m'=a.length-(k+1)/\k+1<=a.length/\∃q,Ca H' b q/\Wi S q ((a.take (k+1)).map (·.ID))/\q.dead=S.dead/\PH b S H H')) X) X:=by
    rw[hob]
    refine UF (U.ta _ u) ((z.tg _ hv' _ _ _).2 ⟨R,by rw[hd,hvv]⟩) ⟨b,rfl,?_⟩
    obtain⟨s2,f2⟩:=U.Alf u ⟨Db (q.ta (a[k]).Var.toNat).ids (⟨(a[k]).Lo,(a[k]).Hi⟩:K2)⟩
    refine⟨_,s2.st,rfl,?_⟩
    refine YR (m:=a[k]) s2.po z.po (by rw[z.nd,GT R];exact w) λx' hx hj hm' hr hle=>?_
    obtain⟨s3,f3⟩:=s2.Alg x'
    refine⟨by show k+1<=_;omega,a.length-(k+1),by omega,rfl,rfl,by show k+1<=_;omega,_,s3,?_,d1,?_⟩
    .have:=z.step F w R hx hj hm' hr hle rfl
     have A:∀j,j∈(a[k]).ID::(a.take k).map (·.ID)↔j∈(a.take k).map (·.ID)++[(a[k]).ID]:=λj=>by rw[an,ax,a4];exact or_comm
     have e:(a.take (k+1)).map (·.ID)=(a.take k).map (·.ID)++[(a[k]).ID]:=by show (a.take (k+1)).map (·.ID)=_;rw[a8 s,am];rfl
     rw[e]
     refine⟨this.po,λj=>?_,?_,this.room,this.len,this.lv,this.tb,this.bl,this.bp,this.cn,this.tn,λv V lo hi i=>?_⟩
     .rw[this.nd];simp only[A j]
     .rw[this.many];simp
     .rw[this.tg v V,A i]
    .exact(f1.trans (f2.trans f3 rfl rfl rfl).n z.bl z.bp z.tb)
   refine⟨s,b,rfl,⟨q.ob,U.st,λ_=>⟨λ_=>V.2.1,by simpa [B9.ob] using u,by simpa [B9.ob] using u,rfl,cut⟩⟩,q.ob,U.st,λ_=>⟨λ_=>V.2.1,by simpa [B9.ob] using u,by simpa [B9.ob] using u,rfl,cut⟩⟩
  .have s:¬k<a.length:=P;have:k=a.length:=by omega
   subst this;rw[bu]at z;obtain⟨s2,f2⟩:=U.SO q.cn 0;obtain⟨i1,i2⟩:=z.si F λi=>by
    rw[b8];constructor
    .rintro⟨n,w,rfl⟩;have:=(hg n).1 w;exact⟨by rw[Hf this.1];simp,this.2.1⟩
    .rintro⟨h1,h2⟩;cases e:Ax S.po i with
     |none=>exact qG e h1
     |some d=>
      obtain⟨n,w,_⟩:=Gb e;have D:=K.id _ _ w;have hdm:=F.sc.cn.Mg e;exact⟨n,(hg n).2 ⟨by rw[D];exact w,by rw[D];exact h2,by omega,by omega⟩,D⟩
   exact⟨b,rfl,q.ob,U.st,λ_=>h {q with dead:=0} _ _ s2 i1 i2 (f1.trans f2.n z.bl z.bp z.tb)⟩
end
section
section
variable {κ β:Type} [DecidableEq κ]
theorem Gz:∀{m:List (κ×β)}{p:κ×β},N9 m->p∈m->Ad m p.1=some p.2
 |q::m,p,h,a=>by
  obtain⟨c,b⟩:=bh.1 h;show (if q.1=p.1 then some q.2 else Ad m p.1)=some p.2;rcases ax.1 a with rfl|a
  .simp
  .rw[GT λe=>c (by grind)];exact Gz b a
theorem II:∀{m:List (κ×β)}{k:κ}{v:β},Ad m k=some v->(k,v)∈m
 |q::m,k,v,h=>by
  have h:(if q.1=k then some q.2 else Ad m k)=some v:=h;split at h
  .rename_i e;cases h;subst e;exact a5
  .exact aa _ (II h)
end
theorem Ago{α:Type}(f:α->Nat){l:List α}{n:Nat}(h:l.Nodup)(i:∀a∈l,f a<n)(hi:∀a∈l,∀b∈l,f a=f b->a=b):l.length<=n:=by
 have j:(l.map f).Nodup:=by rw[c6,ba];exact h.imp_of_mem λ{a b}d g c e=>c (hi a d b g e)
 have:=GO (m:=List.range n) j λk o=>by grind
 grind
theorem ZT{b:Nat}{x:Ay}{y:FT Y0 [.u 17,.int .i64] [.bool]}{H0:HY}{X:PX}{Q:Unit->UU}(R:H0 b=some (.st BK x))(B:N9 x.ids)(F:x.ids.length<=2000000)(J:List K2->HP)(V:J [] H0)(hp:∀d H,J d H->H b=some (.st BK x))(Z:∀(d:List K2)(k:K2)(i:Int)H(Q:Bool×Unit->HP),J d H->Ad x.ids k=some i->k∉d->d.length<2000000->(∀H',J (d++[k]) H'->Q (true,()) H')->y (k,i,()) H Q X)(K:∀d H,J d H->d.Nodup->(∀k i,Ad x.ids k=some i->k∈d)->Q () () H):qK K4 Hk (y,some b,()) H0 Q X:=by
 refine wFS Tryz.f268 {lp:=[(8,⟨[(25,.one (.own (.u 17))),(27,.nat)],[0,1,25,26],true⟩),(3,⟨[(3,.one (.own (.u 17)))],[0,1,13],true⟩)],il:=ilS,hd:=[(10,[6])]} (?_:Ky y (some b) H0 Q X);unfold Ky;refine⟨λh=>qG h (by simp),λ_=>⟨b,rfl,x,R,⟨rfl,trivial⟩,λr z H=>H=H0/\∃d:List (K2×Int),d.map (·.1)=z.1/\(d++r).Perm x.ids,⟨rfl,⟨rfl,trivial⟩,⟨rfl,[],rfl,c0 _⟩⟩,?_⟩⟩;rintro r ⟨ks,_⟩ H ⟨rfl,d,N,l⟩;have N:d.map (·.1)=ks:=N;subst N;refine⟨λL=>?_,λl1 p T L=>?_⟩
 .subst L;rw[bg]at l;have v:d.length<=2000000:=by rw[l.length_eq];exact F
  refine⟨⟨b,x,rfl,Ai _ _ _⟩,by show (d.map (·.1)).length<_;rw[ae];omega,λm o _=>?_⟩;rw[KQ R];have o:m.Perm (d.map (·.1)):=o;have Y:m.length<=2000000:=by rw[o.length_eq,ae];exact v
  have G:m.Perm (x.ids.map (·.1)):=o.trans (l.map _);have D:m.Nodup:=G.nodup_iff.2 B;have s:∀k,k∈m↔∃i,Ad x.ids k=some i:=λk=>by
   rw[G.mem_iff];constructor
   .intro h;obtain⟨q,K,rfl⟩:=b8.1 h;exact⟨_,Gz B K⟩
   .rintro⟨i,h⟩;exact ac (f:=cf) (II h)
  refine⟨λn z H'=>z.1=m/\n=m.length-z.2.1/\z.2.1<=m.length/\J (m.take z.2.1) H',⟨_,rfl,rfl,ak _,V⟩,?_⟩;rintro n ⟨g,k,_⟩ H' ⟨P,w,A,C⟩;have P:g=m:=P;subst P;have hn:n=g.length-k:=w;have hk:k<=g.length:=A;have I:J (g.take k) H':=C;refine⟨λt _=>?_,λt=>?_⟩
  .have c:k<g.length:=t;obtain⟨i,S⟩:=(s g[k]).1 (b6 c);refine⟨c,c,b,rfl,x,hp _ _ I,rfl,?_⟩;have O:(Ad x.ids g[k]).getD 0=i:=by rw[S];rfl
   show y (g[k],(Ad x.ids g[k]).getD 0,()) H' _ X;rw[O];refine Z (g.take k) g[k] i H' _ I S (λhm=>?_) (by rw[bv];omega) λM E=>⟨λh=>qG rfl h,λ_=>⟨by show k+1<=_;omega,g.length-(k+1),by omega,rfl,rfl,by show k+1<=_;omega,?_⟩⟩
   .obtain⟨j,U,e⟩:=b7.1 hm;rw[bv]at U;rw[List.getElem_take]at e;have:=(List.getElem_inj D).1 e;omega
   .show J (g.take (k+1)) M;rw[a8 c];exact E
  grind
 .subst L;have W:d.length+1<=x.ids.length:=by rw[<-l.length_eq];grind
  refine⟨?_,rfl,⟨rfl,trivial⟩,rfl,d++[p],by simp,?_⟩;all_goals grind
theorem SI.Azi{S:B9}(h:SI S){v:Nat}(m:v<S.tb.length):(S.ta v).ids.length<=2000000:=by
 have j:=h.tn v m;have d:∀p∈(S.ta v).ids,Ax S.po p.2=some ⟨(v:Int),p.1.a0,p.1.a1⟩:=λp f=>(h.tg v m p.1.a0 p.1.a1 p.2).1 (Gz j f);refine Ago (λp=>p.2.toNat) (?_:(S.ta v).ids.Nodup) (λp f=>?_) λp f q o e=>?_
 .have:((S.ta v).ids.map (·.1)).Nodup:=j;rw[c6,ba]at this;exact this.imp λh e=>h (by rw[e])
 .have:=h.ib (d p f);omega
 .have n:=d p f;have g:=d q o;have:=h.ib n;have:=h.ib g;have e:p.2=q.2:=by omega
  rw[<-e,n]at g;have i:=ap g;have l:p.1.a0=q.1.a0:=congrArg B.Nd.lo i;have k:p.1.a1=q.1.a1:=congrArg B.Nd.hi i;obtain⟨⟨a,b⟩,c⟩:=p;simp_all
structure TnE(S:B9)(x y:Int)(t:AA):Prop where
 nd:FY S.po t.n.ID=some t.n
 v:t.n.Var=x
 l:(t.ll,t.lh)=B.sp (Ax S.po) y t.n.Lo
 h:(t.hl,t.hh)=B.sp (Ax S.po) y t.n.Hi
 ne:t.ll≠t.lh∨t.hl≠t.hh
def kyT(t:AA):K2:=⟨t.n.Lo,t.n.Hi⟩
theorem Wz{b:Nat}{S:B9}{x y:Int}{H:HY}{X:PX}{Q:List AA×Unit->UU}(Z:Ca H b S)(F:SI S)(hx:0<=x/\x<S.n)(h:∀L H',Ca H' b S->PH b S H H'->(L.map (·.n.ID)).Nodup->L.length<=2000000->(∀t∈L,TnE S x y t)->(∀i n,FY S.po i=some n->n.Var=x->(B.ME (Ax S.po) y n.Lo∨B.ME (Ax S.po) y n.Hi)->∃t∈L,t.n=n)->Q (L,()) () H'):qK Ln HX (some b,x,y,()) H Q X:=by
 refine wFS Tryz.f208 {pr:=[(7,48)],im:=[3,5],il:=ilT,tk:=[70]} (?_:∀(c:Nat),H c=none->∃(b1:Nat),(some b)=some b1/\∃(x1:Ah),Ab H c (Ob.st AO []) b1=some (Ob.st A8 x1)/\(IK x->(IK x->0<=x)/\∃(h:x.toNat<x1.tables.length),∃(h:x.toNat<x1.tables.length),x1=x1/\∀(l:Nat)(r:Loop),Ab H c (Ob.st AO []) l=none->qK K4 Hk (λ(a:Aj×Int×UT)(H:HY)(Q:Bool×UT->HP)(X:Nat->Lf Y0.D->HP)=>H l=some (Ob.lp r)/\H l=some (Ob.lp r)/\∃(b2:Nat),(some b)=some b2/\∃(x:Ah),Ab H l (Ob.lp (CF r)) b2=some (Ob.st A8 x)/\x=x/\qK AF AB (x.DZ,a.2.1,()) (Ab H l (Ob.lp (CF r))) (λ(b3:Au×Bool×UT)_ G=>qK Ht EG ((some b),b3.1.Lo,y,()) G (λ(b4:Int×Int×UT)_ G=>qK Ht EG ((some b),b3.1.Hi,y,()) G (λ(b5:Int×Int×UT)_ G=>(¬b4.1=b4.2.1->∃(x:List AA),G c=some (Ob.st AO x)/\(x.length+[{n:=b3.1,ll:=b4.1,lh:=b4.2.1,hl:=b5.1,hh:=b5.2.1:AA}].length)*72<=2^47/\Ab G c (Ob.st AO (x++[{n:=b3.1,ll:=b4.1,lh:=b4.2.1,hl:=b5.1,hh:=b5.2.1:AA}])) l=some (Ob.lp (CF r))/\Q (true,()) (Ab (Ab G c (Ob.st AO (x++[{n:=b3.1,ll:=b4.1,lh:=b4.2.1,hl:=b5.1,hh:=b5.2.1:AA}]))) l (Ob.lp r)))/\(¬¬b4.1=b4.2.1->(¬b5.1=b5.2.1->∃(x:List AA),G c=some (Ob.st AO x)/\(x.length+[{n:=b3.1,ll:=b4.1,lh:=b4.2.1,hl:=b5.1,hh:=b5.2.1:AA}].length)*72<=2^47/\Ab G c (Ob.st AO (x++[{n:=b3.1,ll:=b4.1,lh:=b4.2.1,hl:=b5.1,hh:=b5.2.1:AA}])) l=some (Ob.lp (CF r))/\Q (true,()) (Ab (Ab G c (Ob.st AO (x++[{n:=b3.1,ll:=b4.1,lh:=b4.2.1,hl:=b5.1,hh:=b5.2.1:AA}]))) l (Ob.lp r)))/\(¬¬b5.1=b5.2.1->G l=some (Ob.lp (CF r))/\Q (true,()) (Ab G l (Ob.lp r))))) X) X) X,x1.tables[x.toNat],()) (Ab (Ab H c (Ob.st AO [])) l (Ob.lp r)) (λ(b2 io:UT)(G:HY)=>(G l=some (Ob.lp r)/\∀(r':Loop),∃(x:List AA),Ab G l (Ob.lp r') c=some (Ob.st AO x)/\Q (x,()) () (C0 (Ab G l (Ob.lp r')) c))∨G l=some (Ob.lp (O7 r Code.ret))/\∀(r':Loop),Q ([],()) () (Ab G l (Ob.lp r'))) X));intro O hb2;have hP:=F.sc.po;have I:∀{c:Nat},H c≠none->c≠O:=λj e=>j (by rw[e];exact hb2);have q:x.toNat<S.tb.length:=by have:=hx.2;unfold B9.n at this;omega
 have hxx:((x.toNat:Nat):Int)=x:=by omega
 refine⟨b,rfl,S.ob,by rw[Ag _ _ (I (by rw[Z.st];simp))];exact Z.st,λ_=>⟨λ_=>hx.1,by simpa [B9.ob] using q,by simpa [B9.ob] using q,rfl,λl r J=>?_⟩⟩;have u:l≠O:=λe=>by rw[e,Ai]at J;cases J
 have hl:H l=none:=by rw[Ag _ _ u]at J;exact J
 have A:∀{c:Nat},H c≠none->c≠l:=λj e=>j (by rw[e];exact hl);have hob:S.ob.tables[x.toNat]'(by simpa [B9.ob] using q)=some S.tb[x.toNat]:=by simp [B9.ob]
 rw[hob];have N:∀c,H c≠none->Ab (Ab H O (Ob.st AO [])) l (Ob.lp r) c=H c:=λc j=>by rw[Ag _ _ (A j),Ag _ _ (I j)]
 have hg:=F.tg x.toNat q;simp only[hxx]at hg;refine ZT (x:=S.ta x.toNat) (Z.KK N |>.ta x.toNat q) (F.tn _ q) (F.Azi q) (λd H'=>∃L:List AA,H' O=some (.st AO L)/\H' l=some (.lp r)/\(∀c,H c≠none->H' c=H c)/\L.length<=d.length/\(L.map kyT).Nodup/\(∀t∈L,TnE S x y t/\kyT t∈d)/\
  ∀i n,FY S.po i=some n->n.Var=x->(⟨n.Lo,n.Hi⟩:K2)∈d->(B.ME (Ax S.po) y n.Lo∨B.ME (Ax S.po) y n.Hi)->∃t∈L,t.n=n) ?_ (λd H'⟨L,_,_,V,_⟩=>(Z.KK V).ta x.toNat q) (λd k i H' Q'⟨L,j1,j2,j3,j4,Y,C,j7⟩hk hkd hdl hQ=>?_) λd H'⟨L,j1,j2,j3,j4,Y,C,j7⟩hdn hall=>.inl ⟨j2,λr'=>⟨L,?_,?_⟩⟩
 .exact⟨[],by rw[Ag _ _ (Ne.symm u),Ai],Ai _ _ _,N,Nat.le_refl _,bk,λt o=>qG o ad,λi n _ _ W=>qG W ad⟩
 .have W:=(hg k.a0 k.a1 i).1 hk;obtain⟨n,K,hv,T,P⟩:=Gb W;simp only at hv T P;have hid:=hP.id _ _ K;have old1:∀c,H c≠none->Ab H' l (Ob.lp (CF r)) c=H c:=λc j=>by rw[Ag _ _ (A j)];exact j3 c j
  have s1:=Z.KK old1;refine⟨j2,j2,b,rfl,S.ob,s1.st,rfl,?_⟩;refine Gy (x:=S.po) s1.po hP (λh0=>qG (h0.symm.trans K) (by simp)) λp hn'=>?_;have:p=n:=by rw[K]at hn';cases hn';rfl
  subst this;obtain⟨kl,kh⟩:=F.kids _ _ W;simp only at kl kh;rw[<-T]at kl;rw[<-P]at kh;refine NR s1 hP kl (NR s1 hP kh ?_);have M:(⟨p.Lo,p.Hi⟩:K2)=k:=by rw[T,P]
  have yes:((B.sp (Ax S.po) y p.Lo).1≠(B.sp (Ax S.po) y p.Lo).2∨(B.sp (Ax S.po) y p.Hi).1≠(B.sp (Ax S.po) y p.Hi).2)->∃z:List AA,Ab H' l (Ob.lp (CF r)) O=some (Ob.st AO z)/\(z.length+1)*72<=140737488355328/\Ab (Ab H' l (Ob.lp (CF r))) O (Ob.st AO (z++[⟨p,(B.sp (Ax S.po) y p.Lo).1,(B.sp (Ax S.po) y p.Lo).2,(B.sp (Ax S.po) y p.Hi).1,(B.sp (Ax S.po) y p.Hi).2⟩])) l=some (Ob.lp (CF r))/\
    Q' (true,()) (Ab (Ab (Ab H' l (Ob.lp (CF r))) O (Ob.st AO (z++[⟨p,(B.sp (Ax S.po) y p.Lo).1,(B.sp (Ax S.po) y p.Lo).2,(B.sp (Ax S.po) y p.Hi).1,(B.sp (Ax S.po) y p.Hi).2⟩]))) l (Ob.lp r)):=λw=>by
   refine⟨L,by rw[Ag _ _ (Ne.symm u)];exact j1,by omega,by rw[Ag _ _ u,Ai],hQ _ ⟨L++[⟨p,(B.sp (Ax S.po) y p.Lo).1,(B.sp (Ax S.po) y p.Lo).2,(B.sp (Ax S.po) y p.Hi).1,(B.sp (Ax S.po) y p.Hi).2⟩],by rw[Ag _ _ (Ne.symm u),Ai];rfl,Ai _ _ _,λc j=>by rw[Ag _ _ (A j),Ag _ _ (I j),Ag _ _ (A j)];exact j3 c j,by simp;omega,?_,λt o=>?_,λi2 R D E g G=>?_⟩⟩
   .rw[am,au]
    refine⟨Y,by simp,λa ha c j=>?_⟩
    obtain⟨t,o,rfl⟩:=b8.1 ha
    simp only[bn,cd,a4]at j
    intro e
    rw[j]at e
    have:=(C t o).2
    rw[e]at this
    exact hkd (by rw[<-M];exact this)
   .rcases an.1 o with o|o
    .exact⟨(C t o).1,ag _ (C t o).2⟩
    .rw[a4]at o
     subst o
     refine⟨⟨by rw[hid];exact K,hv,rfl,rfl,w⟩,bj _ ?_⟩
     rw[a4];exact M
   .rcases an.1 g with g|g
    .obtain⟨t,o,e⟩:=j7 i2 R D E g G
     exact⟨t,ag _ o,e⟩
    .rw[a4]at g
     have e1:R.Lo=k.a0:=congrArg Aj.a0 g
     have e2:R.Hi=k.a1:=congrArg Aj.a1 g
     have V:=Hf D
     rw[E,e1,e2]at V
     have:i2=i:=F.BS.Xg V W
     subst this
     rw[K]at D;cases D
     exact⟨_,bj _ (a4.2 rfl),rfl⟩
  refine⟨λw=>yes (.inl w),λhe1=>⟨λw=>yes (.inr w),λhe2=>⟨Ai _ _ _,hQ _ ⟨L,?_,Ai _ _ _,λc j=>?_,by simp;omega,Y,λt o=>⟨(C t o).1,ag _ (C t o).2⟩,λi2 R D E g G=>?_⟩⟩⟩⟩
  .rw[Ag _ _ (Ne.symm u),Ag _ _ (Ne.symm u)];exact j1
  .rw[Ag _ _ (A j),Ag _ _ (A j)];exact j3 c j
  .rcases an.1 g with g|g
   .exact j7 i2 R D E g G
   .exfalso;rw[a4]at g;have e1:R.Lo=k.a0:=congrArg Aj.a0 g;have e2:R.Hi=k.a1:=congrArg Aj.a1 g;have V:=Hf D;rw[E,e1,e2]at V;have:i2=i:=F.BS.Xg V W;subst this;rw[K]at D;cases D;rcases G with h4|h4
    .exact(F.BS.Xq.1 h4) (ay.1 he1)
    .exact(F.BS.Xq.1 h4) (ay.1 he2)
 .rw[Ag _ _ (Ne.symm u)];exact j1
 .have f:∀c,H c≠none->C0 (Ab H' l (Ob.lp r')) O c=H c:=λc j=>by unfold C0;rw[GT (I j),Ag _ _ (A j)];exact j3 c j
  refine h L _ (Z.KK f) (λc j _ _ _ _=>f c j) ?_ ?_ (λt o=>(C t o).1) λi n K hv hy=>?_
  .rw[c6,ba]at Y ⊢;refine Y.imp_of_mem λ{s t}hs o w e=>w ?_;have U:=(C s hs).1.nd;have D:=(C t o).1.nd;rw[e,D]at U;unfold kyT;rw[ap U]
  .have U:(L.map kyT).length<=(S.ta x.toNat).ids.length:=by
    have:=GO (m:=(S.ta x.toNat).ids.map (·.1)) Y λk hk=>by obtain⟨t,o,rfl⟩:=b8.1 hk;have:=Hf (C t o).1.nd;rw[(C t o).1.v]at this;exact ac (f:=cf) (II ((hg _ _ _).2 this))
    simpa using this
   rw[ae]at U;have:=F.Azi q;omega
  .have U:=Hf K;rw[hv]at U;exact j7 i n K hv (hall _ _ ((hg _ _ _).2 U)) hy
end
end Go.Proofs.YtcbkbpjlbmalmaaGreatDoor
namespace Go.B
section
theorem Adj{f:Int->Int}:∀{m:Nat},0<sm m f->∃k:Int,0<=k/\k<m/\0<f k
 |0,h=>by grind[sm]
 |m+1,h=>by
  by_cases d:0<f m
  .grind
  .have e:sm (m+1) f=sm m f+f m:=rfl;obtain⟨k,a,b,c⟩:=Adj (f:=f) (m:=m) (by omega);grind
theorem Avn{N:Tb}{c:Int->Int}{i p:Int}(h:0<pt N c i p):∃d,N p=some d/\0<c p/\(i=d.lo/2∨i=d.hi/2):=by grind[pt,mu,dl]
section
variable {n:Int} {lv:Int->Int} {N:Tb} {m:Nat} {c r:Int->Int}
variable {i:Int} {d:Nd}
theorem Cn.why(h:Cn N m c r)(g:N i=some d)(l:0<c i):0<r i∨∃p dp,N p=some dp/\0<c p/\(i=dp.lo/2∨i=dp.hi/2):=by
 have n:=h.eq g;by_cases k:0<r i
 .omega
 .obtain⟨p,_,_,j⟩:=Adj (f:=pt N c i) (m:=m) (by omega);grind[Avn]
theorem Good.par(g:Good n lv N){p:Int}{dp:Nd}(a:N i=some d)(b:N p=some dp)(h:i=dp.lo/2∨i=dp.hi/2):lv dp.v<lv d.v:=by
 have c:=(g.var a).1;rcases h with e|e
 .have:=(g.lo b).2;rwa [Bj (by omega) (by rw[<-e];exact a)]at this
 .have:=(g.hi b).2;rwa [Bj (by omega) (by rw[<-e];exact a)]at this
theorem Good.node2(g:Good n lv N)(a:N i=some d):2*i/2=i/\Ok N (2*i)/\el n lv N (2*i)=lv d.v:=by
 have c:=(g.var a).1;have b:2*i/2=i:=by omega
 exact⟨b,⟨by omega,.inr ⟨d,by grind⟩⟩,Bj (by omega) (by grind)⟩
theorem Cn.Ax1(g:Good n lv N)(L:0<=n)(h:Cn N m c r)(S:∀i d,N i=some d->0<c i){R:List Fn}(V:∀i d,N i=some d->0<r i->∃f∈R,∃s:Bool,∀a,den N (2*i) a=(s ^^ f a)):QL n lv N R:=by
 have x:∀(k:Nat)i d,N i=some d->lv d.v<k->∃f∈R,S6 lv (lv d.v) f (den N (2*i)):=by
  intro k;induction k with
  |zero=>intro i d j Q;have:=g.var j;have:=g.od.Mp _ this.2.1 this.2.2;omega
  |succ k O=>
   intro i d j Q;obtain⟨W,z,F⟩:=g.node2 j;have A:=g.dep z (k:=lv d.v) (by omega);rcases h.why j (S i d j) with K|⟨p,o,l,_,D⟩
   .obtain⟨f,B,s,G⟩:=V i d j K;refine⟨f,B,s,λ_=>false,λa=>?_⟩;rw[<-G];exact A _ _ λv _ _ W=>(GT (by omega)).symm
   .have w:=g.par j l D;obtain⟨f,B,t⟩:=O p o l (by omega);obtain⟨P,I,J⟩:=g.node2 l;have E:=(g.var l).1;refine⟨f,B,?_⟩;have q:∀(b:Bool)(e:Int),e=(if b=true then o.hi else o.lo)->i=e/2->Ok N e->S6 lv (lv d.v) f (den N (2*i)):=λb e U H u=>by
     have T:S6 lv (lv d.v) f (den N e):=t.set (v:=o.v) (c:=b) w (Int.le_refl _) (λa=>by rw[g.cof L (e:=2*p) (by omega) (by grind) b a,<-U];simp) (g.dep u (by rw[Bj (by have:=(g.var j).1;omega) (by rw[<-H];exact j)];omega))
     have y:den N (2*i)=λa=>(decide (e%2=1)) ^^ den N e a:=by
      have M:2*i=fl e e:=by grind[fl,flip]
      funext a;rw[M,J4 u]
     rw[y];exact T.sign _
    rcases D with e|e
    .exact q false o.lo rfl e (g.lo l).1
    .exact q true o.hi rfl e (g.hi l).1
 intro i d j;have C:=g.var j;have:=g.od.Mp _ C.2.1 C.2.2;exact .inr (x (lv d.v+1).toNat i d j (by omega))
theorem Cn.Arj(g:Good n lv N)(h:Cn N m c r)(v:∀i d,N i=some d->0<c i){M:Tb}{m':Nat}{c' r':Int->Int}(s:Cn M m' c' r')(u:∀i,0<=r i)(f:∀i,r i<=r' i){a:Int}(hs:∀i d,N i=some d->lv d.v<a->M i=some d):∀(k:Nat)i d d',N i=some d->lv d.v<=a->lv d.v<k->M i=some d'->0<c' i:=by
 intro k;induction k with
 |zero=>intro i d _ b _ t;have:=g.var b;have:=g.od.Mp _ this.2.1 this.2.2;omega
 |succ k x=>
  intro i d d' b z t e;rcases h.why b (v i d b) with w|⟨p,o,l,_,q⟩
  .have:=s.ge e;grind
  .have y:=g.par b l q;have j:=hs p o l (by omega);exact s.kid (λ{i _}_=>br (u i) (f i)) j (x p o o l (by omega) (by omega) j) e q
theorem Cn.set(h:Cn N m c r){p:Int}{d':Nd}(n:N p=some d)(s:0<c p):Cn (λj=>if j=p then some d' else N j) m c (λi=>r i+mu d i-mu d' i)/\sm m (zr (λj=>if j=p then some d' else N j) c)=sm m (zr N c):=by
 have b:=h.Mg n;have o:∀{i e},(if i=p then some d' else N i)=some e->∃u,N i=some u:=λ{i e}a=>by grind
 have q:∀i,sm m (pt (λj=>if j=p then some d' else N j) c i)=sm m (pt N c i)+(mu d' i-mu d i):=λi=>by rw[SN (f:=pt (λj=>if j=p then some d' else N j) c i) (g:=pt N c i) (ce b.1) b.2 λk t=>by grind[pt]];simp_all[pt]
 refine⟨⟨λa=>?_,λa=>?_,λ{i e}a=>?_⟩,EN λk _ _=>?_⟩
 .obtain⟨_,l⟩:=o a;exact h.Mg l
 .obtain⟨_,l⟩:=o a;exact h.nn l
 .obtain⟨_,l⟩:=o a;rw[q,h.eq l];omega
 grind[zr]
end
def Tn(N:Tb)(x y i:Int)(d:Nd):Prop:=N i=some d/\d.v=x/\(ME N y d.lo∨ME N y d.hi)
structure Wg(n:Int)(lv:Int->Int)(N:Tb)(x y:Int)(D:Int->Prop)(M:Tb):Prop where
 stay:∀{i d},N i=some d->¬(Tn N x y i d/\D i)->M i=some d
 SJ:∀{i d},Tn N x y i d->D i->∃lo hi,M i=some ⟨y,lo,hi⟩/\QM M x (sp N y d.lo).1 (sp N y d.hi).1 lo/\QM M x (sp N y d.lo).2 (sp N y d.hi).2 hi
 new:∀{i d},N i=none->M i=some d->0<i/\d.v=x/\Ok N d.lo/\Ok N d.hi/\lv y<el n lv N d.lo/\lv y<el n lv N d.hi/\d.lo≠d.hi/\d.hi%2=0
 Xg:∀{i j d},d.v=x->M i=some d->M j=some d->i=j
section
variable {n:Int} {lv:Int->Int} {N:Tb} {x y:Int} {D:Int->Prop} {M:Tb}
theorem Wg.swp(h:Wg n lv N x y D M)(e:∀{i d},Tn N x y i d->D i):Swp n lv N x y M where
 stay a f:=h.stay a λ⟨k,_⟩=>f k.2
 SJ a b c:=h.SJ ⟨a,b,c⟩ (e ⟨a,b,c⟩)
 new:=h.new
 Xg:=h.Xg
theorem Wg.start(g:Good n lv N):Wg n lv N x y (λ_=>False) N where
 stay a _:=a
 SJ _ h:=h.elim
 new h k:=by grind
 Xg _ h k:=g.Xg h k
variable {i:Int} {d:Nd}
theorem Wg.Mg(h:Wg n lv N x y D M)(b:N i=some d):∃d',M i=some d'/\(d'=d∨(d.v=x/\d'.v=y)):=by
 by_cases a:Tn N x y i d/\D i
 .obtain⟨f,e,c,_⟩:=h.SJ a.1 a.2;exact⟨_,c,.inr ⟨a.1.2.1,rfl⟩⟩
 .exact⟨d,h.stay b a,.inl rfl⟩
variable {e:Int}
theorem Wg.ok(h:Wg n lv N x y D M)(a:Ok N e):Ok M e:=⟨a.1,a.2.imp id λ⟨_,d⟩=>by obtain⟨c,b,_⟩:=h.Mg d;grind⟩
theorem Wg.Ams(g:Good n lv N)(o:lv y=lv x+1)(h:Wg n lv N x y D M)(m:Ok N e)(b:lv y<el n lv N e)(i:M (e/2)=some d):d.v≠x:=by
 by_cases f:e/2=0
 .rw[f]at i;cases j:N 0 with
  |some l=>have:=(g.var j).1;omega
  |none=>exact qG (h.new j i).1 (by omega)
 .obtain⟨l,a⟩:=m.2.resolve_left f;rw[Bj f a]at b;obtain⟨p,k,c⟩:=h.Mg a;grind
theorem Good.four(g:Good n lv N)(o:0<=n)(h:0<=y/\y<n)(p:lv y=lv x+1)(c:N i=some d)(e:d.v=x):(∀k,k=d.lo∨k=d.hi->Ok N (sp N y k).1/\Ok N (sp N y k).2/\lv y<el n lv N (sp N y k).1/\lv y<el n lv N (sp N y k).2/\∀a,den N k a=if a y=true then den N (sp N y k).2 a else den N (sp N y k).1 a):=by
 intro k f;obtain⟨r,v⟩:=g.lo c;obtain⟨j,l⟩:=g.hi c;rw[e]at v l;have b:Ok N k/\lv y<=el n lv N k:=by grind
 obtain⟨s,m,t,u,q,_⟩:=g.I8 o h b.1 b.2;grind
theorem Good.Adg(g:Good n lv N)(i:0<=n){f:Int}(d:Ok N e)(h:Ok N f)(c:∀a,den N e a=if a y=true then den N (sp N y e).2 a else den N (sp N y e).1 a)(k:∀a,den N f a=if a y=true then den N (sp N y f).2 a else den N (sp N y f).1 a)(b:(sp N y e).1=(sp N y f).1)(j:(sp N y e).2=(sp N y f).2):e=f:=
 g.eq i d h (by funext a;rw[c,k,b,j])
theorem Wg.A2r(g:Good n lv N)(r:0<=n)(hx:0<=x/\x<n)(z:0<=y/\y<n)(c:lv y=lv x+1)(h:Wg n lv N x y D M)(hi:Tn N x y i d)(P:¬D i){lo hh:Int}(G:QM M x (sp N y d.lo).1 (sp N y d.hi).1 lo)(I:QM M x (sp N y d.lo).2 (sp N y d.hi).2 hh)(j:Int):M j≠some ⟨y,lo,hh⟩:=by
 intro B;have A:x≠y:=λe=>by grind
 obtain⟨p,w,hc⟩:=hi;have s:=g.four r z c p w _ (.inl rfl);have K:=g.four r z c p w _ (.inr rfl);cases v:N j with
 |none=>exact A (h.new v B).2.1.symm
 |some t=>
  by_cases k:Tn N x y j t/\D j
  .obtain⟨C,E,q,S,Y⟩:=h.SJ k.1 k.2;rw[B]at q;injection q with q
   obtain⟨rfl,rfl⟩:lo=C/\hh=E:=⟨congrArg Nd.lo q,congrArg Nd.hi q⟩
   obtain⟨f,l,_⟩:=k.1;have u:=g.four r z c f l _ (.inl rfl);have W:=g.four r z c f l _ (.inr rfl);obtain⟨V,Z⟩:=G.inj S (λ_=>h.Ams g c s.1 s.2.2.1) (λ_=>h.Ams g c u.1 u.2.2.1);obtain⟨Q,R⟩:=I.inj Y (λ_=>h.Ams g c s.2.1 s.2.2.2.1) (λ_=>h.Ams g c u.2.1 u.2.2.2.1);have H:d.lo=t.lo:=g.Adg r (g.lo p).1 (g.lo f).1 s.2.2.2.2 u.2.2.2.2 V Q;have J:d.hi=t.hi:=g.Adg r (g.hi p).1 (g.hi f).1 K.2.2.2.2 W.2.2.2.2 Z R;have e7:d=t:=by cases d;cases t;simp only at H J w l;subst w;subst H;subst J;rw[l]
   rw[<-e7]at f;exact P (by rw[g.Xg p f];grind)
  .have q:=h.stay v k;rw[B]at q;injection q with q
   have m:=g.lo v;have o:=g.hi v;rw[<-q]at m o;simp only at m o;have L:∀{a b e:Int},Ok N e->lv y<el n lv N e->QM M x a b e->a=b/\e=a:=λ{a b e}T U F=>by
    rcases F with F|⟨_,_,_,_,h5⟩
    .exact F
    .exact qG rfl (h.Ams g c T U h5)
   have X:=L m.1 m.2 G;have O:=L o.1 o.2 I;exact g.ne p (g.Adg r (g.lo p).1 (g.hi p).1 s.2.2.2.2 K.2.2.2.2 X.1 O.1)
noncomputable def Kq(lv:Int->Int)(N:Tb)(x y i:Int):Int:=open Classical in match N i with
 |some d=>if d.v=x then (if ME N y d.lo∨ME N y d.hi then 3*lv x else 3*lv x+2) else if d.v=y then 3*lv x+1 else 3*lv d.v
 |none=>3*lv x+2
theorem Wg.dag(g:Good n lv N)(hn:0<=n)(R:0<=x/\x<n)(G:0<=y/\y<n)(w:lv y=lv x+1)(h:Wg n lv N x y D M):Dag M (Kq lv N x y) (3*n):=by
 have Z:x≠y:=λe=>by rw[e]at w;omega
 have rx:=g.od.Mp x R.1 R.2;have ry:=g.od.Mp y G.1 G.2;have rN:∀{i d},N i=some d->0<=lv d.v/\lv d.v<n:=λc=>g.od.Mp _ (g.var c).2.1 (g.var c).2.2;have I:∀{i d},N i=some d->d.v≠x->d.v≠y->lv d.v<lv x∨lv y<lv d.v:=λ{i d}c a b=>by have B:=(g.var c).2;have E:lv d.v≠lv x:=λe=>a (g.od.inj _ _ B.1 B.2 R.1 R.2 e);have X:lv d.v≠lv y:=λe=>b (g.od.inj _ _ B.1 B.2 G.1 G.2 e);omega
 have A:∀{e},Ok N e->lv y<el n lv N e->e/2≠0->3*lv x+6<=Kq lv N x y (e/2):=λ{e}S m l=>by obtain⟨d,c⟩:=S.2.resolve_left l;rw[Bj l c]at m;unfold Kq;rw[c];simp only;rw[GT (λe=>by rw[e]at m;omega),GT (λe=>by rw[e]at m;omega)];omega
 have K:∀i,(∃d,M i=some d)->0<=Kq lv N x y i/\Kq lv N x y i<3*n:=λi⟨d,q⟩=>by
  unfold Kq;cases c:N i with
  |none=>simp only;omega
  |some d=>have:=rN c;simp only;split<;>(try split)<;>(try split)<;>omega
 have v:∀{i d e},N i=some d->¬(Tn N x y i d/\D i)->Ok N e->lv d.v<el n lv N e->(ME N y e->ME N y d.lo∨ME N y d.hi)->e/2≠0->Kq lv N x y i<Kq lv N x y (e/2):=λ{i d e}c hs S m hy0 l=>by
  obtain⟨f,s⟩:=S.2.resolve_left l;rw[Bj l s]at m;have r1:=rN c;unfold Kq;rw[c,s];simp only;have V:d.v≠x->d.v≠y->_:=I c;have P:f.v≠x->f.v≠y->_:=I s;by_cases W:d.v=x
  .rw[W]at m;have t:f.v≠x:=λe=>by rw[e]at m;omega
   rw[UV W,GT t];by_cases r:f.v=y
   .rw[UV r,UV (hy0 ⟨f,s,r⟩)];omega
   .rw[GT r];have:=P t r;split<;>omega
  .rw[GT W];by_cases U:d.v=y
   .rw[U]at m;have t:f.v≠x:=λe=>by rw[e]at m;omega
    have r:f.v≠y:=λe=>by rw[e]at m;omega
    rw[UV U,GT t,GT r];have:=P t r;omega
   .have:=V W U;rw[GT U];by_cases t:f.v=x
    .rw[t]at m;rw[UV t];split<;>omega
    .rw[GT t];by_cases r:f.v=y
     .rw[r]at m;rw[UV r];omega
     .rw[GT r];omega
 have L:∀{j d},M j=some d->d.v=x->Ok N d.lo->lv y<el n lv N d.lo->Ok N d.hi->lv y<el n lv N d.hi->Kq lv N x y j=3*lv x+2:=λ{j d}hj B C J F H=>by
  unfold Kq;cases c:N j with
  |none=>rfl
  |some d0=>
   simp only;by_cases p:Tn N x y j d0/\D j
   .obtain⟨_,_,k,_⟩:=h.SJ p.1 p.2;rw[hj]at k;cases k;exact qG B.symm Z
   .have:=h.stay c p;rw[hj]at this;cases this;have no:∀e,Ok N e->lv y<el n lv N e->¬ME N y e:=λe S m⟨dy,z,hy2⟩=>by
     by_cases l:e/2=0
     .rw[l,g.zero]at z;cases z
     .rw[Bj l z,hy2]at m;omega
    rw[UV B,GT (λo=>o.elim (no _ C J) (no _ F H))]
 have O:∀{a b e i},Ok N a->Ok N b->lv y<el n lv N a->lv y<el n lv N b->QM M x a b e->Kq lv N x y i=3*lv x->Ok M e/\(e/2≠0->Kq lv N x y i<Kq lv N x y (e/2)):=λ{a b e i}Y hb la lb hB q=>by
  rcases hB with ⟨C,rfl⟩|⟨C,J,F,H,E⟩
  .exact⟨h.ok Y,λl=>by have:=A Y la l;omega⟩
  .refine⟨⟨J,.inr ⟨_,E⟩⟩,λ_=>?_⟩;rw[q,L E rfl Y.fl (by rw[K8];exact la) hb.fl (by rw[K8];exact lb)];omega
 have u:∀{i f},M i=some f->(Ok M f.lo/\(f.lo/2≠0->Kq lv N x y i<Kq lv N x y (f.lo/2)))/\(Ok M f.hi/\(f.hi/2≠0->Kq lv N x y i<Kq lv N x y (f.hi/2))):=λ{i f}q=>by
  cases c:N i with
  |none=>
   obtain⟨C,J,F,H,E,X,_⟩:=h.new c q;have e:=L q J F E H X;exact⟨⟨h.ok F,λl=>by have:=A F E l;omega⟩,h.ok H,λl=>by have:=A H X l;omega⟩
  |some d=>
   by_cases p:Tn N x y i d/\D i
   .obtain⟨lo,hh,C,k1,k2⟩:=h.SJ p.1 p.2;rw[q]at C;cases C;have ri:Kq lv N x y i=3*lv x:=by unfold Kq;rw[c];simp only;rw[UV p.1.2.1,UV p.1.2.2]
    have Q:=g.four hn G w c p.1.2.1 _ (.inl rfl);have T:=g.four hn G w c p.1.2.1 _ (.inr rfl);exact⟨O Q.1 T.1 Q.2.2.1 T.2.2.1 k1 ri,O Q.2.1 T.2.1 Q.2.2.2.1 T.2.2.2.1 k2 ri⟩
   .have:=h.stay c p;rw[q]at this;cases this;obtain⟨V,P⟩:=g.lo c;obtain⟨u1,u2⟩:=g.hi c;exact⟨⟨h.ok V,v c p V P .inl⟩,h.ok u1,v c p u1 u2 .inr⟩
 exact⟨λq=>K _ ⟨_,q⟩,λq=>(u q).1,λq=>(u q).2⟩
theorem QM.ext{M':Tb}(i:∀j d,M j=some d->M' j=some d){a b:Int}(h:QM M x a b e):QM M' x a b e:=by
 rcases h with h|⟨l,k,f,g,c⟩
 .exact .inl h
 .exact .inr ⟨l,k,f,g,i _ _ c⟩
theorem noY(g:Good n lv N)(c:lv y<el n lv N e):¬ME N y e:=λ⟨f,a,d⟩=>by
 by_cases b:e/2=0
 .rw[b,g.zero]at a;cases a
 .rw[Bj b a,d]at c;omega
theorem Wg.add(_:Good n lv N)(h:Wg n lv N x y D M){a b:Int}(q:0<i)(A:M i=none)(E:Ok N a)(I:Ok N b)(H:lv y<el n lv N a)(J:lv y<el n lv N b)(r:a≠b)(o:b%2=0)(p:∀j,M j≠some ⟨x,a,b⟩):Wg n lv N x y D (Je M i ⟨x,a,b⟩):=by
 have c:=Sp (d:=⟨x,a,b⟩) A;refine⟨λm B=>c _ _ (h.stay m B),λF u=>?_,λ{j d}v m=>?_,λ{j k d}C l f=>?_⟩
 .obtain⟨s,t,l,f,w⟩:=h.SJ F u;exact⟨s,t,c _ _ l,f.ext c,w.ext c⟩
 .unfold Je at m;split at m
  .rename_i e;cases m;subst e;exact⟨q,rfl,E,I,H,J,r,o⟩
  .exact h.new v m
 .unfold Je at l f;split at l
  .rename_i G;cases l;split at f
   .rename_i z;rw[G,z]
   .exact qG f (p _)
  .split at f
   .cases f;exact qG l (p _)
   .exact h.Xg C l f
theorem Wg.set(g:Good n lv N)(K:0<=n)(_:0<=x/\x<n)(J:0<=y/\y<n)(l:lv y=lv x+1)(h:Wg n lv N x y D M)(hi:Tn N x y i d)(Q:¬D i){lo hh:Int}(O:QM M x (sp N y d.lo).1 (sp N y d.hi).1 lo)(W:QM M x (sp N y d.lo).2 (sp N y d.hi).2 hh):Wg n lv N x y (λj=>D j∨j=i) (λj=>if j=i then some ⟨y,lo,hh⟩ else M j):=by
 have v:x≠y:=λe=>by rw[e]at l;omega
 have w:=h.stay hi.1 (λk=>Q k.2);have c:∀{a b e:Int},lv y<el n lv N a->lv y<el n lv N b->QM M x a b e->QM (λj=>if j=i then some ⟨y,lo,hh⟩ else M j) x a b e:=λ{a b e}V Y B=>by
  rcases B with B|⟨t,s,z,U,r⟩
  .exact .inl B
  .refine .inr ⟨t,s,z,U,?_⟩;show (if e/2=i then _ else M (e/2))=_;rw[GT λP=>?_]
   .exact r
   .rw[P,w]at r;injection r with r
    have S:d.lo=fl a b:=congrArg Nd.lo r;have T:d.hi=fl b b:=congrArg Nd.hi r;rcases hi.2.2 with k|k
    .rw[S]at k;exact noY g (by rw[K8];exact V) k
    .rw[T]at k;exact noY g (by rw[K8];exact Y) k
 refine⟨λ{j o}f L=>?_,λ{j o}p G=>?_,λ{j o}A f=>?_,λ{j k o}H t s=>?_⟩
 .have m:j≠i:=λe=>L (by subst e;rw[hi.1]at f;cases f;exact⟨hi,.inr rfl⟩);show (if j=i then _ else M j)=_;rw[GT m];exact h.stay f λ⟨R,X⟩=>L ⟨R,.inl X⟩
 .have fl:=g.four K J l p.1 p.2.1 _ (.inl rfl);have u:=g.four K J l p.1 p.2.1 _ (.inr rfl);by_cases m:j=i
  .subst m;have e:=p.1.symm.trans hi.1;injection e with e
   subst e;exact⟨lo,hh,UV rfl,c fl.2.2.1 u.2.2.1 O,c fl.2.2.2.1 u.2.2.2.1 W⟩
  .obtain⟨E,F,t,s,z⟩:=h.SJ p (G.resolve_right m);refine⟨E,F,?_,c fl.2.2.1 u.2.2.1 s,c fl.2.2.2.1 u.2.2.2.1 z⟩;show (if j=i then _ else M j)=_;rw[GT m];exact t
 .have m:j≠i:=λe=>by subst e;rw[hi.1]at A;cases A
  have f:(if j=i then _ else M j)=some o:=f;rw[GT m]at f;exact h.new A f
 .have I:∀{q},(if q=i then some ⟨y,lo,hh⟩ else M q)=some o->M q=some o:=λ{q}C=>by
   split at C
   .cases C;exact qG H (Ne.symm v)
   .exact C
  exact h.Xg H (I t) (I s)
end
end
end Go.B
namespace Go.Proofs.YtcbkbpjlbmalmaaGreatDoor
open Go Go.X Go.Y
section
section
variable {κ β:Type} [DecidableEq κ]
theorem Lg{k:κ}{v:β}:∀{m:List (κ×β)},Ad m k=none->(BR m k v).length=m.length+1
 | [],_=>rfl
 |p::m,h=>by have h:(if p.1=k then some p.2 else Ad m k)=none:=h;split at h;all_goals simp_all[BR,bc,Lg]
theorem Vl{k:κ}{v:β}:∀{m:List (κ×β)}{p:κ×β},p∈BR m k v->p∈m∨p.2=v
 | [],p,h=>by have h:p∈[(k,v)]:=h;rw[a4]at h;right;rw[h]
 |q::m,p,h=>by
  unfold BR at h;split at h
  .grind
  .rcases ax.1 h with rfl|h
   .simp
   .exact(Vl h).imp (aa _) id
end
def QN(p:Int×Int):K2:=⟨B.fl p.1 p.2,B.fl p.2 p.2⟩
def XG(t:AA):List (Int×Int):=[(t.ll,t.hl),(t.lh,t.hh)]
variable {H:HY} {X:PX} {b:Nat} {S:B9} {x:Int}
theorem U4{m:List (K2×Bool)}{p:Int×Int}{N1 N2:HP}(u:Ca H b S)(n:x.toNat<S.tb.length)(h:x.toNat<S.ob.tables.length)(l:0<=p.2)(o:∀q∈m,q.2=true)(d:(p.1≠p.2->Ad (S.ta x.toNat).ids (QN p)=none->QN p∈m.map (·.1))->N1 H)(s:Ad m (QN p)=none->N2 H):qK DA CS (S.ob.tables[x.toNat]'h,Az p.1 (AW p.2),Az p.2 (AW p.2),()) H (λb _ H'=>(Az p.1 (AW p.2)=Az p.2 (AW p.2)->N1 H')/\(¬Az p.1 (AW p.2)=Az p.2 (AW p.2)->(b.2.1=true->N1 H')/\(¬b.2.1=true->((Ad m (⟨Az p.1 (AW p.2),Az p.2 (AW p.2)⟩:K2)).getD false=true->N1 H')/\(¬(Ad m (⟨Az p.1 (AW p.2),Az p.2 (AW p.2)⟩:K2)).getD false=true->N2 H')))) X:=by
 have g:S.ob.tables[x.toNat]'h=some S.tb[x.toNat]:=by simp [B9.ob]
 have k:∀e:Int,Az e (AW p.2)=B.fl e p.2:=λe=>JH l;rw[g,k,k];have t:(⟨B.fl p.1 p.2,B.fl p.2 p.2⟩:K2)=QN p:=rfl;rw[t];refine NO (u.ta x.toNat n) (λj=>⟨λe=>d λa=>qG (B.QF e) a,λ_=>⟨λh=>(by cases h),λ_=>⟨λc=>d λ_ _=>?_,λc=>s ?_⟩⟩⟩) λi r=>⟨λe=>d λa=>qG (B.QF e) a,λ_=>⟨λ_=>d λ_ j=>?_,λh=>qG rfl h⟩⟩
 .cases e:Ad m (QN p) with
  |none=>grind
  |some v=>simp_all[II]
 .cases e:Ad m (QN p) with
  |none=>rfl
  |some v=>
   have:=o _ (II e);grind
 grind
theorem UG{l:List AA}{Q:Int×Unit->UU}(hS:Ca H b S)(hx:0<=x/\x<S.n)(hl:∀t∈l,∀p∈XG t,0<=p.2)(hlen:l.length<=2000000)(h:∀K:List K2,K.Nodup->K.length<=2*l.length->(∀t∈l,∀p∈XG t,p.1≠p.2->Ad (S.ta x.toNat).ids (QN p)=none->QN p∈K)->Q (K.length,()) () H):qK K6 Hm (some b,x,l,()) H Q X:=by
 refine wF Tryz.f209 {lp:=[(7,⟨[(7,.map (.u 17) .bool),(8,.nat),(36,.one (.own (.u 17))),(38,.nat)],[0,1,20,21,22,36,37],true⟩),(4,⟨[(7,.map (.u 17) .bool),(8,.nat),(22,.nat)],[0,1,20,21],true⟩)]} (?_:l.length<=2^63-1->∃(V:Nat->List (Aj×Bool)×Nat×Nat×UT->HP),(∃(n:Nat),V n ([],0,0,()) H)/\∀n x1 H,V n x1 H->(x1.2.2.1<l.length->x1.2.2.1<=2^63-1->∃(h:x1.2.2.1<l.length),[{a0:=l[x1.2.2.1].ll,a1:=l[x1.2.2.1].hl:Aj},{a0:=l[x1.2.2.1].lh,a1:=l[x1.2.2.1].hh:Aj}].length<=2^63-1->∃(V1:Nat->List (Aj×Bool)×Nat×List Aj×Nat×UT->HP),(∃(n:Nat),V1 n (x1.1,x1.2.1,[{a0:=l[x1.2.2.1].ll,a1:=l[x1.2.2.1].hl:Aj},{a0:=l[x1.2.2.1].lh,a1:=l[x1.2.2.1].hh:Aj}],0,()) H)/\∀n1 x2 H,V1 n1 x2 H->(x2.2.2.2.1<[{a0:=l[x1.2.2.1].ll,a1:=l[x1.2.2.1].hl:Aj},{a0:=l[x1.2.2.1].lh,a1:=l[x1.2.2.1].hh:Aj}].length->x2.2.2.2.1<=2^63-1->∃(h:x2.2.2.2.1<x2.2.2.1.length),∃(h:x2.2.2.2.1<x2.2.2.1.length),∃(a:Nat),(some b)=some a/\∃(x3:Ah),H a=some (Ob.st A8 x3)/\(IK x->(IK x->0<=x)/\∃(h1:x.toNat<x3.tables.length),∃(h2:x.toNat<x3.tables.length),x3=x3/\qK DA CS (x3.tables[x.toNat],Az x2.2.2.1[x2.2.2.2.1].a0 (AW x2.2.2.1[x2.2.2.2.1].a1),Az x2.2.2.1[x2.2.2.2.1].a1 (AW x2.2.2.1[x2.2.2.2.1].a1),()) H (λ(a:Int×Bool×UT)_ G=>(Az x2.2.2.1[x2.2.2.2.1].a0 (AW x2.2.2.1[x2.2.2.2.1].a1)=Az x2.2.2.1[x2.2.2.2.1].a1 (AW x2.2.2.1[x2.2.2.2.1].a1)->x2.2.2.2.1+1<=2^63-1/\∃m,m<n1/\V1 m (x2.1,x2.2.1,x2.2.2.1,x2.2.2.2.1+1,()) G)/\(¬Az x2.2.2.1[x2.2.2.2.1].a0 (AW x2.2.2.1[x2.2.2.2.1].a1)=Az x2.2.2.1[x2.2.2.2.1].a1 (AW x2.2.2.1[x2.2.2.2.1].a1)->(a.2.1->x2.2.2.2.1+1<=2^63-1/\∃m,m<n1/\V1 m (x2.1,x2.2.1,x2.2.2.1,x2.2.2.2.1+1,()) G)/\(¬a.2.1->((Ad x2.1 {a0:=Az x2.2.2.1[x2.2.2.2.1].a0 (AW x2.2.2.1[x2.2.2.2.1].a1),a1:=Az x2.2.2.1[x2.2.2.2.1].a1 (AW x2.2.2.1[x2.2.2.2.1].a1):Aj}).getD false->x2.2.2.2.1+1<=2^63-1/\∃m,m<n1/\V1 m (x2.1,x2.2.1,x2.2.2.1,x2.2.2.2.1+1,()) G)/\(¬(Ad x2.1 {a0:=Az x2.2.2.1[x2.2.2.2.1].a0 (AW x2.2.2.1[x2.2.2.2.1].a1),a1:=Az x2.2.2.1[x2.2.2.2.1].a1 (AW x2.2.2.1[x2.2.2.2.1].a1):Aj}).getD false->x2.2.1+1<=2^63-1/\x2.2.2.2.1+1<=2^63-1/\∃m,m<n1/\V1 m (BR x2.1 {a0:=Az x2.2.2.1[x2.2.2.2.1].a0 (AW x2.2.2.1[x2.2.2.2.1].a1),a1:=Az x2.2.2.1[x2.2.2.2.1].a1 (AW x2.2.2.1[x2.2.2.2.1].a1):Aj} true,x2.2.1+1,x2.2.2.1,x2.2.2.2.1+1,()) G)))) X))/\(¬x2.2.2.2.1<[{a0:=l[x1.2.2.1].ll,a1:=l[x1.2.2.1].hl:Aj},{a0:=l[x1.2.2.1].lh,a1:=l[x1.2.2.1].hh:Aj}].length->x1.2.2.1+1<=2^63-1/\∃m,m<n/\V m (x2.1,x2.2.1,x1.2.2.1+1,()) H))/\(¬x1.2.2.1<l.length->Q ((↑x1.2.1:Int),()) () H));have o:x.toNat<S.tb.length:=by have:=hx.2;unfold B9.n at this;omega
 have hob:∀h,S.ob.tables[x.toNat]'h=some S.tb[x.toNat]:=λh=>by simp [B9.ob]
 let W (m:List (K2×Bool)) (c:Nat):Prop:=N9 m/\c=m.length/\∀p∈m,p.2=true;let G (m:List (K2×Bool)) (p:Int×Int):Prop:=p.1≠p.2->Ad (S.ta x.toNat).ids (QN p)=none->QN p∈m.map (·.1);have v:∀{m:List (K2×Bool)}{k:K2}{p:Int×Int},G m p->G (BR m k true) p:=λO h1 h2=>(SZ _ _ _ _).2 (.inl (O h1 h2));intro _;refine⟨λn z H'=>H'=H/\n=l.length-z.2.2.1/\z.2.2.1<=l.length/\W z.1 z.2.1/\z.2.1<=2*z.2.2.1/\∀j(_:j<l.length),j<z.2.2.1->∀p∈XG l[j],G z.1 p,⟨_,rfl,rfl,ak _,⟨bk,rfl,λp d=>qG d ad⟩,Nat.le_refl _,λj _ M=>qG M (Nat.not_lt_zero j)⟩,?_⟩;rintro n ⟨m,c,k,_⟩ H' ⟨rfl,hn0,hk0,U,hc0,hG0⟩;have T:n=l.length-k:=hn0;have hk:k<=l.length:=hk0;have hW:W m c:=U;have hc:c<=2*k:=hc0;have hG:∀j(_:j<l.length),j<k->∀p∈XG l[j],G m p:=hG0;refine⟨λN _=>?_,λN=>?_⟩
 .have r:k<l.length:=N;have f:=hl l[k] (b6 r);refine⟨r,λ_=>⟨λn1 z A=>A=H'/\n1=2-z.2.2.2.1/\z.2.2.2.1<=2/\z.2.2.1=(XG l[k]).map (λp=>(⟨p.1,p.2⟩:K2))/\W z.1 z.2.1/\z.2.1<=2*k+z.2.2.2.1/\(∀j(_:j<l.length),j<k->∀p∈XG l[j],G z.1 p)/\∀p∈(XG l[k]).take z.2.2.2.1,G z.1 p,⟨2,rfl,rfl,ak _,rfl,hW,hc,hG,λp d=>qG d ad⟩,?_⟩⟩;rintro n1 ⟨s,y,ks,j,_⟩ A ⟨rfl,D,E,I,C,F,J,L⟩;have hn1:n1=2-j:=D;have hj1:j<=2:=E;have hks:ks=(XG l[k]).map (λp=>(⟨p.1,p.2⟩:K2)):=I;have a:W s y:=C;have hc1:y<=2*k+j:=F;have V:∀j(_:j<l.length),j<k->∀p∈XG l[j],G s p:=J;have hT1:∀p∈(XG l[k]).take j,G s p:=L;subst hks;have g:∀P c2,W P c2->c2<=2*k+(j+1)->(∀p,G s p->G P p)->(M:j<2)->G P ((XG l[k])[j]'M)->j+1<=9223372036854775807/\∃m',m'<n1/\(A=A/\m'=2-(j+1)/\j+1<=2/\(XG l[k]).map (λp=>(⟨p.1,p.2⟩:K2))=(XG l[k]).map (λp=>(⟨p.1,p.2⟩:K2))/\W P c2/\c2<=2*k+(j+1)/\(∀j(_:j<l.length),j<k->∀p∈XG l[j],G P p)/\∀p∈(XG l[k]).take (j+1),G P p):=λP c2 hW2 hc2 Y M O=>by
   refine⟨by show j+1<=_;omega,2-(j+1),by omega,rfl,rfl,by omega,rfl,hW2,hc2,λi hi B p d=>Y p (V i hi B p d),λp d=>?_⟩;rw[a8 (by exact M)]at d;rcases an.1 d with d|d
   .exact Y p (hT1 p d)
   .rw[a4]at d;rw[d];exact O
  have Z:∀(κ:K2)p,κ=QN p->Ad s (QN p)=none->W (BR s κ true) (y+1)/\G (BR s κ true) p:=fun κ p e T=>by subst e;refine⟨⟨JI a.1 _ _,by rw[Lg T,a.2.1],λq hq=>(Vl hq).elim (a.2.2 q) id⟩,λ_ _=>(SZ _ _ _ _).2 (.inr rfl)⟩
  refine⟨λR _=>?_,λR=>?_⟩
  .have u:j<2:=R;obtain rfl|rfl:j=0∨j=1:=by omega
   .refine⟨by show 0<2;decide,by show 0<2;decide,b,rfl,S.ob,hS.st,λ_=>⟨λ_=>hx.1,by simpa [B9.ob] using o,by simpa [B9.ob] using o,rfl,?_⟩⟩;refine U4 (p:=(l[k].ll,l[k].hl)) hS o _ (f (l[k].ll,l[k].hl) a5) a.2.2 (λO=>g s y a (by omega) (λ_ h=>h) u O) λT=>⟨by show y+1<=_;omega,?_⟩
    have w:=Z (⟨Az l[k].ll (AW l[k].hl),Az l[k].hl (AW l[k].hl)⟩:K2) (l[k].ll,l[k].hl) (by unfold QN;simp only[JH (f (l[k].ll,l[k].hl) a5)]) T;exact g (BR s (⟨Az l[k].ll (AW l[k].hl),Az l[k].hl (AW l[k].hl)⟩:K2) true) (y+1) w.1 (by omega) (λ_ h=>v h) u w.2
   .refine⟨by show 1<2;decide,by show 1<2;decide,b,rfl,S.ob,hS.st,λ_=>⟨λ_=>hx.1,by simpa [B9.ob] using o,by simpa [B9.ob] using o,rfl,?_⟩⟩;refine U4 (p:=(l[k].lh,l[k].hh)) hS o _ (f (l[k].lh,l[k].hh) (aa _ a5)) a.2.2 (λO=>g s y a (by omega) (λ_ h=>h) u O) λT=>⟨by show y+1<=_;omega,?_⟩
    have w:=Z (⟨Az l[k].lh (AW l[k].hh),Az l[k].hh (AW l[k].hh)⟩:K2) (l[k].lh,l[k].hh) (by unfold QN;simp only[JH (f (l[k].lh,l[k].hh) (aa _ a5))]) T;exact g (BR s (⟨Az l[k].lh (AW l[k].hh),Az l[k].hh (AW l[k].hh)⟩:K2) true) (y+1) w.1 (by omega) (λ_ h=>v h) u w.2
  .have u:¬j<2:=R;have:j=2:=by omega
   subst this;refine⟨by show k+1<=_;omega,l.length-(k+1),by omega,rfl,rfl,by show k+1<=_;omega,a,by show y<=2*(k+1);omega,λi hi B p d=>?_⟩;have B:i<k+1:=B;by_cases e:i=k
   .subst e;exact hT1 p d
   .exact V i hi (by omega) p d
 .have r:¬k<l.length:=N;have hke:k=l.length:=by omega
  have a:(m.map (·.1)).Nodup:=hW.1;have:=h (m.map (·.1)) a (by rw[ae,<-hW.2.1];omega) λt ht p d=>by obtain⟨j,M,rfl⟩:=b7.1 ht;exact hG j M (by omega) p d
  rw[ae,<-hW.2.1]at this;exact this
theorem UH{r:Int->Int}{lo hi:Int}{Q:Int×Unit->UU}(j:Ca H b S)(A:SC S r)(C:∀p d,Ax S.po p=some d->B.Ok (Ax S.po) d.lo/\B.Ok (Ax S.po) d.hi)(v:∀i,Ax S.po i=none->r i=0)(m:0<=x/\x<S.n)(w:0<=hi)(f:lo≠hi->Ad (S.ta x.toNat).ids (QN (lo,hi))=none->S.po.many≠S.po.room)(E:∀i,Ad (S.ta x.toNat).ids (QN (lo,hi))=some i->0<i/\i<2000000)(y:lo=hi->Q (lo,()) () H)(u:∀i,lo≠hi->Ad (S.ta x.toNat).ids (QN (lo,hi))=some i->Q (B.fl (2*i) hi,()) () H)(D:∀i S' H',lo≠hi->Ad (S.ta x.toNat).ids (QN (lo,hi))=none->Aey S x (B.fl lo hi) (B.fl hi hi) i S'->Ca H' b S'->SC S' r->N0 b S H H'->Q (B.fl (2*i) hi,()) () H'):qK Da C5 (some b,x,lo,hi,()) H Q X:=by
 refine wF Tryz.f214 {} (?_:(lo=hi->Q (lo,()) () H)/\(¬lo=hi->∃(a:Nat),(some b)=some a/\∃(x1:Ah),H a=some (Ob.st A8 x1)/\(IK x->(IK x->(0:Int)<=x)/\∃(h:x.toNat<x1.tables.length),∃(h:x.toNat<x1.tables.length),x1=x1/\qK DA CS (x1.tables[x.toNat],Az lo (AW hi),Az hi (AW hi),()) H (λ(a:Int×Bool×UT)_ G=>(¬a.2.1->qK IT FR ((some b),x,Az lo (AW hi),Az hi (AW hi),()) G (λ(a:Int×Int×UT)_ G=>(IK a.1/\True/\True->a.1<=(4611686018427387903:den Y0.D FQ))/\Q (Az (2*max a.1 (0:den Y0.D FQ)) (AW hi),()) () G) X)/\(¬¬a.2.1->(IK a.1/\True/\True->a.1<=(4611686018427387903:den Y0.D FQ))/\Q (Az (2*max a.1 (0:den Y0.D FQ)) (AW hi),()) () G)) X)));have a:x.toNat<S.tb.length:=by grind[B9.n]
 have l:S.ob.tables[x.toNat]'(by grind[B9.ob])=some S.tb[x.toNat]:=by simp [B9.ob]
 have n:∀e:Int,Az e (AW hi)=B.fl e hi:=λe=>JH w;refine⟨y,λc=>⟨b,rfl,S.ob,j.st,λ_=>⟨λ_=>m.1,by grind,by grind,rfl,?_⟩⟩⟩;rw[l];simp only[n];refine NO (j.ta x.toNat a) (λk=>⟨λ_=>?_,λh=>qG (by simp) h⟩) λi g=>⟨λh=>qG rfl h,λ_=>?_⟩
 .refine Ri j A C v m k (λq=>qG q (f c k)) λi S' H' _ o s t z=>⟨λ_=>?_,?_⟩
  .have:=o.lt;omega
  .have:=o.pos;show Q (B.fl (2*max i 0) hi,()) () H';rw[show max i 0=i by omega];exact D i S' H' c k o s t z
 .have:=E i g;refine⟨λ_=>by omega,?_⟩;show Q (B.fl (2*max i 0) hi,()) () H;rw[show max i 0=i by omega];exact u i c g
def swL(x:AN)(k:Nat)(a b:Int):AN:={vars:=(x.vars.set k b).set (k+1) a,level:=(x.level.set a.toNat ((k:Int)+1)).set b.toNat k}
theorem Vr{c:Nat}{x:AN}{k:Nat}{a b:Int}{Q:Unit->UU}(j:H c=some (.st CG x))(n:x.vars[k]?=some a)(q:x.vars[k+1]?=some b)(f:0<=a/\a.toNat<x.level.length)(e:0<=b/\b.toNat<x.level.length)(r:x.vars.length<=64)(h:Q () () (Ab H c (.st CG (swL x k a b)))):qK K5 Hl (some c,(k:Int),()) H Q X:=by
 refine wF Tryz.f212 {} (?_:∃(b:Nat),(some c)=some b/\∃(x:AN),H b=some (Ob.st CG x)/\(IK (k:Int)->(IK (k:Int)->(0:Int)<=(k:Int))/\∃(h:(k:Int).toNat<x.vars.length),∃(h:(k:Int).toNat<x.vars.length),IK (k:Int)->IK ((k:Int)+1)/\(IK ((k:Int)+1)->(IK ((k:Int)+1)->(0:Int)<=(k:Int)+1)/\∃(h1:((k:Int)+1).toNat<x.vars.length),∃(h2:((k:Int)+1).toNat<x.vars.length),IK (k:Int)->IK ((k:Int)+1)/\(IK (k:Int)->(IK (k:Int)->(0:Int)<=(k:Int))/\∃(h3:(k:Int).toNat<x.vars.length),(k:Int).toNat<x.vars.length/\(IK ((k:Int)+1)->(IK ((k:Int)+1)->(0:Int)<=(k:Int)+1)/\∃(h4:((k:Int)+1).toNat<(x.vars.set (k:Int).toNat x.vars[((k:Int)+1).toNat]).length),((k:Int)+1).toNat<(x.vars.set (k:Int).toNat x.vars[((k:Int)+1).toNat]).length/\(IK (k:Int)->IK ((k:Int)+1)/\(IK x.vars[(k:Int).toNat]->(IK x.vars[(k:Int).toNat]->(0:Int)<=x.vars[(k:Int).toNat])/\∃(h5:x.vars[(k:Int).toNat].toNat<x.level.length),x.vars[(k:Int).toNat].toNat<x.level.length/\(IK x.vars[((k:Int)+1).toNat]->(IK x.vars[((k:Int)+1).toNat]->(0:Int)<=x.vars[((k:Int)+1).toNat])/\∃(h6:x.vars[((k:Int)+1).toNat].toNat<(x.level.set x.vars[(k:Int).toNat].toNat ((k:Int)+1)).length),x.vars[((k:Int)+1).toNat].toNat<(x.level.set x.vars[(k:Int).toNat].toNat ((k:Int)+1)).length/\Q () () (Ab H b (Ob.st CG {vars:=(x.vars.set (k:Int).toNat x.vars[((k:Int)+1).toNat]).set ((k:Int)+1).toNat x.vars[(k:Int).toNat],level:=(x.level.set x.vars[(k:Int).toNat].toNat ((k:Int)+1)).set x.vars[((k:Int)+1).toNat].toNat (k:Int):AN}))))))))));obtain⟨g,p⟩:=a7.1 n;obtain⟨d,l⟩:=a7.1 q;have o:((k:Int)).toNat=k:=by omega
 have m:((k:Int)+1).toNat=k+1:=by omega
 have i:Bn .i64 ((k:Int)+1):=A7.2 (by omega);subst p l;simp only[o,m,List.length_set];exact⟨c,rfl,x,j,λ_=>⟨λ_=>by omega,g,g,λ_=>⟨i,λ_=>⟨λ_=>by omega,d,d,λ_=>⟨i,λ_=>⟨λ_=>by omega,g,g,λ_=>⟨λ_=>by omega,d,d,λ_=>⟨i,λ_=>⟨λ_=>f.1,f.2,f.2,λ_=>⟨λ_=>e.1,e.2,e.2,h⟩⟩⟩⟩⟩⟩⟩⟩⟩⟩
end
section
structure Cx(S1:B9)(x y:Int)(L:List AA)(K:List K2):Prop where
 si:SI S1
 live:∀i d,Ax S1.po i=some d->0<F1 S1.cn i
 hx:0<=x/\x<S1.n
 hy:0<=y/\y<S1.n
 hxy:Df S1.lv y=Df S1.lv x+1
 nd:(L.map (·.n.ID)).Nodup
 te:∀t∈L,TnE S1 x y t
 all:∀i n,FY S1.po i=some n->n.Var=x->(B.ME (Ax S1.po) y n.Lo∨B.ME (Ax S1.po) y n.Hi)->∃t∈L,t.n=n
 kn:K.Nodup
 ka:∀t∈L,∀p∈XG t,p.1≠p.2->Ad (S1.ta x.toNat).ids (QN p)=none->QN p∈K
 room:S1.po.many+K.length<=S1.po.room
structure Xa(S1:B9)(x y:Int)(L:List AA)(K:List K2)(k:Nat)(S:B9):Prop where
 mix:B.Wg S1.n (Df S1.lv) (Ax S1.po) x y (λi=>∃t∈L.take k,t.n.ID=i) (Ax S.po)
 rf:∀j,EU S.po j=EU S1.po j
 tb:S.tb=S1.tb
 bl:S.bl=S1.bl
 bp:S.bp=S1.bp
 room:S.po.room=S1.po.room
 tn:∀v:Nat,v<S1.tb.length->N9 (S.ta v).ids
 tx:∀lo hi i,Ad (S.ta x.toNat).ids (⟨lo,hi⟩:K2)=some i↔Ax S.po i=some ⟨x,lo,hi⟩/\¬∃t∈L.drop k,t.n.ID=i
 tv:∀v:Nat,v<S1.tb.length->(v:Int)≠x->∀lo hi i,Ad (S.ta v).ids (⟨lo,hi⟩:K2)=some i↔Ax S.po i=some ⟨(v:Int),lo,hi⟩
 add:∃A:List K2,A.Nodup/\(∀κ∈A,κ∈K/\Ad (S.ta x.toNat).ids κ≠none)/\S.po.many=S1.po.many+A.length
section
variable {S1:B9} {x y:Int} {L:List AA} {K:List K2}
variable {t:AA}
theorem Cx.tn(c:Cx S1 x y L K)(j:t∈L):B.Tn (Ax S1.po) x y t.n.ID ⟨x,t.n.Lo,t.n.Hi⟩/\∀p∈XG t,B.Ok (Ax S1.po) p.1/\B.Ok (Ax S1.po) p.2/\Df S1.lv y<B.el S1.n (Df S1.lv) (Ax S1.po) p.1/\Df S1.lv y<B.el S1.n (Df S1.lv) (Ax S1.po) p.2:=by
 have e:=c.te t j;have f:=Hf e.nd;rw[e.v]at f;have a:=c.si.BS.four B9.Ko c.hy c.hxy f rfl _ (.inl rfl);have b:=c.si.BS.four B9.Ko c.hy c.hxy f rfl _ (.inr rfl);simp only at a b;have g:B.sp (Ax S1.po) y t.n.Lo=(t.ll,t.lh):=e.l.symm;have i:B.sp (Ax S1.po) y t.n.Hi=(t.hl,t.hh):=e.h.symm;rw[g]at a;rw[i]at b;refine⟨⟨f,rfl,?_⟩,λp d=>?_⟩
 .rcases e.ne with h|h
  .refine .inl (c.si.BS.Xq.2 ?_);grind
  .refine .inr (c.si.BS.Xq.2 ?_);grind
 grind[XG]
theorem Cx.A0h(c:Cx S1 x y L K)(e:t∈L){a b:Int}(d:Df S1.lv y<B.el S1.n (Df S1.lv) (Ax S1.po) a)(f:Df S1.lv y<B.el S1.n (Df S1.lv) (Ax S1.po) b):¬(t.n.Lo=a/\t.n.Hi=b):=by
 rintro⟨rfl,rfl⟩;rcases(c.tn e).1.2.2 with h|h
 .exact B.noY c.si.BS d h
 .exact B.noY c.si.BS f h
variable {k:Nat}
theorem R4{l:List AA}(h:(l.map (·.n.ID)).Nodup){s:AA}(hs:s∈l.take k)(b:t∈l.drop k):s.n.ID≠t.n.ID:=by
 have a:l.map (·.n.ID)=(l.take k).map (·.n.ID)++(l.drop k).map (·.n.ID):=by rw[<-am,bi]
 rw[a,au]at h;exact h.2.2 _ (ac hs) _ (ac b)
theorem Xa.U5(c:Cx S1 x y L K){S:B9}(m:Xa S1 x y L K k S)(a:t∈L.drop k):Ax S.po t.n.ID=some ⟨x,t.n.Lo,t.n.Hi⟩/\¬∃s∈L.take k,s.n.ID=t.n.ID:=by have b:¬∃s∈L.take k,s.n.ID=t.n.ID:=λ⟨s,d,e⟩=>R4 c.nd d a e;exact⟨m.mix.stay (c.tn (a6 a)).1.1 λh=>b h.2,b⟩
theorem Aoz{M:B.Tb}{i lo hi:Int}(d:0<i)(a:lo≠hi)(h:M i=some ⟨x,B.fl lo hi,B.fl hi hi⟩):B.QM M x lo hi (B.fl (2*i) hi)/\B.Ok M (B.fl (2*i) hi):=by
 have c:B.fl (2*i) hi/2=i:=by grind[B.Aeh]
 have b:0<=B.fl (2*i) hi:=by unfold B.fl B.flip;split<;>(try split)<;>omega
 have e:B.fl (2*i) hi%2=hi%2:=by grind[B.An2]
 exact⟨.inr ⟨a,b,by omega,e,by grind⟩,b,.inr ⟨_,by rw[c];exact h⟩⟩
theorem XC{b:Nat}{S:B9}{p:Int×Int}{H:HY}{X:PX}{Q:Int×Unit->UU}(c:Cx S1 x y L K)(m:Xa S1 x y L K k S)(N:SC S (EU S1.po))(hS:Ca H b S)(ht:t∈L.drop k)(hp:p∈XG t)(h:∀e S' H',Xa S1 x y L K k S'->SC S' (EU S1.po)->Ca H' b S'->N0 b S H H'->S'.lv=S.lv->B.Ok (Ax S'.po) e->B.QM (Ax S'.po) x p.1 p.2 e->(∀i d,Ax S.po i=some d->Ax S'.po i=some d)->Q (e,()) () H'):qK Da C5 (some b,x,p.1,p.2,()) H Q X:=by
 have V:=a6 ht;obtain⟨U,P,la,lb⟩:=(c.tn V).2 p hp;have hn:S.n=S1.n:=by unfold B9.n;rw[m.tb]
 have hx':x.toNat<S1.tb.length:=by have:=c.hx;unfold B9.n at this;omega
 have W:=m.mix.dag c.si.BS B9.Ko c.hx c.hy c.hxy;have u:∀{j d},Ax S.po j=some d->0<j/\j<2000000:=λ{j d}r=>by have:=N.cn.Mg r;have:=N.po.len;have:=N.po.room;omega
 have T:p.1≠p.2->Ad (S.ta x.toNat).ids (QN p)=none->QN p∈K:=λl g=>by
  refine c.ka t V p hp l ?_;cases e:Ad (S1.ta x.toNat).ids (QN p) with
  |none=>rfl
  |some j=>
   exfalso;have o:=(c.si.tg x.toNat hx' _ _ _).1 e;rw[show ((x.toNat:Nat):Int)=x by have:=c.hx;omega]at o;have I:∀s∈L,s.n.ID≠j:=λs w D=>by have J:=(c.tn w).1.1;rw[D,o]at J;have C:=ap J;exact c.A0h w (a:=B.fl p.1 p.2) (b:=B.fl p.2 p.2) (by rw[B.K8];exact la) (by rw[B.K8];exact lb) ⟨(congrArg B.Nd.lo C).symm,(congrArg B.Nd.hi C).symm⟩
   have J:=m.mix.stay o λ⟨_,s,w,D⟩=>I s (List.mem_of_mem_take w) D;have:=(m.tx _ _ j).2 ⟨J,λ⟨s,w,D⟩=>I s (a6 w) D⟩;rw[show Ad (S.ta x.toNat).ids (QN p)=some j from this]at g;cases g
 refine UH hS N (λq d hd=>⟨(W.lo hd).1,(W.hi hd).1⟩) (λi z=>?_) (by rw[hn];exact c.hx) P.1 (λl g=>?_) (λi z=>?_) (λhe=>?_) (λi l z=>?_) λi S' H' l g f s1 c1 f1=>?_
 .rw[<-m.rf];exact UL z
 .obtain⟨A,a1,M,a3⟩:=m.add;have hk:=T l g;have hlt:(QN p::A).length<=K.length:=GO (bh.2 ⟨λhm=>(M _ hm).2 g,a1⟩) λq hq=>by
   rcases ax.1 hq with rfl|hq
   .exact hk
   .exact(M q hq).1
  have:=c.room;rw[bc]at hlt;rw[a3,m.room];omega
 .exact u ((m.tx _ _ _).1 z).1
 .exact h p.1 S H m N hS N0.refl rfl (m.mix.ok U) (.inl ⟨he,rfl⟩) λ_ _ h=>h
 .have o:=((m.tx _ _ _).1 z).1;have:=Aoz (u o).1 l o;exact h _ S H m N hS N0.refl rfl this.2 this.1 λ_ _ h=>h
 .have n:Ax S'.po i=some ⟨x,B.fl p.1 p.2,B.fl p.2 p.2⟩:=by rw[f.Ax];exact B.Tx
  have F:=Aoz f.pos l n;have R:∀j d,Ax S.po j=some d->Ax S'.po j=some d:=λj d r=>by rw[f.Ax];exact B.Sp f.KK j d r
  have G:∀j,Ax S.po j≠some ⟨x,B.fl p.1 p.2,B.fl p.2 p.2⟩:=λj r=>by
   have:=(m.tx _ _ j).2 ⟨r,λ⟨s,w,D⟩=>by have J:=(m.U5 c w).1;rw[D,r]at J;have C:=ap J;exact c.A0h (a6 w) (a:=B.fl p.1 p.2) (b:=B.fl p.2 p.2) (by rw[B.K8];exact la) (by rw[B.K8];exact lb) ⟨(congrArg B.Nd.lo C).symm,(congrArg B.Nd.hi C).symm⟩⟩
   rw[show Ad (S.ta x.toNat).ids (QN p)=some j from this]at g;cases g
  refine h _ S' H' ⟨?_,λj=>(f.rf j).trans (m.rf j),f.tb.trans m.tb,f.bl.trans m.bl,f.bp.trans m.bp,f.room.trans m.room,λv hv=>?_,λY z j=>?_,λv hv O Y z j=>?_,?_⟩ c1 s1 f1 f.lv F.2 F.1 R
  .rw[f.Ax];exact m.mix.add c.si.BS f.pos f.KK U.fl P.fl (by rw[B.K8];exact la) (by rw[B.K8];exact lb) (λe=>l (B.QF e)) B.TF G
  .rw[f.ta];split
   .exact JI (m.tn v hv) _ _
   .exact m.tn v hv
  .rw[f.ta,UV rfl,f.Ax];simp only;rw[Cw];by_cases Z:(⟨Y,z⟩:K2)=⟨B.fl p.1 p.2,B.fl p.2 p.2⟩
   .rw[UV Z];obtain⟨rfl,rfl⟩:Y=B.fl p.1 p.2/\z=B.fl p.2 p.2:=by injection Z with a b;exact⟨a,b⟩
    constructor
    .intro r;obtain rfl:i=j:=by injection r
     refine⟨B.Tx,λ⟨s,w,D⟩=>?_⟩;have:=(m.U5 c w).1;rw[D,f.KK]at this;cases this
    .rintro⟨r,_⟩;unfold B.Je at r;split at r
     .rename_i e;rw[e]
     .exact qG r (G j)
   .rw[GT Z,m.tx];unfold B.Je;split
    .rename_i e;subst e;rw[f.KK];constructor
     .rintro⟨o,_⟩;cases o
     .rintro⟨o,_⟩;have C:=ap o;exact qG (by rw[show Y=_ from (congrArg B.Nd.lo C).symm,show z=_ from (congrArg B.Nd.hi C).symm]) Z
    .rfl
  .rw[f.ta,GT (by have:=c.hx;omega),f.Ax,m.tv v hv O];unfold B.Je;split
   .rename_i e;subst e;rw[f.KK];constructor
    .intro o;cases o
    .intro o;have C:=ap o;exact qG (congrArg B.Nd.v C).symm O
   .rfl
  .obtain⟨A,a1,M,a3⟩:=m.add;have n:Ad (S'.ta x.toNat).ids (QN p)≠none:=by rw[f.ta,UV rfl];show Ad (BR _ (QN p) i) (QN p)≠none;rw[Cw,UV rfl];simp
   refine⟨QN p::A,bh.2 ⟨λhm=>(M _ hm).2 g,a1⟩,fun κ E=>?_,by rw[f.many,a3,bc];omega⟩;rcases ax.1 E with rfl|E
   .exact⟨T l g,n⟩
   .refine⟨(M κ E).1,?_⟩;rw[f.ta,UV rfl];simp only;rw[Cw];split
    .simp
    .exact(M κ E).2
end
end
section
section
variable {S1:B9} {x y:Int} {L:List AA} {K:List K2}
variable {k:Nat} {S:B9}
theorem Xa.wc(m:Xa S1 x y L K k S)(b:List Int)(a:Int):Xa S1 x y L K k (S.wc b a):=⟨m.mix,m.rf,m.tb,m.bl,m.bp,m.room,m.tn,m.tx,m.tv,m.add⟩
theorem Afo(b:k<L.length)(i:Int):(∃t∈L.take (k+1),t.n.ID=i)↔(∃t∈L.take k,t.n.ID=i)∨i=(L[k]).n.ID:=by grind[a8]
theorem Ar8(b:k<L.length)(i:Int):(∃t∈L.drop k,t.n.ID=i)↔i=(L[k]).n.ID∨∃t∈L.drop (k+1),t.n.ID=i:=by grind[a9]
theorem Arh(c:Cx S1 x y L K)(m:Xa S1 x y L K k S)(G:k<L.length){lo hi:Int}(b1:B.QM (Ax S.po) x (L[k]).ll (L[k]).hl lo)(Y:B.QM (Ax S.po) x (L[k]).lh (L[k]).hh hi){x':A6}(p:∀j,FY x' j=if j=(L[k]).n.ID then some (⟨(L[k]).n.ID,y,lo,hi,(L[k]).n.Refs⟩:Au) else FY S.po j)(r:x'.many=S.po.many)(s:x'.room=S.po.room):Ad (S.ta y.toNat).ids (⟨lo,hi⟩:K2)=none/\Xa S1 x y L K (k+1) {S with po:=x',ta:=λw=>if w=y.toNat then ⟨BR (S.ta y.toNat).ids (⟨lo,hi⟩:K2) (L[k]).n.ID⟩ else S.ta w}/\Ax x'=λj=>if j=(L[k]).n.ID then some ⟨y,lo,hi⟩ else Ax S.po j:=by
 have o:x≠y:=λe=>by have:=c.hxy;rw[e]at this;omega
 have C:y.toNat<S1.tb.length:=by have:=c.hy;unfold B9.n at this;omega
 have q:((y.toNat:Nat):Int)=y:=by have:=c.hy;omega
 have l:L[k]∈L.drop k:=by rw[a9 G];grind
 have J:=a6 l;have e:=c.te _ J;obtain⟨V,W⟩:=m.U5 c l;have E:Ax x'=λj=>if j=(L[k]).n.ID then some ⟨y,lo,hi⟩ else Ax S.po j:=by funext j;unfold Ax;rw[p];split<;>rfl
 have P:B.sp (Ax S1.po) y (L[k]).n.Lo=((L[k]).ll,(L[k]).lh):=e.l.symm;have Q:B.sp (Ax S1.po) y (L[k]).n.Hi=((L[k]).hl,(L[k]).hh):=e.h.symm;have T:B.QM (Ax S.po) x (B.sp (Ax S1.po) y (L[k]).n.Lo).1 (B.sp (Ax S1.po) y (L[k]).n.Hi).1 lo:=by grind
 have N:B.QM (Ax S.po) x (B.sp (Ax S1.po) y (L[k]).n.Lo).2 (B.sp (Ax S1.po) y (L[k]).n.Hi).2 hi:=by grind
 have u:=m.mix.A2r c.si.BS B9.Ko c.hx c.hy c.hxy (c.tn J).1 W T N;have D:=m.tv y.toNat C (by omega);rw[q]at D;have M:Ad (S.ta y.toNat).ids (⟨lo,hi⟩:K2)=none:=by
  cases e:Ad (S.ta y.toNat).ids (⟨lo,hi⟩:K2) with
  |none=>rfl
  |some j=>grind
 refine⟨M,⟨?_,λj=>?_,m.tb,m.bl,m.bp,s.trans m.room,λv D=>?_,λf g i=>?_,λv H z f g i=>?_,?_⟩,E⟩
 .show B.Wg _ _ _ _ _ _ (Ax x');rw[E,show (λi=>∃t∈L.take (k+1),t.n.ID=i)=λj=>(∃t∈L.take k,t.n.ID=j)∨j=(L[k]).n.ID from funext λi=>propext (Afo G i)];exact m.mix.set c.si.BS B9.Ko c.hx c.hy c.hxy (c.tn J).1 W T N
 .rw[<-m.rf];show EU x' j=_;by_cases R:j=(L[k]).n.ID
  .subst R;rw[m.rf];unfold EU;rw[p,UV rfl,e.nd]
  simp_all[EU]
 .show N9 (if v=y.toNat then (⟨_⟩:Ay) else S.ta v).ids;split
  .exact JI (m.tn _ C) _ _
  .exact m.tn v D
 .show Ad (if x.toNat=y.toNat then (⟨_⟩:Ay) else S.ta x.toNat).ids _=some i↔Ax x' i=_/\_;rw[GT (by have:=c.hx;omega),m.tx,E,Ar8 G];grind
 .show Ad (if v=y.toNat then (⟨_⟩:Ay) else S.ta v).ids _=some i↔Ax x' i=_;rw[E];show _↔(if i=(L[k]).n.ID then some ⟨y,lo,hi⟩ else Ax S.po i)=_;by_cases U:v=y.toNat
  .subst U;rw[UV rfl,q];simp only;rw[Cw];grind
  .rw[GT U,m.tv v H z];grind
 .obtain⟨A,a1,X,Z⟩:=m.add;refine⟨A,a1,fun κ I=>?_,by grind⟩;show κ∈K/\Ad (if x.toNat=y.toNat then (⟨_⟩:Ay) else S.ta x.toNat).ids κ≠none;rw[GT (by have:=c.hx;omega)];grind
theorem Xa.live(c:Cx S1 x y L K)(m:Xa S1 x y L K k S){r:Int->Int}(f:SC S r)(j:∀i,EU S1.po i<=r i){t:AA}(e:t∈L.drop k):0<F1 S.cn t.n.ID:=by have g:=(c.tn (a6 e)).1.1;have n:=c.si.BS.od.Mp x c.hx.1 c.hx.2;refine B.Cn.Arj (a:=Df S1.lv x) c.si.BS c.si.sc.cn c.live f.cn c.si.rf j (λi d l b=>m.mix.stay l λh=>?_) (Df S1.lv x+1).toNat t.n.ID _ _ g (Int.le_refl _) (by grind) (m.U5 c e).1;rw[h.1.2.1]at b;omega
theorem Avm{p:Option Nat}{b:Nat}{lo hi i:Int}{H:HY}{X:PX}{Q:Int×Unit->UU}(hp:p=some b)(h:qK Dr CK (some b,lo,hi,i,()) H Q X):qK Dr CK (p,lo,hi,i,()) H Q X:=by subst hp;exact h
theorem Am2{b:Nat}{H:HY}{X:PX}{N:HP}(c:Cx S1 x y L K)(V:∀i,EU S1.po i<=576460752303423488)(m:Xa S1 x y L K k S)(hk:k<L.length)(hC:SC S (EU S1.po))(hS:Ca H b S)(h:∀S' f,Xa S1 x y L K (k+1) S'->SC S' (EU S1.po)->Ca f b S'->N0 b S H f->S'.lv=S.lv->N f):qK Da C5 (some b,x,(L[k]).ll,(L[k]).hl,()) H (λ(A:Int×Unit)(_:Unit)(f:HY)=>qK Da C5 (some b,x,(L[k]).lh,(L[k]).hh,()) f (λ(z:Int×Unit)(_:Unit)(f:HY)=>qK B5 Bt (some b,A.1,()) f (λ(_ _:Unit)(f:HY)=>qK B5 Bt (some b,z.1,()) f (λ(_ _:Unit)(f:HY)=>∃(x:Ah),f b=some (Ob.st A8 x)/\x=x/\qK BZ BP (x.DZ,{ID:=(L[k]).n.ID,Var:=y,Lo:=A.1,Hi:=z.1,Refs:=(L[k]).n.Refs:Au},()) f (λ(_:Int×Unit)(_:Unit)(f:HY)=>∃(x:Ah),f b=some (Ob.st A8 x)/\(Bn .i64 y->(Bn .i64 y->0<=y)/\∃(_:y.toNat<x.tables.length),∃(_:y.toNat<x.tables.length),x=x/\qK Dr CK (x.tables[y.toNat],A.1,z.1,(L[k]).n.ID,()) f (λ(_:Int×Unit)(_:Unit)(f:HY)=>qK B6 Bu (some b,(L[k]).n.Lo,()) f (λ(_ _:Unit)(f:HY)=>qK B6 Bu (some b,(L[k]).n.Hi,()) f (λ(_ _:Unit)(f:HY)=>N f) X) X) X)) X) X) X) X) X:=by
 have l:L[k]∈L.drop k:=by rw[a9 hk];grind
 have hL:=a6 l;have hy':y.toNat<S1.tb.length:=by have:=c.hy;grind[B9.n]
 have Z:=(c.tn hL).1.1;have Y:∀e,B.Ok (Ax S1.po) e->∀{j:Nat}{S:B9},Xa S1 x y L K j S->B.Ok (Ax S.po) e:=λe he j S m=>m.mix.ok he;refine XC (p:=((L[k]).ll,(L[k]).hl)) c m hC hS l a5 λt S2 H2 m2 c2 s2 f2 v2 o2 b2 _=>?_;refine XC (p:=((L[k]).lh,(L[k]).hh)) c m2 c2 s2 l (aa _ a5) λo g H3 U c3 s3 f3 v3 o3 b3 E=>?_;have b2:B.QM (Ax g.po) x (L[k]).ll (L[k]).hl t:=b2.ext E;have o2:B.Ok (Ax g.po) t:=o2.ext E;have u:=U.mix.dag c.si.BS B9.Ko c.hx c.hy c.hxy;have s:∀{N:B.Tb}{e:Int},B.Dag N (B.Kq (Df S1.lv) (Ax S1.po) x y) (3*S1.n)->B.Ok N e->e/2≠0->3*S1.n-B.Kq (Df S1.lv) (Ax S1.po) x y (e/2)<(3*S1.n+1).toNat:=λ{N e}u he h0=>by obtain⟨d,Z⟩:=he.2.resolve_left h0;have:=u.Mp Z;omega
 refine LK (rk:=B.Kq (Df S1.lv) (Ax S1.po) x y) (n:=3*S1.n) (3*S1.n+1).toNat u (s u o2) s3 c3 o2 (λi d _=>by grind[B.Hd,EU,B.dl]) λcn4 M H4 s4 c4 _ f4=>?_;refine LK (S:=g.wc cn4 M) (rk:=B.Kq (Df S1.lv) (Ax S1.po) x y) (n:=3*S1.n) (3*S1.n+1).toNat u (s u o3) s4 c4 o3 (λi d _=>by grind[B.Hd,EU,B.dl]) λq a H5 s5 P _ f5=>?_;have m5:=U.wc q a;have W:=Xa.live c m5 P (λi=>by have:=@B.Hd t i;have:=@B.Hd o i;show _<=EU S1.po i+B.dl t i+B.dl o i;omega) l;have v:=(m5.U5 c l).1;refine⟨_,s5.st,rfl,?_⟩;refine Oe (x:=g.po) s5.po P.po (λh0=>?_) λn0 x' hn0 hI' hnd O I F=>?_
 .obtain⟨n1,hn1,_⟩:=Gb v;exact qG (h0.symm.trans hn1) (by simp)
 obtain⟨t1,t2,t3⟩:=Arh (S:=g.wc q a) c m5 hk b2 b3 (x':=x') hnd O I;obtain⟨s6,f6⟩:=s5.Alg x';have D:y.toNat<g.tb.length:=by rw[U.tb];exact hy'
 refine⟨_,s6.st,λ_=>⟨λ_=>c.hy.1,by simpa [B9.ob,B9.wc] using D,by simpa [B9.ob,B9.wc] using D,rfl,?_⟩⟩;refine Avm (b:=g.tb[y.toNat]) (by simp [B9.ob,B9.wc]) ?_;refine UE (s6.ta _ D) t1 ?_;obtain⟨s7,f7⟩:=s6.Alf D ⟨BR (g.ta y.toNat).ids (⟨t,o⟩:K2) (L[k]).n.ID⟩;obtain⟨k1,k2⟩:=P.cn.set (d':=⟨y,t,o⟩) v W;have c7:SC {g.wc q a with po:=x',ta:=λw=>if w=y.toNat then ⟨BR (g.ta y.toNat).ids (⟨t,o⟩:K2) (L[k]).n.ID⟩ else g.ta w} (λi=>EU S1.po i+B.mu ⟨x,(L[k]).n.Lo,(L[k]).n.Hi⟩ i):=by
  refine⟨hI',?_,λi d o=>?_,?_⟩
  .show B.Cn (Ax x') x'.at_.length (F1 q) _;rw[t3,F];refine k1.congr λi _=>?_;simp only[B.mu];omega
  .have o:Ax x' i=some d:=o;rw[t3]at o;simp only at o;split at o
   .rename_i e;rw[e];exact P.ln _ _ v
   .exact P.ln _ _ o
  .show a=B.sm x'.at_.length (B.zr (Ax x') (F1 q));rw[t3,F];exact P.dead.trans k2.symm
 have r:=t2.mix.dag c.si.BS B9.Ko c.hx c.hy c.hxy;have kl:=Y _ (c.si.kids _ _ Z).1 t2;have kh:=Y _ (c.si.kids _ _ Z).2 t2;simp only at kl kh;refine LM (S:={g.wc q a with po:=x',ta:=λw=>if w=y.toNat then ⟨BR (g.ta y.toNat).ids (⟨t,o⟩:K2) (L[k]).n.ID⟩ else g.ta w}) (rk:=B.Kq (Df S1.lv) (Ax S1.po) x y) (n:=3*S1.n) (3*S1.n+1).toNat r (s r kl) s7 c7 kl (λi d _=>?_) λcn8 J H8 s8 c8 f8=>?_
 .have:=c.si.rf i;have:=@B.Hd (L[k]).n.Hi i;simp only[B.mu];omega
 refine LM (S:=B9.wc {g.wc q a with po:=x',ta:=λw=>if w=y.toNat then ⟨BR (g.ta y.toNat).ids (⟨t,o⟩:K2) (L[k]).n.ID⟩ else g.ta w} cn8 J) (rk:=B.Kq (Df S1.lv) (Ax S1.po) x y) (n:=3*S1.n) (3*S1.n+1).toNat r (s r kh) s8 c8 kh (λi d _=>?_) λcn9 G H9 s9 c9 f9=>?_
 .have:=c.si.rf i;have:=@B.Hd (L[k]).n.Lo i;simp only[B.mu];omega
 refine h _ H9 (t2.wc cn9 G) ⟨c9.po,c9.cn.congr λi _=>?_,c9.ln,c9.dead⟩ s9 ?_ (v3.trans v2)
 .simp only[B.mu];omega
 .have g1:=f2.trans f3 (m2.bl.trans m.bl.symm) (m2.bp.trans m.bp.symm) (m2.tb.trans m.tb.symm);have T:=U.bl.trans m.bl.symm;have R:=U.bp.trans m.bp.symm;have Q:=U.tb.trans m.tb.symm;exact(((((g1.trans f4 T R Q).trans f5 T R Q).trans f6 T R Q).trans f7 T R Q).trans f8 T R Q).trans f9 T R Q
end
end
section
structure Ym(S S':B9):Prop where
 tb:S'.tb=S.tb
 bl:S'.bl=S.bl
 bp:S'.bp=S.bp
 room:S'.po.room=S.po.room
 rf:∀j,EU S'.po j=EU S.po j
 ok:∀e,B.Ok (Ax S.po) e->(e/2=0∨0<EU S.po (e/2))->B.Ok (Ax S'.po) e/\B.den (Ax S'.po) e=B.den (Ax S.po) e
variable {S:B9}
theorem Ym.refl:Ym S S:=⟨rfl,rfl,rfl,rfl,λ_=>rfl,λ_ h _=>⟨h,rfl⟩⟩
variable {S':B9}
theorem Ym.trans{S'':B9}(h:Ym S S')(k:Ym S' S''):Ym S S'':=⟨k.tb.trans h.tb,k.bl.trans h.bl,k.bp.trans h.bp,k.room.trans h.room,λj=>(k.rf j).trans (h.rf j),λe d a=>by obtain⟨b,g⟩:=h.ok e d a;obtain⟨c,f⟩:=k.ok e b (by rw[h.rf];exact a);grind⟩
theorem VX(h:SI S)(c:Clt S S'):∀i d,Ax S'.po i=some d->0<F1 S'.cn i:=λi d a=>by
 rw[c.Ax]at a;split at a
 .cases a
 .have:=h.sc.cn.nn a;rw[c.cn];omega
theorem Ux(h:SI S)(m:SI S')(c:Clt S S'):Ym S S':=by
 have f:∀i d,Ax S'.po i=some d->Ax S.po i=some d:=λi d a=>by rw[c.Ax]at a;grind
 have b:=h.BS.cut B9.Ko f m.kids;refine⟨c.tb,c.bl,c.bp,c.room,c.rf,λe k g=>?_⟩;have j:B.Ok (Ax S'.po) e:=by
  refine⟨k.1,?_⟩;rcases g with g|g
  .omega
  .rcases k.2 with l|⟨d,a⟩
   .omega
   .have:=h.sc.cn.ge a;exact .inr ⟨d,by rw[c.Ax,GT (by omega)];exact a⟩
 grind
section
variable {S1:B9} {x y:Int} {L:List AA} {K:List K2}
structure Ctt(S1:B9)(lv2:AN)(x:Int)(L:List AA)(k:Nat)(S:B9):Prop where
 eq:S={S1 with lv:=lv2,ta:=S.ta}
 tn:∀v:Nat,v<S1.tb.length->N9 (S.ta v).ids
 tx:∀lo hi i,Ad (S.ta x.toNat).ids (⟨lo,hi⟩:K2)=some i↔Ax S1.po i=some ⟨x,lo,hi⟩/\¬∃t∈L.take k,t.n.ID=i
 tv:∀v:Nat,v<S1.tb.length->(v:Int)≠x->∀lo hi i,Ad (S.ta v).ids (⟨lo,hi⟩:K2)=some i↔Ax S1.po i=some ⟨(v:Int),lo,hi⟩
variable {k:Nat} {S:B9}
theorem Ctt.step{lv2:AN}(c:Cx S1 x y L K)(h:Ctt S1 lv2 x L k S)(A:k<L.length):Ad (S.ta x.toNat).ids (⟨(L[k]).n.Lo,(L[k]).n.Hi⟩:K2)=some (L[k]).n.ID/\Ctt S1 lv2 x L (k+1) {S with ta:=λw=>if w=x.toNat then ⟨Db (S.ta x.toNat).ids (⟨(L[k]).n.Lo,(L[k]).n.Hi⟩:K2)⟩ else S.ta w}:=by
 have d:L[k]∈L.drop k:=by grind[a9]
 have j:x.toNat<S1.tb.length:=by have:=c.hx;grind[B9.n]
 have z:=(c.tn (a6 d)).1.1;have p:¬∃t∈L.take k,t.n.ID=(L[k]).n.ID:=λ⟨s,C,e⟩=>R4 c.nd C d e;refine⟨(h.tx _ _ _).2 ⟨z,p⟩,?_,λv u=>?_,λo m i=>?_,λv u r o m i=>?_⟩
 .rw[h.eq]
 .show N9 (if v=x.toNat then (⟨_⟩:Ay) else S.ta v).ids;split
  .exact RB (h.tn _ j) _
  .exact h.tn v u
 .show Ad (if x.toNat=x.toNat then (⟨_⟩:Ay) else S.ta x.toNat).ids _=some i↔_;rw[UV rfl];simp only;rw[It (h.tn _ j),Afo A];by_cases q:(⟨o,m⟩:K2)=⟨(L[k]).n.Lo,(L[k]).n.Hi⟩
  .rw[UV q];obtain⟨rfl,rfl⟩:o=(L[k]).n.Lo/\m=(L[k]).n.Hi:=by grind
   constructor
   .simp
   .rintro⟨f,l⟩;exact qG (.inr (c.si.BS.Xg f z)) l
  .rw[GT q,h.tx];grind
 .show Ad (if v=x.toNat then (⟨_⟩:Ay) else S.ta v).ids _=some i↔_;rw[GT (by have:=c.hx;omega)];exact h.tv v u r o m i
theorem Ctt.mid{lv2:AN}(c:Cx S1 x y L K)(h:Ctt S1 lv2 x L L.length S):Xa S1 x y L K 0 S/\SC S (EU S1.po):=by
 have e:=h.eq;have a:S.po=S1.po:=by rw[e]
 have f:(λi:Int=>∃t∈L.take 0,t.n.ID=i)=λ_=>False:=by simp
 refine⟨⟨by rw[f,a];exact B.Wg.start c.si.BS,λj=>by rw[a],by rw[e],by rw[e],by rw[e],by rw[a],h.tn,λk l i=>?_,λv m g k l i=>by rw[a];exact h.tv v m g k l i,[],bk,fun κ d=>qG d ad,by grind⟩,?_⟩
 .rw[h.tx,a,bu];rfl
 .have b:=c.si.sc;refine⟨by rw[a];exact b.po,?_,?_,?_⟩
  .rw[a,show S.cn=S1.cn by rw[e]];exact b.cn
  .rw[a,show S.cn=S1.cn by rw[e]];exact b.ln
  .rw[a,show S.cn=S1.cn by rw[e],show S.dead=S1.dead by rw[e]];exact b.dead
theorem Au2{lv:AN}(b:0<=x/\x.toNat<lv.level.length)(d:0<=y/\y.toNat<lv.level.length)(f:x≠y)(e:Df lv x=k)(g:Df lv y=k+1):Df (swL lv k x y)=B.sw (Df lv) x y:=by
 funext v;unfold B.sw;by_cases a:v=x
 .subst a;rw[UV rfl,g];unfold Df swL;simp only;rw[UV b.1,ah (by omega),al b.2];rfl
 .rw[GT a];by_cases c:v=y
  .subst c;rw[UV rfl,e];unfold Df swL;simp only;rw[UV d.1,al (by simpa using d.2)];rfl
  .rw[GT c];unfold Df swL;simp only;split
   .rw[ah (by omega),ah (by omega)]
   .rfl
theorem Xa.si(c:Cx S1 x y L K)(r:S1.lv.vars[k]?=some x)(h:S1.lv.vars[k+1]?=some y)(m:Xa S1 x y L K L.length S)(T:SC S (EU S1.po))(b:S.lv=swL S1.lv k x y):SI S/\Ym S1 S:=by
 have j:x≠y:=λe=>by have:=c.hxy;grind
 have o:S.n=S1.n:=by unfold B9.n;rw[m.tb]
 have F:=c.si.inv k x r;have H:=c.si.inv (k+1) y h;have E:0<=x/\x.toNat<S1.lv.level.length:=⟨c.hx.1,by rw[c.si.ll];grind[B9.n]⟩
 have u:0<=y/\y.toNat<S1.lv.level.length:=⟨c.hy.1,by rw[c.si.ll];grind[B9.n]⟩
 have q:Df S.lv=B.sw (Df S1.lv) x y:=by grind[Au2]
 have C:=m.mix.swp λ{i d}A=>by obtain⟨n,o,D,J,p⟩:=Gb A.1;obtain⟨t,w,e⟩:=c.all i n o (D.trans A.2.1) (by rw[J,p];exact A.2.2);refine⟨t,by grind,?_⟩;rw[e];exact c.si.sc.po.id _ _ o
 obtain⟨V,Q,R⟩:=c.si.BS.swap B9.Ko c.hx c.hy c.hxy C;have f:EU S.po=EU S1.po:=funext m.rf;have G:S.lv.vars.length=S1.lv.vars.length:=by grind[swL]
 refine⟨⟨by grind,by grind,by rw[G,m.tb];exact c.si.vl,by rw[b,m.tb];simpa [swL] using c.si.ll,λl v a=>?_,λv s=>m.tn v (by rw[<-m.tb];exact s),λv s U P i=>?_,λi=>by rw[f];exact c.si.rf i⟩,m.tb,m.bl,m.bp,m.room,m.rf,λe O _=>⟨Q e O,R e O⟩⟩
 .rw[o,q];rw[b]at a;have a:((S1.lv.vars.set k y).set (k+1) x)[l]?=some v:=a;have I:=(a7.1 r).1;have g:=(a7.1 h).1;by_cases N:l=k+1
  .subst N;rw[al (by grind)]at a;cases a;refine⟨c.hx.1,c.hx.2,?_⟩;rw[B.Wx,H.2.2]
  .rw[ah (Ne.symm N)]at a;by_cases M:l=k
   .subst M;rw[al I]at a;cases a;refine⟨c.hy.1,c.hy.2,?_⟩;rw[B.Y1 j,F.2.2]
   .rw[ah (Ne.symm M)]at a;obtain⟨D,J,p⟩:=c.si.inv l v a;grind[B.Y2]
 .rw[m.tb]at s;by_cases e:(v:Int)=x
  .have z:v=x.toNat:=by omega
   rw[e,z,m.tx,List.drop_length];simp
  .exact m.tv v s e U P i
end
end
end Go.Proofs.YtcbkbpjlbmalmaaGreatDoor
