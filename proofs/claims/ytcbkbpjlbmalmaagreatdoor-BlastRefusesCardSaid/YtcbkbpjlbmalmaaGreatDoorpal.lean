/-
  The kinds of data of this program. (Merged by program out of 1 texts.)
-/
import Derived.Test.YtcbkbpjlbmalmaaGreatDoorpak
import Derived.Test.YtcbkbpjlbmalmaaGreatDoorChecked
namespace Go.Proofs.YtcbkbpjlbmalmaaGreatDoor
open Go Go.X Go.Y
structure Bi where
 Name:ByteArray
 Bool:Bool
 Lo:Int
 Hi:Int
deriving DecidableEq
structure Ch where
 Gx:Int
 Kind:Int
 Level:Int
deriving DecidableEq
structure B0 where
 Ag:(List Bi)
 Order:(List Int)
 Hx:(List Ch)
deriving DecidableEq
structure A6 where
 Op:Int
 N:Int
 Name:ByteArray
 Kids:(List A6)
structure Ae where
 Ag:(List Bi)
 Bits:(List Int)
 At:(List Int)
deriving DecidableEq
structure Ai where
 Bool:Bool
 Lo:Int
 Hi:Int
deriving DecidableEq
structure Acy where
 Name:ByteArray
 E:A6
structure Xm where
 Op:Int
 E:A6
 Kids:(List Xm)
structure Acx where
 Name:ByteArray
 F:Xm
structure U7 where
 Ag:(List Bi)
 Defs:(List Acy)
 Init:(List A6)
 Az2:(List A6)
 Next:(List Acy)
 Trans:(List A6)
 Fair:(List A6)
 Azx:(List Acx)
structure Cm where
 N:Int
 H:Int
deriving DecidableEq
structure Ck where
 Var:Int
 Yes:Bool
deriving DecidableEq
structure Ah9 where
 a0:Int
 a1:Int
deriving DecidableEq
structure Am where
 ID:Int
 Var:Int
 Lo:Int
 Hi:Int
 Refs:Int
deriving DecidableEq
structure Fk where
 m:(Option Nat)
deriving DecidableEq
structure Ik where
 err:Int
 event:Bool
 ev:Ch
deriving DecidableEq
structure A9 where
 n:Am
 ll:Int
 lh:Int
 hl:Int
 hh:Int
deriving DecidableEq
structure Af where
 a0:Int
 a1:Int
deriving DecidableEq
structure Bv where
 a0:Int
 a1:Int
 a2:Int
deriving DecidableEq
structure Ex where
 op:Int
 De:Bv
deriving DecidableEq
structure B5 where
 key:Ex
 r:Int
 full:Bool
deriving DecidableEq
@[reducible] def uD:Nat->Type
 |0=>Bi
 |1=>Ch
 |2=>B0
 |3=>A6
 |4=>Ae
 |5=>Ai
 |6=>Acy
 |7=>Xm
 |8=>Acx
 |9=>U7
 |10=>Cm
 |11=>Ck
 |12=>Ah9
 |13=>Am
 |14=>Fk
 |15=>Ik
 |16=>A9
 |17=>Af
 |18=>Bv
 |19=>Ex
 |20=>B5
 |_=>Bool
def At4:Nat->List Ty
 |0=>[.str,.bool,(.int .i64),(.int .i64)]
 |1=>[(.int .i64),(.int .i64),(.int .i64)]
 |2=>[(.sl (.u 0)),(.sl I6),(.sl (.u 1))]
 |3=>[(.int .i64),(.int .i64),.str,(.sl (.u 3))]
 |4=>[(.sl (.u 0)),(.sl I6),(.sl I6)]
 |5=>[.bool,(.int .i64),(.int .i64)]
 |6=>[.str,(.int .i64),(.int .i64),.str,(.sl (.u 3))]
 |7=>[(.int .i64),(.int .i64),(.int .i64),.str,(.sl (.u 3)),(.sl (.u 7))]
 |8=>[.str,(.int .i64),(.int .i64),(.int .i64),.str,(.sl (.u 3)),(.sl (.u 7))]
 |9=>[(.sl (.u 0)),(.sl (.u 6)),(.sl (.u 3)),(.sl (.u 3)),(.sl (.u 6)),(.sl (.u 3)),(.sl (.u 3)),(.sl (.u 8))]
 |10=>[(.int .i64),(.int .i64)]
 |11=>[(.int .i64),.bool]
 |12=>[(.int .i64),(.int .i64)]
 |13=>[(.int .i64),(.int .i64),(.int .i64),(.int .i64),(.int .i64)]
 |14=>[.ptr]
 |15=>[(.int .i64),.bool,(.int .i64),(.int .i64),(.int .i64)]
 |16=>[(.int .i64),(.int .i64),(.int .i64),(.int .i64),(.int .i64),(.int .i64),(.int .i64),(.int .i64),(.int .i64)]
 |17=>[(.int .i64),(.int .i64)]
 |18=>[(.int .i64),(.int .i64),(.int .i64)]
 |19=>[(.int .i64),(.int .i64),(.int .i64),(.int .i64)]
 |20=>[(.int .i64),(.int .i64),(.int .i64),(.int .i64),(.int .i64),.bool]
 |_=>[.bool]
def Av9:(n:Nat)->uD n->List (Lf uD)
 |0,x=>[⟨.str,x.Name⟩,⟨.bool,x.Bool⟩,⟨(.int .i64),x.Lo⟩,⟨(.int .i64),x.Hi⟩]
 |1,x=>[⟨(.int .i64),x.Gx⟩,⟨(.int .i64),x.Kind⟩,⟨(.int .i64),x.Level⟩]
 |2,x=>[⟨(.sl (.u 0)),x.Ag⟩,⟨(.sl I6),x.Order⟩,⟨(.sl (.u 1)),x.Hx⟩]
 |3,x=>[⟨(.int .i64),x.Op⟩,⟨(.int .i64),x.N⟩,⟨.str,x.Name⟩,⟨(.sl (.u 3)),x.Kids⟩]
 |4,x=>[⟨(.sl (.u 0)),x.Ag⟩,⟨(.sl I6),x.Bits⟩,⟨(.sl I6),x.At⟩]
 |5,x=>[⟨.bool,x.Bool⟩,⟨(.int .i64),x.Lo⟩,⟨(.int .i64),x.Hi⟩]
 |6,x=>[⟨.str,x.Name⟩,⟨(.int .i64),x.E.Op⟩,⟨(.int .i64),x.E.N⟩,⟨.str,x.E.Name⟩,⟨(.sl (.u 3)),x.E.Kids⟩]
 |7,x=>[⟨(.int .i64),x.Op⟩,⟨(.int .i64),x.E.Op⟩,⟨(.int .i64),x.E.N⟩,⟨.str,x.E.Name⟩,⟨(.sl (.u 3)),x.E.Kids⟩,⟨(.sl (.u 7)),x.Kids⟩]
 |8,x=>[⟨.str,x.Name⟩,⟨(.int .i64),x.F.Op⟩,⟨(.int .i64),x.F.E.Op⟩,⟨(.int .i64),x.F.E.N⟩,⟨.str,x.F.E.Name⟩,⟨(.sl (.u 3)),x.F.E.Kids⟩,⟨(.sl (.u 7)),x.F.Kids⟩]
 |9,x=>[⟨(.sl (.u 0)),x.Ag⟩,⟨(.sl (.u 6)),x.Defs⟩,⟨(.sl (.u 3)),x.Init⟩,⟨(.sl (.u 3)),x.Az2⟩,⟨(.sl (.u 6)),x.Next⟩,⟨(.sl (.u 3)),x.Trans⟩,⟨(.sl (.u 3)),x.Fair⟩,⟨(.sl (.u 8)),x.Azx⟩]
 |10,x=>[⟨(.int .i64),x.N⟩,⟨(.int .i64),x.H⟩]
 |11,x=>[⟨(.int .i64),x.Var⟩,⟨.bool,x.Yes⟩]
 |12,x=>[⟨(.int .i64),x.a0⟩,⟨(.int .i64),x.a1⟩]
 |13,x=>[⟨(.int .i64),x.ID⟩,⟨(.int .i64),x.Var⟩,⟨(.int .i64),x.Lo⟩,⟨(.int .i64),x.Hi⟩,⟨(.int .i64),x.Refs⟩]
 |14,x=>[⟨.ptr,x.m⟩]
 |15,x=>[⟨(.int .i64),x.err⟩,⟨.bool,x.event⟩,⟨(.int .i64),x.ev.Gx⟩,⟨(.int .i64),x.ev.Kind⟩,⟨(.int .i64),x.ev.Level⟩]
 |16,x=>[⟨(.int .i64),x.n.ID⟩,⟨(.int .i64),x.n.Var⟩,⟨(.int .i64),x.n.Lo⟩,⟨(.int .i64),x.n.Hi⟩,⟨(.int .i64),x.n.Refs⟩,⟨(.int .i64),x.ll⟩,⟨(.int .i64),x.lh⟩,⟨(.int .i64),x.hl⟩,⟨(.int .i64),x.hh⟩]
 |17,x=>[⟨(.int .i64),x.a0⟩,⟨(.int .i64),x.a1⟩]
 |18,x=>[⟨(.int .i64),x.a0⟩,⟨(.int .i64),x.a1⟩,⟨(.int .i64),x.a2⟩]
 |19,x=>[⟨(.int .i64),x.op⟩,⟨(.int .i64),x.De.a0⟩,⟨(.int .i64),x.De.a1⟩,⟨(.int .i64),x.De.a2⟩]
 |20,x=>[⟨(.int .i64),x.key.op⟩,⟨(.int .i64),x.key.De.a0⟩,⟨(.int .i64),x.key.De.a1⟩,⟨(.int .i64),x.key.De.a2⟩,⟨(.int .i64),x.r⟩,⟨.bool,x.full⟩]
 |_+21,x=>[⟨.bool,x⟩]
def J4:(n:Nat)->List (Lf uD)->Option (uD n)
 |0,l0=>tk .str l0 λv0 l1=>tk .bool l1 λv1 l2=>tk (.int .i64) l2 λv2 l3=>tk (.int .i64) l3 λv3 l4=>nl l4 (some ⟨v0,v1,v2,v3⟩)
 |1,l0=>tk (.int .i64) l0 λv0 l1=>tk (.int .i64) l1 λv1 l2=>tk (.int .i64) l2 λv2 l3=>nl l3 (some ⟨v0,v1,v2⟩)
 |2,l0=>tk (.sl (.u 0)) l0 λv0 l1=>tk (.sl I6) l1 λv1 l2=>tk (.sl (.u 1)) l2 λv2 l3=>nl l3 (some ⟨v0,v1,v2⟩)
 |3,l0=>tk (.int .i64) l0 λv0 l1=>tk (.int .i64) l1 λv1 l2=>tk .str l2 λv2 l3=>tk (.sl (.u 3)) l3 λv3 l4=>nl l4 (some ⟨v0,v1,v2,v3⟩)
 |4,l0=>tk (.sl (.u 0)) l0 λv0 l1=>tk (.sl I6) l1 λv1 l2=>tk (.sl I6) l2 λv2 l3=>nl l3 (some ⟨v0,v1,v2⟩)
 |5,l0=>tk .bool l0 λv0 l1=>tk (.int .i64) l1 λv1 l2=>tk (.int .i64) l2 λv2 l3=>nl l3 (some ⟨v0,v1,v2⟩)
 |6,l0=>tk .str l0 λv0 l1=>tk (.int .i64) l1 λv1 l2=>tk (.int .i64) l2 λv2 l3=>tk .str l3 λv3 l4=>tk (.sl (.u 3)) l4 λv4 l5=>nl l5 (some ⟨v0,⟨v1,v2,v3,v4⟩⟩)
 |7,l0=>tk (.int .i64) l0 λv0 l1=>tk (.int .i64) l1 λv1 l2=>tk (.int .i64) l2 λv2 l3=>tk .str l3 λv3 l4=>tk (.sl (.u 3)) l4 λv4 l5=>tk (.sl (.u 7)) l5 λv5 l6=>nl l6 (some ⟨v0,⟨v1,v2,v3,v4⟩,v5⟩)
 |8,l0=>tk .str l0 λv0 l1=>tk (.int .i64) l1 λv1 l2=>tk (.int .i64) l2 λv2 l3=>tk (.int .i64) l3 λv3 l4=>tk .str l4 λv4 l5=>tk (.sl (.u 3)) l5 λv5 l6=>tk (.sl (.u 7)) l6 λv6 l7=>nl l7 (some ⟨v0,⟨v1,⟨v2,v3,v4,v5⟩,v6⟩⟩)
 |9,l0=>tk (.sl (.u 0)) l0 λv0 l1=>tk (.sl (.u 6)) l1 λv1 l2=>tk (.sl (.u 3)) l2 λv2 l3=>tk (.sl (.u 3)) l3 λv3 l4=>tk (.sl (.u 6)) l4 λv4 l5=>tk (.sl (.u 3)) l5 λv5 l6=>tk (.sl (.u 3)) l6 λv6 l7=>tk (.sl (.u 8)) l7 λv7 l8=>nl l8 (some ⟨v0,v1,v2,v3,v4,v5,v6,v7⟩)
 |10,l0=>tk (.int .i64) l0 λv0 l1=>tk (.int .i64) l1 λv1 l2=>nl l2 (some ⟨v0,v1⟩)
 |11,l0=>tk (.int .i64) l0 λv0 l1=>tk .bool l1 λv1 l2=>nl l2 (some ⟨v0,v1⟩)
 |12,l0=>tk (.int .i64) l0 λv0 l1=>tk (.int .i64) l1 λv1 l2=>nl l2 (some ⟨v0,v1⟩)
 |13,l0=>tk (.int .i64) l0 λv0 l1=>tk (.int .i64) l1 λv1 l2=>tk (.int .i64) l2 λv2 l3=>tk (.int .i64) l3 λv3 l4=>tk (.int .i64) l4 λv4 l5=>nl l5 (some ⟨v0,v1,v2,v3,v4⟩)
 |14,l0=>tk .ptr l0 λv0 l1=>nl l1 (some ⟨v0⟩)
 |15,l0=>tk (.int .i64) l0 λv0 l1=>tk .bool l1 λv1 l2=>tk (.int .i64) l2 λv2 l3=>tk (.int .i64) l3 λv3 l4=>tk (.int .i64) l4 λv4 l5=>nl l5 (some ⟨v0,v1,⟨v2,v3,v4⟩⟩)
 |16,l0=>tk (.int .i64) l0 λv0 l1=>tk (.int .i64) l1 λv1 l2=>tk (.int .i64) l2 λv2 l3=>tk (.int .i64) l3 λv3 l4=>tk (.int .i64) l4 λv4 l5=>tk (.int .i64) l5 λv5 l6=>tk (.int .i64) l6 λv6 l7=>tk (.int .i64) l7 λv7 l8=>tk (.int .i64) l8 λv8 l9=>nl l9 (some ⟨⟨v0,v1,v2,v3,v4⟩,v5,v6,v7,v8⟩)
 |17,l0=>tk (.int .i64) l0 λv0 l1=>tk (.int .i64) l1 λv1 l2=>nl l2 (some ⟨v0,v1⟩)
 |18,l0=>tk (.int .i64) l0 λv0 l1=>tk (.int .i64) l1 λv1 l2=>tk (.int .i64) l2 λv2 l3=>nl l3 (some ⟨v0,v1,v2⟩)
 |19,l0=>tk (.int .i64) l0 λv0 l1=>tk (.int .i64) l1 λv1 l2=>tk (.int .i64) l2 λv2 l3=>tk (.int .i64) l3 λv3 l4=>nl l4 (some ⟨v0,⟨v1,v2,v3⟩⟩)
 |20,l0=>tk (.int .i64) l0 λv0 l1=>tk (.int .i64) l1 λv1 l2=>tk (.int .i64) l2 λv2 l3=>tk (.int .i64) l3 λv3 l4=>tk (.int .i64) l4 λv4 l5=>tk .bool l5 λv5 l6=>nl l6 (some ⟨⟨v0,⟨v1,v2,v3⟩⟩,v4,v5⟩)
 |_+21,l0=>tk .bool l0 λv0 l1=>nl l1 (some v0)
theorem Av8:∀n x,(Av9 n x).map (·.t)=At4 n
 |0,_=>rfl
 |1,_=>rfl
 |2,_=>rfl
 |3,_=>rfl
 |4,_=>rfl
 |5,_=>rfl
 |6,_=>rfl
 |7,_=>rfl
 |8,_=>rfl
 |9,_=>rfl
 |10,_=>rfl
 |11,_=>rfl
 |12,_=>rfl
 |13,_=>rfl
 |14,_=>rfl
 |15,_=>rfl
 |16,_=>rfl
 |17,_=>rfl
 |18,_=>rfl
 |19,_=>rfl
 |20,_=>rfl
 |_+21,_=>rfl
theorem A0h:∀n l x,J4 n l=some x->Av9 n x=l
 |0,l0,x,h0=>by simp only[J4]at h0;obtain⟨v0,l1,e0,h1⟩:=Bn h0;subst e0;obtain⟨v1,l2,e1,h2⟩:=Bn h1;subst e1;obtain⟨v2,l3,e2,h3⟩:=Bn h2;subst e2;obtain⟨v3,l4,e3,h4⟩:=Bn h3;subst e3;obtain⟨e,h⟩:=Ll h4;subst e;cases h;rfl
 |1,l0,x,h0=>by simp only[J4]at h0;obtain⟨v0,l1,e0,h1⟩:=Bn h0;subst e0;obtain⟨v1,l2,e1,h2⟩:=Bn h1;subst e1;obtain⟨v2,l3,e2,h3⟩:=Bn h2;subst e2;obtain⟨e,h⟩:=Ll h3;subst e;cases h;rfl
 |2,l0,x,h0=>by simp only[J4]at h0;obtain⟨v0,l1,e0,h1⟩:=Bn h0;subst e0;obtain⟨v1,l2,e1,h2⟩:=Bn h1;subst e1;obtain⟨v2,l3,e2,h3⟩:=Bn h2;subst e2;obtain⟨e,h⟩:=Ll h3;subst e;cases h;rfl
 |3,l0,x,h0=>by simp only[J4]at h0;obtain⟨v0,l1,e0,h1⟩:=Bn h0;subst e0;obtain⟨v1,l2,e1,h2⟩:=Bn h1;subst e1;obtain⟨v2,l3,e2,h3⟩:=Bn h2;subst e2;obtain⟨v3,l4,e3,h4⟩:=Bn h3;subst e3;obtain⟨e,h⟩:=Ll h4;subst e;cases h;rfl
 |4,l0,x,h0=>by simp only[J4]at h0;obtain⟨v0,l1,e0,h1⟩:=Bn h0;subst e0;obtain⟨v1,l2,e1,h2⟩:=Bn h1;subst e1;obtain⟨v2,l3,e2,h3⟩:=Bn h2;subst e2;obtain⟨e,h⟩:=Ll h3;subst e;cases h;rfl
 |5,l0,x,h0=>by simp only[J4]at h0;obtain⟨v0,l1,e0,h1⟩:=Bn h0;subst e0;obtain⟨v1,l2,e1,h2⟩:=Bn h1;subst e1;obtain⟨v2,l3,e2,h3⟩:=Bn h2;subst e2;obtain⟨e,h⟩:=Ll h3;subst e;cases h;rfl
 |6,l0,x,h0=>by simp only[J4]at h0;obtain⟨v0,l1,e0,h1⟩:=Bn h0;subst e0;obtain⟨v1,l2,e1,h2⟩:=Bn h1;subst e1;obtain⟨v2,l3,e2,h3⟩:=Bn h2;subst e2;obtain⟨v3,l4,e3,h4⟩:=Bn h3;subst e3;obtain⟨v4,l5,e4,h5⟩:=Bn h4;subst e4;obtain⟨e,h⟩:=Ll h5;subst e;cases h;rfl
 |7,l0,x,h0=>by simp only[J4]at h0;obtain⟨v0,l1,e0,h1⟩:=Bn h0;subst e0;obtain⟨v1,l2,e1,h2⟩:=Bn h1;subst e1;obtain⟨v2,l3,e2,h3⟩:=Bn h2;subst e2;obtain⟨v3,l4,e3,h4⟩:=Bn h3;subst e3;obtain⟨v4,l5,e4,h5⟩:=Bn h4;subst e4;obtain⟨v5,l6,e5,h6⟩:=Bn h5;subst e5;obtain⟨e,h⟩:=Ll h6;subst e;cases h;rfl
 |8,l0,x,h0=>by simp only[J4]at h0;obtain⟨v0,l1,e0,h1⟩:=Bn h0;subst e0;obtain⟨v1,l2,e1,h2⟩:=Bn h1;subst e1;obtain⟨v2,l3,e2,h3⟩:=Bn h2;subst e2;obtain⟨v3,l4,e3,h4⟩:=Bn h3;subst e3;obtain⟨v4,l5,e4,h5⟩:=Bn h4;subst e4;obtain⟨v5,l6,e5,h6⟩:=Bn h5;subst e5;obtain⟨v6,l7,e6,h7⟩:=Bn h6;subst e6;obtain⟨e,h⟩:=Ll h7;subst e;cases h;rfl
 |9,l0,x,h0=>by simp only[J4]at h0;obtain⟨v0,l1,e0,h1⟩:=Bn h0;subst e0;obtain⟨v1,l2,e1,h2⟩:=Bn h1;subst e1;obtain⟨v2,l3,e2,h3⟩:=Bn h2;subst e2;obtain⟨v3,l4,e3,h4⟩:=Bn h3;subst e3;obtain⟨v4,l5,e4,h5⟩:=Bn h4;subst e4;obtain⟨v5,l6,e5,h6⟩:=Bn h5;subst e5;obtain⟨v6,l7,e6,h7⟩:=Bn h6;subst e6;obtain⟨v7,l8,e7,h8⟩:=Bn h7;subst e7;obtain⟨e,h⟩:=Ll h8;subst e;cases h;rfl
 |10,l0,x,h0=>by simp only[J4]at h0;obtain⟨v0,l1,e0,h1⟩:=Bn h0;subst e0;obtain⟨v1,l2,e1,h2⟩:=Bn h1;subst e1;obtain⟨e,h⟩:=Ll h2;subst e;cases h;rfl
 |11,l0,x,h0=>by simp only[J4]at h0;obtain⟨v0,l1,e0,h1⟩:=Bn h0;subst e0;obtain⟨v1,l2,e1,h2⟩:=Bn h1;subst e1;obtain⟨e,h⟩:=Ll h2;subst e;cases h;rfl
 |12,l0,x,h0=>by simp only[J4]at h0;obtain⟨v0,l1,e0,h1⟩:=Bn h0;subst e0;obtain⟨v1,l2,e1,h2⟩:=Bn h1;subst e1;obtain⟨e,h⟩:=Ll h2;subst e;cases h;rfl
 |13,l0,x,h0=>by simp only[J4]at h0;obtain⟨v0,l1,e0,h1⟩:=Bn h0;subst e0;obtain⟨v1,l2,e1,h2⟩:=Bn h1;subst e1;obtain⟨v2,l3,e2,h3⟩:=Bn h2;subst e2;obtain⟨v3,l4,e3,h4⟩:=Bn h3;subst e3;obtain⟨v4,l5,e4,h5⟩:=Bn h4;subst e4;obtain⟨e,h⟩:=Ll h5;subst e;cases h;rfl
 |14,l0,x,h0=>by simp only[J4]at h0;obtain⟨v0,l1,e0,h1⟩:=Bn h0;subst e0;obtain⟨e,h⟩:=Ll h1;subst e;cases h;rfl
 |15,l0,x,h0=>by simp only[J4]at h0;obtain⟨v0,l1,e0,h1⟩:=Bn h0;subst e0;obtain⟨v1,l2,e1,h2⟩:=Bn h1;subst e1;obtain⟨v2,l3,e2,h3⟩:=Bn h2;subst e2;obtain⟨v3,l4,e3,h4⟩:=Bn h3;subst e3;obtain⟨v4,l5,e4,h5⟩:=Bn h4;subst e4;obtain⟨e,h⟩:=Ll h5;subst e;cases h;rfl
 |16,l0,x,h0=>by simp only[J4]at h0;obtain⟨v0,l1,e0,h1⟩:=Bn h0;subst e0;obtain⟨v1,l2,e1,h2⟩:=Bn h1;subst e1;obtain⟨v2,l3,e2,h3⟩:=Bn h2;subst e2;obtain⟨v3,l4,e3,h4⟩:=Bn h3;subst e3;obtain⟨v4,l5,e4,h5⟩:=Bn h4;subst e4;obtain⟨v5,l6,e5,h6⟩:=Bn h5;subst e5;obtain⟨v6,l7,e6,h7⟩:=Bn h6;subst e6;obtain⟨v7,l8,e7,h8⟩:=Bn h7;subst e7;obtain⟨v8,l9,e8,h9⟩:=Bn h8;subst e8;obtain⟨e,h⟩:=Ll h9;subst e;cases h;rfl
 |17,l0,x,h0=>by simp only[J4]at h0;obtain⟨v0,l1,e0,h1⟩:=Bn h0;subst e0;obtain⟨v1,l2,e1,h2⟩:=Bn h1;subst e1;obtain⟨e,h⟩:=Ll h2;subst e;cases h;rfl
 |18,l0,x,h0=>by simp only[J4]at h0;obtain⟨v0,l1,e0,h1⟩:=Bn h0;subst e0;obtain⟨v1,l2,e1,h2⟩:=Bn h1;subst e1;obtain⟨v2,l3,e2,h3⟩:=Bn h2;subst e2;obtain⟨e,h⟩:=Ll h3;subst e;cases h;rfl
 |19,l0,x,h0=>by simp only[J4]at h0;obtain⟨v0,l1,e0,h1⟩:=Bn h0;subst e0;obtain⟨v1,l2,e1,h2⟩:=Bn h1;subst e1;obtain⟨v2,l3,e2,h3⟩:=Bn h2;subst e2;obtain⟨v3,l4,e3,h4⟩:=Bn h3;subst e3;obtain⟨e,h⟩:=Ll h4;subst e;cases h;rfl
 |20,l0,x,h0=>by simp only[J4]at h0;obtain⟨v0,l1,e0,h1⟩:=Bn h0;subst e0;obtain⟨v1,l2,e1,h2⟩:=Bn h1;subst e1;obtain⟨v2,l3,e2,h3⟩:=Bn h2;subst e2;obtain⟨v3,l4,e3,h4⟩:=Bn h3;subst e3;obtain⟨v4,l5,e4,h5⟩:=Bn h4;subst e4;obtain⟨v5,l6,e5,h6⟩:=Bn h5;subst e5;obtain⟨e,h⟩:=Ll h6;subst e;cases h;rfl
 |_+21,l0,x,h0=>by simp only[J4]at h0;obtain⟨v0,l1,e0,h1⟩:=Bn h0;subst e0;obtain⟨e,h⟩:=Ll h1;subst e;cases h;rfl
theorem A7e:∀n,∀t∈At4 n,t.leaf=true
 |0=>by decide
 |1=>by decide
 |2=>by decide
 |3=>by decide
 |4=>by decide
 |5=>by decide
 |6=>by decide
 |7=>by decide
 |8=>by decide
 |9=>by decide
 |10=>by decide
 |11=>by decide
 |12=>by decide
 |13=>by decide
 |14=>by decide
 |15=>by decide
 |16=>by decide
 |17=>by decide
 |18=>by decide
 |19=>by decide
 |20=>by decide
 |_+21=>by intro t ht;simp [At4]at ht;subst ht;rfl
theorem A86:∀n,0<(At4 n).length
 |0=>by decide
 |1=>by decide
 |2=>by decide
 |3=>by decide
 |4=>by decide
 |5=>by decide
 |6=>by decide
 |7=>by decide
 |8=>by decide
 |9=>by decide
 |10=>by decide
 |11=>by decide
 |12=>by decide
 |13=>by decide
 |14=>by decide
 |15=>by decide
 |16=>by decide
 |17=>by decide
 |18=>by decide
 |19=>by decide
 |20=>by decide
 |_+21=>by simp [At4]
def uS:US:={D:=uD,sig:=At4,flat:=Av9,At3:=J4,Acd:=Av8,Aa3:=A0h,Ani:=A7e,Ar4:=A86}
noncomputable def At5:(n:Nat)->DecidableEq (uD n)
 |0=>inferInstanceAs (DecidableEq Bi)
 |1=>inferInstanceAs (DecidableEq Ch)
 |2=>inferInstanceAs (DecidableEq B0)
 |3=>λ_ _=>Classical.propDecidable _
 |4=>inferInstanceAs (DecidableEq Ae)
 |5=>inferInstanceAs (DecidableEq Ai)
 |6=>λ_ _=>Classical.propDecidable _
 |7=>λ_ _=>Classical.propDecidable _
 |8=>λ_ _=>Classical.propDecidable _
 |9=>λ_ _=>Classical.propDecidable _
 |10=>inferInstanceAs (DecidableEq Cm)
 |11=>inferInstanceAs (DecidableEq Ck)
 |12=>inferInstanceAs (DecidableEq Ah9)
 |13=>inferInstanceAs (DecidableEq Am)
 |14=>inferInstanceAs (DecidableEq Fk)
 |15=>inferInstanceAs (DecidableEq Ik)
 |16=>inferInstanceAs (DecidableEq A9)
 |17=>inferInstanceAs (DecidableEq Af)
 |18=>inferInstanceAs (DecidableEq Bv)
 |19=>inferInstanceAs (DecidableEq Ex)
 |20=>inferInstanceAs (DecidableEq B5)
 |_+21=>inferInstanceAs (DecidableEq Bool)
structure Au where
 store:(Option Nat)
 Cs:(Option Nat)
 Ah:List (Int×Int)
 Az:Int
 waits:(List Ch)
 calls:Int
structure Ap where
 m:(Option Nat)
 l:Ae
 live:List (Int×Bool)
 e:Int
structure Bd where
 vars:(List Int)
 level:(List Int)
structure Aa where
 levels:(Option Nat)
 Bs:(Option Nat)
 tables:(List (Option Nat))
 counts:(List Int)
 dead:Int
structure Ce where
 size:Int
 entries:Option (List B5)
 asked:Int
 found:Int
structure Az1 where
 m:(Option Nat)
structure Av where
 room:Int
 at_:(List Am)
 taken:(List Bool)
 free:(List Int)
 many:Int
structure Ay where
 ids:List (Af×Int)
@[reducible] def oD:Nat->Type
 |0=>Au
 |1=>Ap
 |2=>Bd
 |3=>Aa
 |4=>Ce
 |5=>Az1
 |6=>Av
 |7=>Ay
 |8=>Int
 |9=>Bool
 |10=>Int
 |11=>ByteArray
 |12=>Int
 |13=>Int
 |14=>(List Bi)
 |15=>(List Int)
 |16=>(List Ch)
 |17=>B0
 |18=>(List A6)
 |19=>A6
 |20=>(Option Nat)
 |21=>Ae
 |22=>Ai
 |23=>Bi
 |24=>(List Bool)
 |25=>(List Acy)
 |26=>(List Acx)
 |27=>U7
 |28=>(List (List Int))
 |29=>(List Cm)
 |30=>Cm
 |31=>Ch
 |32=>(List (Int×Int))
 |33=>(List ByteArray)
 |34=>(List (Int×Bool))
 |35=>(Option Nat)
 |36=>(List Ck)
 |37=>Ck
 |38=>(List (ByteArray×Int))
 |39=>(List Ai)
 |40=>Ah9
 |41=>(List (Option Nat))
 |42=>(List B5)
 |43=>Am
 |44=>Fk
 |45=>Ik
 |46=>(List Am)
 |47=>(List (Af×Int))
 |48=>(List A9)
 |49=>A9
 |50=>Int
 |51=>Af
 |52=>Bv
 |53=>Ex
 |54=>B5
 |55=>(List (Af×Bool))
 |56=>(List Af)
 |57=>Acy
 |58=>(List Xm)
 |59=>Xm
 |60=>Acx
 |_=>Unit
def A9j:Nat->List RK
 |0=>[.dat .ptr,.dat .ptr,.map (.int .i64) (.int .i64),.dat I6,.own (.u 1),.dat I6]
 |1=>[.dat .ptr,.dat (.sl (.u 0)),.dat (.sl I6),.dat (.sl I6),.map (.int .i64) .bool,.dat I6]
 |2=>[.own I6,.own I6]
 |3=>[.dat .ptr,.dat .ptr,.own .ptr,.own I6,.dat I6]
 |4=>[.dat I6,.ownO (.u 20),.dat I6,.dat I6]
 |5=>[.dat .ptr]
 |6=>[.dat I6,.own (.u 13),.own .bool,.own I6,.dat I6]
 |7=>[.map (.u 17) (.int .i64)]
 |8=>[.dat I6]
 |9=>[.dat .bool]
 |10=>[.dat (.int .u8)]
 |11=>[.dat .str]
 |12=>[.dat (.int .u64)]
 |13=>[.dat (.int .i32)]
 |14=>[.own (.u 0)]
 |15=>[.own I6]
 |16=>[.own (.u 1)]
 |17=>[.dat (.sl (.u 0)),.dat (.sl I6),.dat (.sl (.u 1))]
 |18=>[.own (.u 3)]
 |19=>[.dat I6,.dat I6,.dat .str,.dat (.sl (.u 3))]
 |20=>[.dat .ptr]
 |21=>[.dat (.sl (.u 0)),.dat (.sl I6),.dat (.sl I6)]
 |22=>[.dat .bool,.dat I6,.dat I6]
 |23=>[.dat .str,.dat .bool,.dat I6,.dat I6]
 |24=>[.own .bool]
 |25=>[.own (.u 6)]
 |26=>[.own (.u 8)]
 |27=>[.dat (.sl (.u 0)),.dat (.sl (.u 6)),.dat (.sl (.u 3)),.dat (.sl (.u 3)),.dat (.sl (.u 6)),.dat (.sl (.u 3)),.dat (.sl (.u 3)),.dat (.sl (.u 8))]
 |28=>[.own (.sl I6)]
 |29=>[.own (.u 10)]
 |30=>[.dat I6,.dat I6]
 |31=>[.dat I6,.dat I6,.dat I6]
 |32=>[.map (.int .i64) (.int .i64)]
 |33=>[.own .str]
 |34=>[.map (.int .i64) .bool]
 |35=>[.dat .mref]
 |36=>[.own (.u 11)]
 |37=>[.dat I6,.dat .bool]
 |38=>[.map .str (.int .i64)]
 |39=>[.own (.u 5)]
 |40=>[.dat I6,.dat I6]
 |41=>[.own .ptr]
 |42=>[.own (.u 20)]
 |43=>[.dat I6,.dat I6,.dat I6,.dat I6,.dat I6]
 |44=>[.dat .ptr]
 |45=>[.dat I6,.dat .bool,.dat I6,.dat I6,.dat I6]
 |46=>[.own (.u 13)]
 |47=>[.map (.u 17) (.int .i64)]
 |48=>[.own (.u 16)]
 |49=>[.dat I6,.dat I6,.dat I6,.dat I6,.dat I6,.dat I6,.dat I6,.dat I6,.dat I6]
 |50=>[.dat (.int .u32)]
 |51=>[.dat I6,.dat I6]
 |52=>[.dat I6,.dat I6,.dat I6]
 |53=>[.dat I6,.dat I6,.dat I6,.dat I6]
 |54=>[.dat I6,.dat I6,.dat I6,.dat I6,.dat I6,.dat .bool]
 |55=>[.map (.u 17) .bool]
 |56=>[.own (.u 17)]
 |57=>[.dat .str,.dat I6,.dat I6,.dat .str,.dat (.sl (.u 3))]
 |58=>[.own (.u 7)]
 |59=>[.dat I6,.dat I6,.dat I6,.dat .str,.dat (.sl (.u 3)),.dat (.sl (.u 7))]
 |60=>[.dat .str,.dat I6,.dat I6,.dat I6,.dat .str,.dat (.sl (.u 3)),.dat (.sl (.u 7))]
 |_=>[]
def oCl:(n:Nat)->oD n->List (OL uD)
 |0,x=>[.dat ⟨.ptr,x.store⟩,.dat ⟨.ptr,x.Cs⟩,.map (.int .i64) (.int .i64) x.Ah,.dat ⟨(.int .i64),x.Az⟩,.own (.u 1) x.waits,.dat ⟨(.int .i64),x.calls⟩]
 |1,x=>[.dat ⟨.ptr,x.m⟩,.dat ⟨(.sl (.u 0)),x.l.Ag⟩,.dat ⟨(.sl I6),x.l.Bits⟩,.dat ⟨(.sl I6),x.l.At⟩,.map (.int .i64) .bool x.live,.dat ⟨(.int .i64),x.e⟩]
 |2,x=>[.own I6 x.vars,.own I6 x.level]
 |3,x=>[.dat ⟨.ptr,x.levels⟩,.dat ⟨.ptr,x.Bs⟩,.own .ptr x.tables,.own I6 x.counts,.dat ⟨(.int .i64),x.dead⟩]
 |4,x=>[.dat ⟨(.int .i64),x.size⟩,.ownO (.u 20) x.entries,.dat ⟨(.int .i64),x.asked⟩,.dat ⟨(.int .i64),x.found⟩]
 |5,x=>[.dat ⟨.ptr,x.m⟩]
 |6,x=>[.dat ⟨(.int .i64),x.room⟩,.own (.u 13) x.at_,.own .bool x.taken,.own I6 x.free,.dat ⟨(.int .i64),x.many⟩]
 |7,x=>[.map (.u 17) (.int .i64) x.ids]
 |8,x=>[.dat ⟨(.int .i64),x⟩]
 |9,x=>[.dat ⟨.bool,x⟩]
 |10,x=>[.dat ⟨(.int .u8),x⟩]
 |11,x=>[.dat ⟨.str,x⟩]
 |12,x=>[.dat ⟨(.int .u64),x⟩]
 |13,x=>[.dat ⟨(.int .i32),x⟩]
 |14,x=>[.own (.u 0) x]
 |15,x=>[.own I6 x]
 |16,x=>[.own (.u 1) x]
 |17,x=>[.dat ⟨(.sl (.u 0)),x.Ag⟩,.dat ⟨(.sl I6),x.Order⟩,.dat ⟨(.sl (.u 1)),x.Hx⟩]
 |18,x=>[.own (.u 3) x]
 |19,x=>[.dat ⟨(.int .i64),x.Op⟩,.dat ⟨(.int .i64),x.N⟩,.dat ⟨.str,x.Name⟩,.dat ⟨(.sl (.u 3)),x.Kids⟩]
 |20,x=>[.dat ⟨.ptr,x⟩]
 |21,x=>[.dat ⟨(.sl (.u 0)),x.Ag⟩,.dat ⟨(.sl I6),x.Bits⟩,.dat ⟨(.sl I6),x.At⟩]
 |22,x=>[.dat ⟨.bool,x.Bool⟩,.dat ⟨(.int .i64),x.Lo⟩,.dat ⟨(.int .i64),x.Hi⟩]
 |23,x=>[.dat ⟨.str,x.Name⟩,.dat ⟨.bool,x.Bool⟩,.dat ⟨(.int .i64),x.Lo⟩,.dat ⟨(.int .i64),x.Hi⟩]
 |24,x=>[.own .bool x]
 |25,x=>[.own (.u 6) x]
 |26,x=>[.own (.u 8) x]
 |27,x=>[.dat ⟨(.sl (.u 0)),x.Ag⟩,.dat ⟨(.sl (.u 6)),x.Defs⟩,.dat ⟨(.sl (.u 3)),x.Init⟩,.dat ⟨(.sl (.u 3)),x.Az2⟩,.dat ⟨(.sl (.u 6)),x.Next⟩,.dat ⟨(.sl (.u 3)),x.Trans⟩,.dat ⟨(.sl (.u 3)),x.Fair⟩,.dat ⟨(.sl (.u 8)),x.Azx⟩]
 |28,x=>[.own (.sl I6) x]
 |29,x=>[.own (.u 10) x]
 |30,x=>[.dat ⟨(.int .i64),x.N⟩,.dat ⟨(.int .i64),x.H⟩]
 |31,x=>[.dat ⟨(.int .i64),x.Gx⟩,.dat ⟨(.int .i64),x.Kind⟩,.dat ⟨(.int .i64),x.Level⟩]
 |32,x=>[.map (.int .i64) (.int .i64) x]
 |33,x=>[.own .str x]
 |34,x=>[.map (.int .i64) .bool x]
 |35,x=>[.dat ⟨.mref,x⟩]
 |36,x=>[.own (.u 11) x]
 |37,x=>[.dat ⟨(.int .i64),x.Var⟩,.dat ⟨.bool,x.Yes⟩]
 |38,x=>[.map .str (.int .i64) x]
 |39,x=>[.own (.u 5) x]
 |40,x=>[.dat ⟨(.int .i64),x.a0⟩,.dat ⟨(.int .i64),x.a1⟩]
 |41,x=>[.own .ptr x]
 |42,x=>[.own (.u 20) x]
 |43,x=>[.dat ⟨(.int .i64),x.ID⟩,.dat ⟨(.int .i64),x.Var⟩,.dat ⟨(.int .i64),x.Lo⟩,.dat ⟨(.int .i64),x.Hi⟩,.dat ⟨(.int .i64),x.Refs⟩]
 |44,x=>[.dat ⟨.ptr,x.m⟩]
 |45,x=>[.dat ⟨(.int .i64),x.err⟩,.dat ⟨.bool,x.event⟩,.dat ⟨(.int .i64),x.ev.Gx⟩,.dat ⟨(.int .i64),x.ev.Kind⟩,.dat ⟨(.int .i64),x.ev.Level⟩]
 |46,x=>[.own (.u 13) x]
 |47,x=>[.map (.u 17) (.int .i64) x]
 |48,x=>[.own (.u 16) x]
 |49,x=>[.dat ⟨(.int .i64),x.n.ID⟩,.dat ⟨(.int .i64),x.n.Var⟩,.dat ⟨(.int .i64),x.n.Lo⟩,.dat ⟨(.int .i64),x.n.Hi⟩,.dat ⟨(.int .i64),x.n.Refs⟩,.dat ⟨(.int .i64),x.ll⟩,.dat ⟨(.int .i64),x.lh⟩,.dat ⟨(.int .i64),x.hl⟩,.dat ⟨(.int .i64),x.hh⟩]
 |50,x=>[.dat ⟨(.int .u32),x⟩]
 |51,x=>[.dat ⟨(.int .i64),x.a0⟩,.dat ⟨(.int .i64),x.a1⟩]
 |52,x=>[.dat ⟨(.int .i64),x.a0⟩,.dat ⟨(.int .i64),x.a1⟩,.dat ⟨(.int .i64),x.a2⟩]
 |53,x=>[.dat ⟨(.int .i64),x.op⟩,.dat ⟨(.int .i64),x.De.a0⟩,.dat ⟨(.int .i64),x.De.a1⟩,.dat ⟨(.int .i64),x.De.a2⟩]
 |54,x=>[.dat ⟨(.int .i64),x.key.op⟩,.dat ⟨(.int .i64),x.key.De.a0⟩,.dat ⟨(.int .i64),x.key.De.a1⟩,.dat ⟨(.int .i64),x.key.De.a2⟩,.dat ⟨(.int .i64),x.r⟩,.dat ⟨.bool,x.full⟩]
 |55,x=>[.map (.u 17) .bool x]
 |56,x=>[.own (.u 17) x]
 |57,x=>[.dat ⟨.str,x.Name⟩,.dat ⟨(.int .i64),x.E.Op⟩,.dat ⟨(.int .i64),x.E.N⟩,.dat ⟨.str,x.E.Name⟩,.dat ⟨(.sl (.u 3)),x.E.Kids⟩]
 |58,x=>[.own (.u 7) x]
 |59,x=>[.dat ⟨(.int .i64),x.Op⟩,.dat ⟨(.int .i64),x.E.Op⟩,.dat ⟨(.int .i64),x.E.N⟩,.dat ⟨.str,x.E.Name⟩,.dat ⟨(.sl (.u 3)),x.E.Kids⟩,.dat ⟨(.sl (.u 7)),x.Kids⟩]
 |60,x=>[.dat ⟨.str,x.Name⟩,.dat ⟨(.int .i64),x.F.Op⟩,.dat ⟨(.int .i64),x.F.E.Op⟩,.dat ⟨(.int .i64),x.F.E.N⟩,.dat ⟨.str,x.F.E.Name⟩,.dat ⟨(.sl (.u 3)),x.F.E.Kids⟩,.dat ⟨(.sl (.u 7)),x.F.Kids⟩]
 |_+61,_=>[]
def oUn:(n:Nat)->List (OL uD)->Option (oD n)
 |0,l0=>tkD .ptr l0 λv0 l1=>tkD .ptr l1 λv1 l2=>tkM (.int .i64) (.int .i64) l2 λv2 l3=>tkD (.int .i64) l3 λv3 l4=>tkO (.u 1) l4 λv4 l5=>tkD (.int .i64) l5 λv5 l6=>nlO l6 (some ⟨v0,v1,v2,v3,v4,v5⟩)
 |1,l0=>tkD .ptr l0 λv0 l1=>tkD (.sl (.u 0)) l1 λv1 l2=>tkD (.sl I6) l2 λv2 l3=>tkD (.sl I6) l3 λv3 l4=>tkM (.int .i64) .bool l4 λv4 l5=>tkD (.int .i64) l5 λv5 l6=>nlO l6 (some ⟨v0,⟨v1,v2,v3⟩,v4,v5⟩)
 |2,l0=>tkO (.int .i64) l0 λv0 l1=>tkO (.int .i64) l1 λv1 l2=>nlO l2 (some ⟨v0,v1⟩)
 |3,l0=>tkD .ptr l0 λv0 l1=>tkD .ptr l1 λv1 l2=>tkO .ptr l2 λv2 l3=>tkO (.int .i64) l3 λv3 l4=>tkD (.int .i64) l4 λv4 l5=>nlO l5 (some ⟨v0,v1,v2,v3,v4⟩)
 |4,l0=>tkD (.int .i64) l0 λv0 l1=>tkN (.u 20) l1 λv1 l2=>tkD (.int .i64) l2 λv2 l3=>tkD (.int .i64) l3 λv3 l4=>nlO l4 (some ⟨v0,v1,v2,v3⟩)
 |5,l0=>tkD .ptr l0 λv0 l1=>nlO l1 (some ⟨v0⟩)
 |6,l0=>tkD (.int .i64) l0 λv0 l1=>tkO (.u 13) l1 λv1 l2=>tkO .bool l2 λv2 l3=>tkO (.int .i64) l3 λv3 l4=>tkD (.int .i64) l4 λv4 l5=>nlO l5 (some ⟨v0,v1,v2,v3,v4⟩)
 |7,l0=>tkM (.u 17) (.int .i64) l0 λv0 l1=>nlO l1 (some ⟨v0⟩)
 |8,l0=>tkD (.int .i64) l0 λv0 l1=>nlO l1 (some v0)
 |9,l0=>tkD .bool l0 λv0 l1=>nlO l1 (some v0)
 |10,l0=>tkD (.int .u8) l0 λv0 l1=>nlO l1 (some v0)
 |11,l0=>tkD .str l0 λv0 l1=>nlO l1 (some v0)
 |12,l0=>tkD (.int .u64) l0 λv0 l1=>nlO l1 (some v0)
 |13,l0=>tkD (.int .i32) l0 λv0 l1=>nlO l1 (some v0)
 |14,l0=>tkO (.u 0) l0 λv0 l1=>nlO l1 (some v0)
 |15,l0=>tkO (.int .i64) l0 λv0 l1=>nlO l1 (some v0)
 |16,l0=>tkO (.u 1) l0 λv0 l1=>nlO l1 (some v0)
 |17,l0=>tkD (.sl (.u 0)) l0 λv0 l1=>tkD (.sl I6) l1 λv1 l2=>tkD (.sl (.u 1)) l2 λv2 l3=>nlO l3 (some ⟨v0,v1,v2⟩)
 |18,l0=>tkO (.u 3) l0 λv0 l1=>nlO l1 (some v0)
 |19,l0=>tkD (.int .i64) l0 λv0 l1=>tkD (.int .i64) l1 λv1 l2=>tkD .str l2 λv2 l3=>tkD (.sl (.u 3)) l3 λv3 l4=>nlO l4 (some ⟨v0,v1,v2,v3⟩)
 |20,l0=>tkD .ptr l0 λv0 l1=>nlO l1 (some v0)
 |21,l0=>tkD (.sl (.u 0)) l0 λv0 l1=>tkD (.sl I6) l1 λv1 l2=>tkD (.sl I6) l2 λv2 l3=>nlO l3 (some ⟨v0,v1,v2⟩)
 |22,l0=>tkD .bool l0 λv0 l1=>tkD (.int .i64) l1 λv1 l2=>tkD (.int .i64) l2 λv2 l3=>nlO l3 (some ⟨v0,v1,v2⟩)
 |23,l0=>tkD .str l0 λv0 l1=>tkD .bool l1 λv1 l2=>tkD (.int .i64) l2 λv2 l3=>tkD (.int .i64) l3 λv3 l4=>nlO l4 (some ⟨v0,v1,v2,v3⟩)
 |24,l0=>tkO .bool l0 λv0 l1=>nlO l1 (some v0)
 |25,l0=>tkO (.u 6) l0 λv0 l1=>nlO l1 (some v0)
 |26,l0=>tkO (.u 8) l0 λv0 l1=>nlO l1 (some v0)
 |27,l0=>tkD (.sl (.u 0)) l0 λv0 l1=>tkD (.sl (.u 6)) l1 λv1 l2=>tkD (.sl (.u 3)) l2 λv2 l3=>tkD (.sl (.u 3)) l3 λv3 l4=>tkD (.sl (.u 6)) l4 λv4 l5=>tkD (.sl (.u 3)) l5 λv5 l6=>tkD (.sl (.u 3)) l6 λv6 l7=>tkD (.sl (.u 8)) l7 λv7 l8=>nlO l8 (some ⟨v0,v1,v2,v3,v4,v5,v6,v7⟩)
 |28,l0=>tkO (.sl I6) l0 λv0 l1=>nlO l1 (some v0)
 |29,l0=>tkO (.u 10) l0 λv0 l1=>nlO l1 (some v0)
 |30,l0=>tkD (.int .i64) l0 λv0 l1=>tkD (.int .i64) l1 λv1 l2=>nlO l2 (some ⟨v0,v1⟩)
 |31,l0=>tkD (.int .i64) l0 λv0 l1=>tkD (.int .i64) l1 λv1 l2=>tkD (.int .i64) l2 λv2 l3=>nlO l3 (some ⟨v0,v1,v2⟩)
 |32,l0=>tkM (.int .i64) (.int .i64) l0 λv0 l1=>nlO l1 (some v0)
 |33,l0=>tkO .str l0 λv0 l1=>nlO l1 (some v0)
 |34,l0=>tkM (.int .i64) .bool l0 λv0 l1=>nlO l1 (some v0)
 |35,l0=>tkD .mref l0 λv0 l1=>nlO l1 (some v0)
 |36,l0=>tkO (.u 11) l0 λv0 l1=>nlO l1 (some v0)
 |37,l0=>tkD (.int .i64) l0 λv0 l1=>tkD .bool l1 λv1 l2=>nlO l2 (some ⟨v0,v1⟩)
 |38,l0=>tkM .str (.int .i64) l0 λv0 l1=>nlO l1 (some v0)
 |39,l0=>tkO (.u 5) l0 λv0 l1=>nlO l1 (some v0)
 |40,l0=>tkD (.int .i64) l0 λv0 l1=>tkD (.int .i64) l1 λv1 l2=>nlO l2 (some ⟨v0,v1⟩)
 |41,l0=>tkO .ptr l0 λv0 l1=>nlO l1 (some v0)
 |42,l0=>tkO (.u 20) l0 λv0 l1=>nlO l1 (some v0)
 |43,l0=>tkD (.int .i64) l0 λv0 l1=>tkD (.int .i64) l1 λv1 l2=>tkD (.int .i64) l2 λv2 l3=>tkD (.int .i64) l3 λv3 l4=>tkD (.int .i64) l4 λv4 l5=>nlO l5 (some ⟨v0,v1,v2,v3,v4⟩)
 |44,l0=>tkD .ptr l0 λv0 l1=>nlO l1 (some ⟨v0⟩)
 |45,l0=>tkD (.int .i64) l0 λv0 l1=>tkD .bool l1 λv1 l2=>tkD (.int .i64) l2 λv2 l3=>tkD (.int .i64) l3 λv3 l4=>tkD (.int .i64) l4 λv4 l5=>nlO l5 (some ⟨v0,v1,⟨v2,v3,v4⟩⟩)
 |46,l0=>tkO (.u 13) l0 λv0 l1=>nlO l1 (some v0)
 |47,l0=>tkM (.u 17) (.int .i64) l0 λv0 l1=>nlO l1 (some v0)
 |48,l0=>tkO (.u 16) l0 λv0 l1=>nlO l1 (some v0)
 |49,l0=>tkD (.int .i64) l0 λv0 l1=>tkD (.int .i64) l1 λv1 l2=>tkD (.int .i64) l2 λv2 l3=>tkD (.int .i64) l3 λv3 l4=>tkD (.int .i64) l4 λv4 l5=>tkD (.int .i64) l5 λv5 l6=>tkD (.int .i64) l6 λv6 l7=>tkD (.int .i64) l7 λv7 l8=>tkD (.int .i64) l8 λv8 l9=>nlO l9 (some ⟨⟨v0,v1,v2,v3,v4⟩,v5,v6,v7,v8⟩)
 |50,l0=>tkD (.int .u32) l0 λv0 l1=>nlO l1 (some v0)
 |51,l0=>tkD (.int .i64) l0 λv0 l1=>tkD (.int .i64) l1 λv1 l2=>nlO l2 (some ⟨v0,v1⟩)
 |52,l0=>tkD (.int .i64) l0 λv0 l1=>tkD (.int .i64) l1 λv1 l2=>tkD (.int .i64) l2 λv2 l3=>nlO l3 (some ⟨v0,v1,v2⟩)
 |53,l0=>tkD (.int .i64) l0 λv0 l1=>tkD (.int .i64) l1 λv1 l2=>tkD (.int .i64) l2 λv2 l3=>tkD (.int .i64) l3 λv3 l4=>nlO l4 (some ⟨v0,⟨v1,v2,v3⟩⟩)
 |54,l0=>tkD (.int .i64) l0 λv0 l1=>tkD (.int .i64) l1 λv1 l2=>tkD (.int .i64) l2 λv2 l3=>tkD (.int .i64) l3 λv3 l4=>tkD (.int .i64) l4 λv4 l5=>tkD .bool l5 λv5 l6=>nlO l6 (some ⟨⟨v0,⟨v1,v2,v3⟩⟩,v4,v5⟩)
 |55,l0=>tkM (.u 17) .bool l0 λv0 l1=>nlO l1 (some v0)
 |56,l0=>tkO (.u 17) l0 λv0 l1=>nlO l1 (some v0)
 |57,l0=>tkD .str l0 λv0 l1=>tkD (.int .i64) l1 λv1 l2=>tkD (.int .i64) l2 λv2 l3=>tkD .str l3 λv3 l4=>tkD (.sl (.u 3)) l4 λv4 l5=>nlO l5 (some ⟨v0,⟨v1,v2,v3,v4⟩⟩)
 |58,l0=>tkO (.u 7) l0 λv0 l1=>nlO l1 (some v0)
 |59,l0=>tkD (.int .i64) l0 λv0 l1=>tkD (.int .i64) l1 λv1 l2=>tkD (.int .i64) l2 λv2 l3=>tkD .str l3 λv3 l4=>tkD (.sl (.u 3)) l4 λv4 l5=>tkD (.sl (.u 7)) l5 λv5 l6=>nlO l6 (some ⟨v0,⟨v1,v2,v3,v4⟩,v5⟩)
 |60,l0=>tkD .str l0 λv0 l1=>tkD (.int .i64) l1 λv1 l2=>tkD (.int .i64) l2 λv2 l3=>tkD (.int .i64) l3 λv3 l4=>tkD .str l4 λv4 l5=>tkD (.sl (.u 3)) l5 λv5 l6=>tkD (.sl (.u 7)) l6 λv6 l7=>nlO l7 (some ⟨v0,⟨v1,⟨v2,v3,v4,v5⟩,v6⟩⟩)
 |_+61,l0=>nlO l0 (some ())
theorem A77:∀n l x,oUn n l=some x->oCl n x=l
 |0,l0,x,h0=>by simp only[oUn]at h0;obtain⟨v0,l1,e0,h1⟩:=Ar h0;subst e0;obtain⟨v1,l2,e1,h2⟩:=Ar h1;subst e1;obtain⟨v2,l3,e2,h3⟩:=Wc h2;subst e2;obtain⟨v3,l4,e3,h4⟩:=Ar h3;subst e3;obtain⟨v4,l5,e4,h5⟩:=Fp h4;subst e4;obtain⟨v5,l6,e5,h6⟩:=Ar h5;subst e5;obtain⟨e,h⟩:=Br h6;subst e;cases h;rfl
 |1,l0,x,h0=>by simp only[oUn]at h0;obtain⟨v0,l1,e0,h1⟩:=Ar h0;subst e0;obtain⟨v1,l2,e1,h2⟩:=Ar h1;subst e1;obtain⟨v2,l3,e2,h3⟩:=Ar h2;subst e2;obtain⟨v3,l4,e3,h4⟩:=Ar h3;subst e3;obtain⟨v4,l5,e4,h5⟩:=Wc h4;subst e4;obtain⟨v5,l6,e5,h6⟩:=Ar h5;subst e5;obtain⟨e,h⟩:=Br h6;subst e;cases h;rfl
 |2,l0,x,h0=>by simp only[oUn]at h0;obtain⟨v0,l1,e0,h1⟩:=Fp h0;subst e0;obtain⟨v1,l2,e1,h2⟩:=Fp h1;subst e1;obtain⟨e,h⟩:=Br h2;subst e;cases h;rfl
 |3,l0,x,h0=>by simp only[oUn]at h0;obtain⟨v0,l1,e0,h1⟩:=Ar h0;subst e0;obtain⟨v1,l2,e1,h2⟩:=Ar h1;subst e1;obtain⟨v2,l3,e2,h3⟩:=Fp h2;subst e2;obtain⟨v3,l4,e3,h4⟩:=Fp h3;subst e3;obtain⟨v4,l5,e4,h5⟩:=Ar h4;subst e4;obtain⟨e,h⟩:=Br h5;subst e;cases h;rfl
 |4,l0,x,h0=>by simp only[oUn]at h0;obtain⟨v0,l1,e0,h1⟩:=Ar h0;subst e0;obtain⟨v1,l2,e1,h2⟩:=A3w h1;subst e1;obtain⟨v2,l3,e2,h3⟩:=Ar h2;subst e2;obtain⟨v3,l4,e3,h4⟩:=Ar h3;subst e3;obtain⟨e,h⟩:=Br h4;subst e;cases h;rfl
 |5,l0,x,h0=>by simp only[oUn]at h0;obtain⟨v0,l1,e0,h1⟩:=Ar h0;subst e0;obtain⟨e,h⟩:=Br h1;subst e;cases h;rfl
 |6,l0,x,h0=>by simp only[oUn]at h0;obtain⟨v0,l1,e0,h1⟩:=Ar h0;subst e0;obtain⟨v1,l2,e1,h2⟩:=Fp h1;subst e1;obtain⟨v2,l3,e2,h3⟩:=Fp h2;subst e2;obtain⟨v3,l4,e3,h4⟩:=Fp h3;subst e3;obtain⟨v4,l5,e4,h5⟩:=Ar h4;subst e4;obtain⟨e,h⟩:=Br h5;subst e;cases h;rfl
 |7,l0,x,h0=>by simp only[oUn]at h0;obtain⟨v0,l1,e0,h1⟩:=Wc h0;subst e0;obtain⟨e,h⟩:=Br h1;subst e;cases h;rfl
 |8,l0,x,h0=>by simp only[oUn]at h0;obtain⟨v0,l1,e0,h1⟩:=Ar h0;subst e0;obtain⟨e,h⟩:=Br h1;subst e;cases h;rfl
 |9,l0,x,h0=>by simp only[oUn]at h0;obtain⟨v0,l1,e0,h1⟩:=Ar h0;subst e0;obtain⟨e,h⟩:=Br h1;subst e;cases h;rfl
 |10,l0,x,h0=>by simp only[oUn]at h0;obtain⟨v0,l1,e0,h1⟩:=Ar h0;subst e0;obtain⟨e,h⟩:=Br h1;subst e;cases h;rfl
 |11,l0,x,h0=>by simp only[oUn]at h0;obtain⟨v0,l1,e0,h1⟩:=Ar h0;subst e0;obtain⟨e,h⟩:=Br h1;subst e;cases h;rfl
 |12,l0,x,h0=>by simp only[oUn]at h0;obtain⟨v0,l1,e0,h1⟩:=Ar h0;subst e0;obtain⟨e,h⟩:=Br h1;subst e;cases h;rfl
 |13,l0,x,h0=>by simp only[oUn]at h0;obtain⟨v0,l1,e0,h1⟩:=Ar h0;subst e0;obtain⟨e,h⟩:=Br h1;subst e;cases h;rfl
 |14,l0,x,h0=>by simp only[oUn]at h0;obtain⟨v0,l1,e0,h1⟩:=Fp h0;subst e0;obtain⟨e,h⟩:=Br h1;subst e;cases h;rfl
 |15,l0,x,h0=>by simp only[oUn]at h0;obtain⟨v0,l1,e0,h1⟩:=Fp h0;subst e0;obtain⟨e,h⟩:=Br h1;subst e;cases h;rfl
 |16,l0,x,h0=>by simp only[oUn]at h0;obtain⟨v0,l1,e0,h1⟩:=Fp h0;subst e0;obtain⟨e,h⟩:=Br h1;subst e;cases h;rfl
 |17,l0,x,h0=>by simp only[oUn]at h0;obtain⟨v0,l1,e0,h1⟩:=Ar h0;subst e0;obtain⟨v1,l2,e1,h2⟩:=Ar h1;subst e1;obtain⟨v2,l3,e2,h3⟩:=Ar h2;subst e2;obtain⟨e,h⟩:=Br h3;subst e;cases h;rfl
 |18,l0,x,h0=>by simp only[oUn]at h0;obtain⟨v0,l1,e0,h1⟩:=Fp h0;subst e0;obtain⟨e,h⟩:=Br h1;subst e;cases h;rfl
 |19,l0,x,h0=>by simp only[oUn]at h0;obtain⟨v0,l1,e0,h1⟩:=Ar h0;subst e0;obtain⟨v1,l2,e1,h2⟩:=Ar h1;subst e1;obtain⟨v2,l3,e2,h3⟩:=Ar h2;subst e2;obtain⟨v3,l4,e3,h4⟩:=Ar h3;subst e3;obtain⟨e,h⟩:=Br h4;subst e;cases h;rfl
 |20,l0,x,h0=>by simp only[oUn]at h0;obtain⟨v0,l1,e0,h1⟩:=Ar h0;subst e0;obtain⟨e,h⟩:=Br h1;subst e;cases h;rfl
 |21,l0,x,h0=>by simp only[oUn]at h0;obtain⟨v0,l1,e0,h1⟩:=Ar h0;subst e0;obtain⟨v1,l2,e1,h2⟩:=Ar h1;subst e1;obtain⟨v2,l3,e2,h3⟩:=Ar h2;subst e2;obtain⟨e,h⟩:=Br h3;subst e;cases h;rfl
 |22,l0,x,h0=>by simp only[oUn]at h0;obtain⟨v0,l1,e0,h1⟩:=Ar h0;subst e0;obtain⟨v1,l2,e1,h2⟩:=Ar h1;subst e1;obtain⟨v2,l3,e2,h3⟩:=Ar h2;subst e2;obtain⟨e,h⟩:=Br h3;subst e;cases h;rfl
 |23,l0,x,h0=>by simp only[oUn]at h0;obtain⟨v0,l1,e0,h1⟩:=Ar h0;subst e0;obtain⟨v1,l2,e1,h2⟩:=Ar h1;subst e1;obtain⟨v2,l3,e2,h3⟩:=Ar h2;subst e2;obtain⟨v3,l4,e3,h4⟩:=Ar h3;subst e3;obtain⟨e,h⟩:=Br h4;subst e;cases h;rfl
 |24,l0,x,h0=>by simp only[oUn]at h0;obtain⟨v0,l1,e0,h1⟩:=Fp h0;subst e0;obtain⟨e,h⟩:=Br h1;subst e;cases h;rfl
 |25,l0,x,h0=>by simp only[oUn]at h0;obtain⟨v0,l1,e0,h1⟩:=Fp h0;subst e0;obtain⟨e,h⟩:=Br h1;subst e;cases h;rfl
 |26,l0,x,h0=>by simp only[oUn]at h0;obtain⟨v0,l1,e0,h1⟩:=Fp h0;subst e0;obtain⟨e,h⟩:=Br h1;subst e;cases h;rfl
 |27,l0,x,h0=>by simp only[oUn]at h0;obtain⟨v0,l1,e0,h1⟩:=Ar h0;subst e0;obtain⟨v1,l2,e1,h2⟩:=Ar h1;subst e1;obtain⟨v2,l3,e2,h3⟩:=Ar h2;subst e2;obtain⟨v3,l4,e3,h4⟩:=Ar h3;subst e3;obtain⟨v4,l5,e4,h5⟩:=Ar h4;subst e4;obtain⟨v5,l6,e5,h6⟩:=Ar h5;subst e5;obtain⟨v6,l7,e6,h7⟩:=Ar h6;subst e6;obtain⟨v7,l8,e7,h8⟩:=Ar h7;subst e7;obtain⟨e,h⟩:=Br h8;subst e;cases h;rfl
 |28,l0,x,h0=>by simp only[oUn]at h0;obtain⟨v0,l1,e0,h1⟩:=Fp h0;subst e0;obtain⟨e,h⟩:=Br h1;subst e;cases h;rfl
 |29,l0,x,h0=>by simp only[oUn]at h0;obtain⟨v0,l1,e0,h1⟩:=Fp h0;subst e0;obtain⟨e,h⟩:=Br h1;subst e;cases h;rfl
 |30,l0,x,h0=>by simp only[oUn]at h0;obtain⟨v0,l1,e0,h1⟩:=Ar h0;subst e0;obtain⟨v1,l2,e1,h2⟩:=Ar h1;subst e1;obtain⟨e,h⟩:=Br h2;subst e;cases h;rfl
 |31,l0,x,h0=>by simp only[oUn]at h0;obtain⟨v0,l1,e0,h1⟩:=Ar h0;subst e0;obtain⟨v1,l2,e1,h2⟩:=Ar h1;subst e1;obtain⟨v2,l3,e2,h3⟩:=Ar h2;subst e2;obtain⟨e,h⟩:=Br h3;subst e;cases h;rfl
 |32,l0,x,h0=>by simp only[oUn]at h0;obtain⟨v0,l1,e0,h1⟩:=Wc h0;subst e0;obtain⟨e,h⟩:=Br h1;subst e;cases h;rfl
 |33,l0,x,h0=>by simp only[oUn]at h0;obtain⟨v0,l1,e0,h1⟩:=Fp h0;subst e0;obtain⟨e,h⟩:=Br h1;subst e;cases h;rfl
 |34,l0,x,h0=>by simp only[oUn]at h0;obtain⟨v0,l1,e0,h1⟩:=Wc h0;subst e0;obtain⟨e,h⟩:=Br h1;subst e;cases h;rfl
 |35,l0,x,h0=>by simp only[oUn]at h0;obtain⟨v0,l1,e0,h1⟩:=Ar h0;subst e0;obtain⟨e,h⟩:=Br h1;subst e;cases h;rfl
 |36,l0,x,h0=>by simp only[oUn]at h0;obtain⟨v0,l1,e0,h1⟩:=Fp h0;subst e0;obtain⟨e,h⟩:=Br h1;subst e;cases h;rfl
 |37,l0,x,h0=>by simp only[oUn]at h0;obtain⟨v0,l1,e0,h1⟩:=Ar h0;subst e0;obtain⟨v1,l2,e1,h2⟩:=Ar h1;subst e1;obtain⟨e,h⟩:=Br h2;subst e;cases h;rfl
 |38,l0,x,h0=>by simp only[oUn]at h0;obtain⟨v0,l1,e0,h1⟩:=Wc h0;subst e0;obtain⟨e,h⟩:=Br h1;subst e;cases h;rfl
 |39,l0,x,h0=>by simp only[oUn]at h0;obtain⟨v0,l1,e0,h1⟩:=Fp h0;subst e0;obtain⟨e,h⟩:=Br h1;subst e;cases h;rfl
 |40,l0,x,h0=>by simp only[oUn]at h0;obtain⟨v0,l1,e0,h1⟩:=Ar h0;subst e0;obtain⟨v1,l2,e1,h2⟩:=Ar h1;subst e1;obtain⟨e,h⟩:=Br h2;subst e;cases h;rfl
 |41,l0,x,h0=>by simp only[oUn]at h0;obtain⟨v0,l1,e0,h1⟩:=Fp h0;subst e0;obtain⟨e,h⟩:=Br h1;subst e;cases h;rfl
 |42,l0,x,h0=>by simp only[oUn]at h0;obtain⟨v0,l1,e0,h1⟩:=Fp h0;subst e0;obtain⟨e,h⟩:=Br h1;subst e;cases h;rfl
 |43,l0,x,h0=>by simp only[oUn]at h0;obtain⟨v0,l1,e0,h1⟩:=Ar h0;subst e0;obtain⟨v1,l2,e1,h2⟩:=Ar h1;subst e1;obtain⟨v2,l3,e2,h3⟩:=Ar h2;subst e2;obtain⟨v3,l4,e3,h4⟩:=Ar h3;subst e3;obtain⟨v4,l5,e4,h5⟩:=Ar h4;subst e4;obtain⟨e,h⟩:=Br h5;subst e;cases h;rfl
 |44,l0,x,h0=>by simp only[oUn]at h0;obtain⟨v0,l1,e0,h1⟩:=Ar h0;subst e0;obtain⟨e,h⟩:=Br h1;subst e;cases h;rfl
 |45,l0,x,h0=>by simp only[oUn]at h0;obtain⟨v0,l1,e0,h1⟩:=Ar h0;subst e0;obtain⟨v1,l2,e1,h2⟩:=Ar h1;subst e1;obtain⟨v2,l3,e2,h3⟩:=Ar h2;subst e2;obtain⟨v3,l4,e3,h4⟩:=Ar h3;subst e3;obtain⟨v4,l5,e4,h5⟩:=Ar h4;subst e4;obtain⟨e,h⟩:=Br h5;subst e;cases h;rfl
 |46,l0,x,h0=>by simp only[oUn]at h0;obtain⟨v0,l1,e0,h1⟩:=Fp h0;subst e0;obtain⟨e,h⟩:=Br h1;subst e;cases h;rfl
 |47,l0,x,h0=>by simp only[oUn]at h0;obtain⟨v0,l1,e0,h1⟩:=Wc h0;subst e0;obtain⟨e,h⟩:=Br h1;subst e;cases h;rfl
 |48,l0,x,h0=>by simp only[oUn]at h0;obtain⟨v0,l1,e0,h1⟩:=Fp h0;subst e0;obtain⟨e,h⟩:=Br h1;subst e;cases h;rfl
 |49,l0,x,h0=>by simp only[oUn]at h0;obtain⟨v0,l1,e0,h1⟩:=Ar h0;subst e0;obtain⟨v1,l2,e1,h2⟩:=Ar h1;subst e1;obtain⟨v2,l3,e2,h3⟩:=Ar h2;subst e2;obtain⟨v3,l4,e3,h4⟩:=Ar h3;subst e3;obtain⟨v4,l5,e4,h5⟩:=Ar h4;subst e4;obtain⟨v5,l6,e5,h6⟩:=Ar h5;subst e5;obtain⟨v6,l7,e6,h7⟩:=Ar h6;subst e6;obtain⟨v7,l8,e7,h8⟩:=Ar h7;subst e7;obtain⟨v8,l9,e8,h9⟩:=Ar h8;subst e8;obtain⟨e,h⟩:=Br h9;subst e;cases h;rfl
 |50,l0,x,h0=>by simp only[oUn]at h0;obtain⟨v0,l1,e0,h1⟩:=Ar h0;subst e0;obtain⟨e,h⟩:=Br h1;subst e;cases h;rfl
 |51,l0,x,h0=>by simp only[oUn]at h0;obtain⟨v0,l1,e0,h1⟩:=Ar h0;subst e0;obtain⟨v1,l2,e1,h2⟩:=Ar h1;subst e1;obtain⟨e,h⟩:=Br h2;subst e;cases h;rfl
 |52,l0,x,h0=>by simp only[oUn]at h0;obtain⟨v0,l1,e0,h1⟩:=Ar h0;subst e0;obtain⟨v1,l2,e1,h2⟩:=Ar h1;subst e1;obtain⟨v2,l3,e2,h3⟩:=Ar h2;subst e2;obtain⟨e,h⟩:=Br h3;subst e;cases h;rfl
 |53,l0,x,h0=>by simp only[oUn]at h0;obtain⟨v0,l1,e0,h1⟩:=Ar h0;subst e0;obtain⟨v1,l2,e1,h2⟩:=Ar h1;subst e1;obtain⟨v2,l3,e2,h3⟩:=Ar h2;subst e2;obtain⟨v3,l4,e3,h4⟩:=Ar h3;subst e3;obtain⟨e,h⟩:=Br h4;subst e;cases h;rfl
 |54,l0,x,h0=>by simp only[oUn]at h0;obtain⟨v0,l1,e0,h1⟩:=Ar h0;subst e0;obtain⟨v1,l2,e1,h2⟩:=Ar h1;subst e1;obtain⟨v2,l3,e2,h3⟩:=Ar h2;subst e2;obtain⟨v3,l4,e3,h4⟩:=Ar h3;subst e3;obtain⟨v4,l5,e4,h5⟩:=Ar h4;subst e4;obtain⟨v5,l6,e5,h6⟩:=Ar h5;subst e5;obtain⟨e,h⟩:=Br h6;subst e;cases h;rfl
 |55,l0,x,h0=>by simp only[oUn]at h0;obtain⟨v0,l1,e0,h1⟩:=Wc h0;subst e0;obtain⟨e,h⟩:=Br h1;subst e;cases h;rfl
 |56,l0,x,h0=>by simp only[oUn]at h0;obtain⟨v0,l1,e0,h1⟩:=Fp h0;subst e0;obtain⟨e,h⟩:=Br h1;subst e;cases h;rfl
 |57,l0,x,h0=>by simp only[oUn]at h0;obtain⟨v0,l1,e0,h1⟩:=Ar h0;subst e0;obtain⟨v1,l2,e1,h2⟩:=Ar h1;subst e1;obtain⟨v2,l3,e2,h3⟩:=Ar h2;subst e2;obtain⟨v3,l4,e3,h4⟩:=Ar h3;subst e3;obtain⟨v4,l5,e4,h5⟩:=Ar h4;subst e4;obtain⟨e,h⟩:=Br h5;subst e;cases h;rfl
 |58,l0,x,h0=>by simp only[oUn]at h0;obtain⟨v0,l1,e0,h1⟩:=Fp h0;subst e0;obtain⟨e,h⟩:=Br h1;subst e;cases h;rfl
 |59,l0,x,h0=>by simp only[oUn]at h0;obtain⟨v0,l1,e0,h1⟩:=Ar h0;subst e0;obtain⟨v1,l2,e1,h2⟩:=Ar h1;subst e1;obtain⟨v2,l3,e2,h3⟩:=Ar h2;subst e2;obtain⟨v3,l4,e3,h4⟩:=Ar h3;subst e3;obtain⟨v4,l5,e4,h5⟩:=Ar h4;subst e4;obtain⟨v5,l6,e5,h6⟩:=Ar h5;subst e5;obtain⟨e,h⟩:=Br h6;subst e;cases h;rfl
 |60,l0,x,h0=>by simp only[oUn]at h0;obtain⟨v0,l1,e0,h1⟩:=Ar h0;subst e0;obtain⟨v1,l2,e1,h2⟩:=Ar h1;subst e1;obtain⟨v2,l3,e2,h3⟩:=Ar h2;subst e2;obtain⟨v3,l4,e3,h4⟩:=Ar h3;subst e3;obtain⟨v4,l5,e4,h5⟩:=Ar h4;subst e4;obtain⟨v5,l6,e5,h6⟩:=Ar h5;subst e5;obtain⟨v6,l7,e6,h7⟩:=Ar h6;subst e6;obtain⟨e,h⟩:=Br h7;subst e;cases h;rfl
 |_+61,l0,x,h0=>by obtain⟨e,h⟩:=Br h0;subst e;rfl
def okL:List (Option Nat):=[none,none,some 8,some 8,some 9,some 10,none,none,none,some 11,none,none,some 12,none,none,none,none,none,none,none,none,some 13,some 14,some 15,some 16,some 17,some 17,some 18,some 19,some 19,none,none,none,some 20,some 21,some 21,none,none,some 8,none,none,some 22,some 22,none,none,none,none,none,none,none,none,none,some 23,some 23,some 24,none,none,none,none,none,none,some 25,some 26,some 27,some 27,none,none,none,none,some 28,none,none,none,none,some 29,none,none,some 30,some 30,none,none,none,none,none,none,none,some 31,some 31,none,none,none,none,some 20,none,none,none,none,none,none,some 20,some 20,some 32,some 0,some 0,none,some 33,none,none,none,none,none,none,none,none,some 34,some 1,some 1,none,none,none,none,none,some 35,none,none,none,none,none,none,none,none,none,none,none,some 36,some 37,some 37,none,none,none,some 8,none,none,none,none,none,none,none,none,none,none,none,none,none,none,some 38,none,none,none,none,none,none,none,none,none,some 39,none,none,none,none,none,none,some 20,none,none,none,none,none,some 40,none,none,none,none,some 12,none,none,none,none,none,none,none,none,some 20,none,none,some 20,some 2,some 2,some 41,some 3,some 3,some 20,none,some 42,some 4,some 4,none,none,none,none,none,none,none,none,none,none,none,none,none,none,none,none,some 43,some 43,none,none,none,none,some 44,some 44,some 45,some 45,none,none,none,none,none,some 12,none,none,none,none,none,none,none,some 46,some 6,some 6,some 47,some 7,some 7,none,none,none,some 48,none,none,none,some 49,some 49,none,none,none,none,none,none,none,none,none,none,none,none,none,none,none,none,none,none,some 8,none,none,none,none,none,none,some 50,none,none,some 51,some 52,some 53,some 53,some 20,none,some 54,some 54,some 15,none,none,none,none,none,none,none,some 55,some 56,none,none,none,none,some 12,none,none,none,some 20,none,none,none,none,none,none,none,none,none,none,some 20,none,none,none,none,none,none,none,none,none,none,none,none,none,none,none,none,none,none,none,none,some 20,none,none,none,none,some 57,some 57,some 58,some 59,some 59,some 60,some 60,none]
def tyL:List (Option Ty):=[none,none,some (.int .i64),some (.int .i64),some .bool,some (.int .u8),none,none,none,some .str,none,none,some (.int .u64),none,none,none,none,none,none,none,none,some (.int .i32),some (.sl (.u 0)),some (.sl I6),some (.sl (.u 1)),some (.u 2),some (.u 2),some (.sl (.u 3)),some (.u 3),some (.u 3),none,none,none,some .ptr,some (.u 4),some (.u 4),none,none,some (.int .i64),none,none,some (.u 5),some (.u 5),none,none,none,none,none,none,none,none,none,some (.u 0),some (.u 0),some (.sl .bool),none,none,none,none,none,none,some (.sl (.u 6)),some (.sl (.u 8)),some (.u 9),some (.u 9),none,none,none,none,some (.sl (.sl I6)),none,none,none,none,some (.sl (.u 10)),none,none,some (.u 10),some (.u 10),none,none,none,none,none,none,none,some (.u 1),some (.u 1),none,none,none,none,some .ptr,none,none,none,none,none,none,some .ptr,some .ptr,none,none,none,none,some (.sl .str),none,none,none,none,none,none,none,none,none,none,none,none,none,none,none,none,some .mref,none,none,none,none,none,none,none,none,none,none,none,some (.sl (.u 11)),some (.u 11),some (.u 11),none,none,none,some (.int .i64),none,none,none,none,none,none,none,none,none,none,none,none,none,none,none,none,none,none,none,none,none,none,none,none,some (.sl (.u 5)),none,none,none,none,none,none,some .ptr,none,none,none,none,none,some (.u 12),none,none,none,none,some (.int .u64),none,none,none,none,none,none,none,none,some .ptr,none,none,some .ptr,none,none,some (.sl .ptr),none,none,some .ptr,none,some (.sl (.u 20)),none,none,none,none,none,none,none,none,none,none,none,none,none,none,none,none,none,none,some (.u 13),some (.u 13),none,none,none,none,some (.u 14),some (.u 14),some (.u 15),some (.u 15),none,none,none,none,none,some (.int .u64),none,none,none,none,none,none,none,some (.sl (.u 13)),none,none,none,none,none,none,none,none,some (.sl (.u 16)),none,none,none,some (.u 16),some (.u 16),none,none,none,none,none,none,none,none,none,none,none,none,none,none,none,none,none,none,some (.int .i64),none,none,none,none,none,none,some (.int .u32),none,none,some (.u 17),some (.u 18),some (.u 19),some (.u 19),some .ptr,none,some (.u 20),some (.u 20),some (.sl I6),none,none,none,none,none,none,none,none,some (.sl (.u 17)),none,none,none,none,some (.int .u64),none,none,none,some .ptr,none,none,none,none,none,none,none,none,none,none,some .ptr,none,none,none,none,none,none,none,none,none,none,none,none,none,none,none,none,none,none,none,none,some .ptr,none,none,none,none,some (.u 6),some (.u 6),some (.sl (.u 7)),some (.u 7),some (.u 7),some (.u 8),some (.u 8),none]
noncomputable def kmA(t:TypeId):Ty->Bool
 | .u 12=>arB Tryz.prog t
 | .u 17=>arB Tryz.prog t
 |_=>false
theorem A8k(t:TypeId)(k:Ty)(h:(kmI Tryz.prog t k ||kmS Tryz.prog t k ||kmA t k)=true):@O4 Tryz.prog t (den uS.D k) (RT uS k) (G5 uS At5 k):=by
 rw[Bool.or_eq_true,Bool.or_eq_true]at h;rcases h with (h|h)|h
 .exact A5m h
 .exact A5l h
 .unfold kmA at h;split at h
  .exact Ass (S:=uS) (n:=12) (p:=λx=>x.a0) (q:=λx=>x.a1) (λ_=>rfl) (by intro x y;cases x;cases y;rintro rfl rfl;rfl) h
  .exact Ass (S:=uS) (n:=17) (p:=λx=>x.a0) (q:=λx=>x.a1) (λ_=>rfl) (by intro x y;cases x;cases y;rintro rfl rfl;rfl) h
  .cases h
noncomputable def eqA(t:TypeId):Ty->Bool
 | .u 12=>arB Tryz.prog t&&!(Tryz.prog.eqGuardType Tryz.prog.depth t)
 | .u 17=>arB Tryz.prog t&&!(Tryz.prog.eqGuardType Tryz.prog.depth t)
 | .u 19=>ksB Tryz.prog t
 |_=>false
theorem A9t(t:TypeId)(k:Ty)(h:eqA t k=true):Tryz.prog.eqGuardType Tryz.prog.depth t=false/\∀I w v u(x y:den uS.D k),rp uS k I w v x->rp uS k I w u y->∀w',(Op.equal t v u).run Tryz.prog w'=.ok (@decide (x=y) (G5 uS At5 k x y)) w':=by
 unfold eqA at h;split at h
 .refine⟨(Amv (w:=default) h (a:=0) (b:=0) (a':=0) (b':=0)).1,λI w v u x y hx hy w'=>?_⟩;obtain⟨cs,rfl,hF⟩:=Lc.1 hx;obtain⟨ds,rfl,hG⟩:=Lc.1 hy;obtain rfl:cs=[.int .i64 x.a0,.int .i64 x.a1]:=by cases hF with|cons a1 a2=>cases a2 with|cons b1 b2=>cases b2;rw[(Bq.1 a1).1,(Bq.1 b1).1]
  obtain rfl:ds=[.int .i64 y.a0,.int .i64 y.a1]:=by cases hG with|cons a1 a2=>cases a2 with|cons b1 b2=>cases b2;rw[(Bq.1 a1).1,(Bq.1 b1).1]
  rw[(Amv h).2];refine congrArg (Result.ok · w') (Bool.eq_iff_iff.2 ?_);rw[@decide_eq_true_iff _ (G5 uS At5 _ x y)];simp only[Bool.and_eq_true,beq_iff_eq];exact⟨λe=>by cases x;cases y;obtain⟨e1,e2⟩:=e;cases e1;cases e2;rfl,λe=>by cases e;exact⟨rfl,rfl⟩⟩
 .refine⟨(Amv (w:=default) h (a:=0) (b:=0) (a':=0) (b':=0)).1,λI w v u x y hx hy w'=>?_⟩;obtain⟨cs,rfl,hF⟩:=Lc.1 hx;obtain⟨ds,rfl,hG⟩:=Lc.1 hy;obtain rfl:cs=[.int .i64 x.a0,.int .i64 x.a1]:=by cases hF with|cons a1 a2=>cases a2 with|cons b1 b2=>cases b2;rw[(Bq.1 a1).1,(Bq.1 b1).1]
  obtain rfl:ds=[.int .i64 y.a0,.int .i64 y.a1]:=by cases hG with|cons a1 a2=>cases a2 with|cons b1 b2=>cases b2;rw[(Bq.1 a1).1,(Bq.1 b1).1]
  rw[(Amv h).2];refine congrArg (Result.ok · w') (Bool.eq_iff_iff.2 ?_);rw[@decide_eq_true_iff _ (G5 uS At5 _ x y)];simp only[Bool.and_eq_true,beq_iff_eq];exact⟨λe=>by cases x;cases y;obtain⟨e1,e2⟩:=e;cases e1;cases e2;rfl,λe=>by cases e;exact⟨rfl,rfl⟩⟩
 .refine⟨(Ax9 (w:=default) h (o:=0) (a:=0) (b:=0) (c:=0) (o':=0) (a':=0) (b':=0) (c':=0)).1,λI w v u x y hx hy w'=>?_⟩;obtain⟨cs,rfl,hF⟩:=Lc.1 hx;obtain⟨ds,rfl,hG⟩:=Lc.1 hy;obtain rfl:cs=[.int .i64 x.op,.int .i64 x.De.a0,.int .i64 x.De.a1,.int .i64 x.De.a2]:=by cases hF with|cons a1 a2=>cases a2 with|cons b1 b2=>cases b2 with|cons c1 c2=>cases c2 with|cons d1 d2=>cases d2;rw[(Bq.1 a1).1,(Bq.1 b1).1,(Bq.1 c1).1,(Bq.1 d1).1]
  obtain rfl:ds=[.int .i64 y.op,.int .i64 y.De.a0,.int .i64 y.De.a1,.int .i64 y.De.a2]:=by cases hG with|cons a1 a2=>cases a2 with|cons b1 b2=>cases b2 with|cons c1 c2=>cases c2 with|cons d1 d2=>cases d2;rw[(Bq.1 a1).1,(Bq.1 b1).1,(Bq.1 c1).1,(Bq.1 d1).1]
  rw[(Ax9 h).2];refine congrArg (Result.ok · w') (Bool.eq_iff_iff.2 ?_);rw[@decide_eq_true_iff _ (G5 uS At5 _ x y)];simp only[Bool.and_eq_true,beq_iff_eq];exact⟨λe=>by cases x with|mk o x=>cases y with|mk p y=>cases x;cases y;obtain⟨e1,e2,e3,e4⟩:=e;cases e1;cases e2;cases e3;cases e4;rfl,λe=>by cases e;exact⟨rfl,rfl,rfl,rfl⟩⟩
 .cases h
def Lm:List ByteArray:=[⟨#[65]⟩,⟨#[65,70]⟩,⟨#[65,71]⟩,⟨#[65,88]⟩,⟨#[69]⟩,⟨#[69,70]⟩,⟨#[69,71]⟩,⟨#[69,88]⟩,⟨#[85]⟩,⟨#[98,111,111,108]⟩,⟨#[100,101,102]⟩,⟨#[101,108,115,101]⟩,⟨#[102,97,105,114]⟩,⟨#[102,97,108,115,101]⟩,⟨#[105,102]⟩,⟨#[105,110,105,116]⟩,⟨#[105,110,118,97,114]⟩,⟨#[109,111,100]⟩,⟨#[110,101,120,116]⟩,⟨#[115,112,101,99]⟩,⟨#[116,104,101,110]⟩,⟨#[116,114,97,110,115]⟩,⟨#[116,114,117,101]⟩,⟨#[118,97,114]⟩]
noncomputable def A52:Nat->Option ((T:Go.Y.Ty)×List (Go.Y.den uS.D T)):=λg=>if g=0 then some ⟨.str,Lm⟩ else none
noncomputable def Y0:Go.Y.Sys:={uS with
 P:=Tryz.prog,ty:=λt=>(tyL[t]?).join,deq:=At5,gls:=A52,O:=oD,Aw8:=A9j,ocl:=oCl,oun:=oUn,Aw7:=A77,ok:=λt=>(okL[t]?).join,km:=λt k=>kmI Tryz.prog t k ||kmS Tryz.prog t k ||kmA t k,Ayb:=A8k,eqs:=eqA,A3i:=A9t}
abbrev HY:=HH Y0
abbrev HP:=HH Y0->Prop
abbrev UU:=Unit->HH Y0->Prop
abbrev PX:=Pan Y0
end Go.Proofs.YtcbkbpjlbmalmaaGreatDoor
