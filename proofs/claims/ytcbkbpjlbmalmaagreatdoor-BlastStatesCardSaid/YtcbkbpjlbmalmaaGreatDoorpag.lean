/-
  The functions that only reckon: edges, letters, comparisons. (Merged by program out of 6 texts.)
-/
import Derived.Test.YtcbkbpjlbmalmaaGreatDoorpaf
import Derived.Test.YtcbkbpjlbmalmaaGreatDoorChecked
namespace Go.Proofs.YtcbkbpjlbmalmaaGreatDoor
open Go Go.X Go.Y
structure A7 where
 Name:ByteArray
 Bool:Bool
 Lo:Int
 Hi:Int
deriving DecidableEq
structure Bz where
 El:Int
 Kind:Int
 Level:Int
deriving DecidableEq
structure AS where
 Ab:(List A7)
 Order:(List Int)
 EN:(List Bz)
deriving DecidableEq
structure AL where
 Op:Int
 N:Int
 Name:ByteArray
 Kids:(List AL)
structure Ad where
 Ab:(List A7)
 Bits:(List Int)
 At:(List Int)
deriving DecidableEq
structure Aj where
 Bool:Bool
 Lo:Int
 Hi:Int
deriving DecidableEq
structure SL where
 Name:ByteArray
 E:AL
structure Pc where
 Op:Int
 E:AL
 Kids:(List Pc)
structure SK where
 Name:ByteArray
 F:Pc
structure GF where
 Ab:(List A7)
 Defs:(List SL)
 Init:(List AL)
 Ade:(List AL)
 Next:(List SL)
 Trans:(List AL)
 Fair:(List AL)
 Ac7:(List SK)
structure BS where
 N:Int
 H:Int
deriving DecidableEq
structure B0 where
 Var:Int
 Rg:Bool
deriving DecidableEq
structure WA where
 a0:Int
 a1:Int
deriving DecidableEq
structure Ap where
 ID:Int
 Var:Int
 Lo:Int
 Hi:Int
 Refs:Int
deriving DecidableEq
structure D4 where
 m:(Option Nat)
deriving DecidableEq
structure Fb where
 err:Int
 event:Bool
 ev:Bz
deriving DecidableEq
structure AB where
 n:Ap
 ll:Int
 lh:Int
 hl:Int
 hh:Int
deriving DecidableEq
structure Ah where
 a0:Int
 a1:Int
deriving DecidableEq
structure Be where
 a0:Int
 a1:Int
 a2:Int
deriving DecidableEq
structure Dc where
 op:Int
 Cm:Be
deriving DecidableEq
structure Bo where
 key:Dc
 r:Int
 full:Bool
deriving DecidableEq
@[reducible] def uD:Nat->Type
 |0=>A7
 |1=>Bz
 |2=>AS
 |3=>AL
 |4=>Ad
 |5=>Aj
 |6=>SL
 |7=>Pc
 |8=>SK
 |9=>GF
 |10=>BS
 |11=>B0
 |12=>WA
 |13=>Ap
 |14=>D4
 |15=>Fb
 |16=>AB
 |17=>Ah
 |18=>Be
 |19=>Dc
 |20=>Bo
 |_=>Bool
def Ah6:Nat->List Ty
 |0=>[.str,.bool,I6,I6]
 |1=>[I6,I6,I6]
 |2=>[(.sl (.u 0)),(.sl I6),(.sl (.u 1))]
 |3=>[I6,I6,.str,(.sl (.u 3))]
 |4=>[(.sl (.u 0)),(.sl I6),(.sl I6)]
 |5=>[.bool,I6,I6]
 |6=>[.str,I6,I6,.str,(.sl (.u 3))]
 |7=>[I6,I6,I6,.str,(.sl (.u 3)),(.sl (.u 7))]
 |8=>[.str,I6,I6,I6,.str,(.sl (.u 3)),(.sl (.u 7))]
 |9=>[(.sl (.u 0)),(.sl (.u 6)),(.sl (.u 3)),(.sl (.u 3)),(.sl (.u 6)),(.sl (.u 3)),(.sl (.u 3)),(.sl (.u 8))]
 |10=>[I6,I6]
 |11=>[I6,.bool]
 |12=>[I6,I6]
 |13=>[I6,I6,I6,I6,I6]
 |14=>[.ptr]
 |15=>[I6,.bool,I6,I6,I6]
 |16=>[I6,I6,I6,I6,I6,I6,I6,I6,I6]
 |17=>[I6,I6]
 |18=>[I6,I6,I6]
 |19=>[I6,I6,I6,I6]
 |20=>[I6,I6,I6,I6,I6,.bool]
 |_=>[.bool]
def Akw:(n:Nat)->uD n->List (Lf uD)
 |0,x=>[⟨.str,x.Name⟩,⟨.bool,x.Bool⟩,⟨I6,x.Lo⟩,⟨I6,x.Hi⟩]
 |1,x=>[⟨I6,x.El⟩,⟨I6,x.Kind⟩,⟨I6,x.Level⟩]
 |2,x=>[⟨(.sl (.u 0)),x.Ab⟩,⟨(.sl I6),x.Order⟩,⟨(.sl (.u 1)),x.EN⟩]
 |3,x=>[⟨I6,x.Op⟩,⟨I6,x.N⟩,⟨.str,x.Name⟩,⟨(.sl (.u 3)),x.Kids⟩]
 |4,x=>[⟨(.sl (.u 0)),x.Ab⟩,⟨(.sl I6),x.Bits⟩,⟨(.sl I6),x.At⟩]
 |5,x=>[⟨.bool,x.Bool⟩,⟨I6,x.Lo⟩,⟨I6,x.Hi⟩]
 |6,x=>[⟨.str,x.Name⟩,⟨I6,x.E.Op⟩,⟨I6,x.E.N⟩,⟨.str,x.E.Name⟩,⟨(.sl (.u 3)),x.E.Kids⟩]
 |7,x=>[⟨I6,x.Op⟩,⟨I6,x.E.Op⟩,⟨I6,x.E.N⟩,⟨.str,x.E.Name⟩,⟨(.sl (.u 3)),x.E.Kids⟩,⟨(.sl (.u 7)),x.Kids⟩]
 |8,x=>[⟨.str,x.Name⟩,⟨I6,x.F.Op⟩,⟨I6,x.F.E.Op⟩,⟨I6,x.F.E.N⟩,⟨.str,x.F.E.Name⟩,⟨(.sl (.u 3)),x.F.E.Kids⟩,⟨(.sl (.u 7)),x.F.Kids⟩]
 |9,x=>[⟨(.sl (.u 0)),x.Ab⟩,⟨(.sl (.u 6)),x.Defs⟩,⟨(.sl (.u 3)),x.Init⟩,⟨(.sl (.u 3)),x.Ade⟩,⟨(.sl (.u 6)),x.Next⟩,⟨(.sl (.u 3)),x.Trans⟩,⟨(.sl (.u 3)),x.Fair⟩,⟨(.sl (.u 8)),x.Ac7⟩]
 |10,x=>[⟨I6,x.N⟩,⟨I6,x.H⟩]
 |11,x=>[⟨I6,x.Var⟩,⟨.bool,x.Rg⟩]
 |12,x=>[⟨I6,x.a0⟩,⟨I6,x.a1⟩]
 |13,x=>[⟨I6,x.ID⟩,⟨I6,x.Var⟩,⟨I6,x.Lo⟩,⟨I6,x.Hi⟩,⟨I6,x.Refs⟩]
 |14,x=>[⟨.ptr,x.m⟩]
 |15,x=>[⟨I6,x.err⟩,⟨.bool,x.event⟩,⟨I6,x.ev.El⟩,⟨I6,x.ev.Kind⟩,⟨I6,x.ev.Level⟩]
 |16,x=>[⟨I6,x.n.ID⟩,⟨I6,x.n.Var⟩,⟨I6,x.n.Lo⟩,⟨I6,x.n.Hi⟩,⟨I6,x.n.Refs⟩,⟨I6,x.ll⟩,⟨I6,x.lh⟩,⟨I6,x.hl⟩,⟨I6,x.hh⟩]
 |17,x=>[⟨I6,x.a0⟩,⟨I6,x.a1⟩]
 |18,x=>[⟨I6,x.a0⟩,⟨I6,x.a1⟩,⟨I6,x.a2⟩]
 |19,x=>[⟨I6,x.op⟩,⟨I6,x.Cm.a0⟩,⟨I6,x.Cm.a1⟩,⟨I6,x.Cm.a2⟩]
 |20,x=>[⟨I6,x.key.op⟩,⟨I6,x.key.Cm.a0⟩,⟨I6,x.key.Cm.a1⟩,⟨I6,x.key.Cm.a2⟩,⟨I6,x.r⟩,⟨.bool,x.full⟩]
 |_+21,x=>[⟨.bool,x⟩]
def Aku:(n:Nat)->List (Lf uD)->Option (uD n)
 |0,l0=>tk .str l0 λv0 l1=>tk .bool l1 λv1 l2=>tk I6 l2 λv2 l3=>tk I6 l3 λv3 l4=>nl l4 (some ⟨v0,v1,v2,v3⟩)
 |1,l0=>tk I6 l0 λv0 l1=>tk I6 l1 λv1 l2=>tk I6 l2 λv2 l3=>nl l3 (some ⟨v0,v1,v2⟩)
 |2,l0=>tk (.sl (.u 0)) l0 λv0 l1=>tk (.sl I6) l1 λv1 l2=>tk (.sl (.u 1)) l2 λv2 l3=>nl l3 (some ⟨v0,v1,v2⟩)
 |3,l0=>tk I6 l0 λv0 l1=>tk I6 l1 λv1 l2=>tk .str l2 λv2 l3=>tk (.sl (.u 3)) l3 λv3 l4=>nl l4 (some ⟨v0,v1,v2,v3⟩)
 |4,l0=>tk (.sl (.u 0)) l0 λv0 l1=>tk (.sl I6) l1 λv1 l2=>tk (.sl I6) l2 λv2 l3=>nl l3 (some ⟨v0,v1,v2⟩)
 |5,l0=>tk .bool l0 λv0 l1=>tk I6 l1 λv1 l2=>tk I6 l2 λv2 l3=>nl l3 (some ⟨v0,v1,v2⟩)
 |6,l0=>tk .str l0 λv0 l1=>tk I6 l1 λv1 l2=>tk I6 l2 λv2 l3=>tk .str l3 λv3 l4=>tk (.sl (.u 3)) l4 λv4 l5=>nl l5 (some ⟨v0,⟨v1,v2,v3,v4⟩⟩)
 |7,l0=>tk I6 l0 λv0 l1=>tk I6 l1 λv1 l2=>tk I6 l2 λv2 l3=>tk .str l3 λv3 l4=>tk (.sl (.u 3)) l4 λv4 l5=>tk (.sl (.u 7)) l5 λv5 l6=>nl l6 (some ⟨v0,⟨v1,v2,v3,v4⟩,v5⟩)
 |8,l0=>tk .str l0 λv0 l1=>tk I6 l1 λv1 l2=>tk I6 l2 λv2 l3=>tk I6 l3 λv3 l4=>tk .str l4 λv4 l5=>tk (.sl (.u 3)) l5 λv5 l6=>tk (.sl (.u 7)) l6 λv6 l7=>nl l7 (some ⟨v0,⟨v1,⟨v2,v3,v4,v5⟩,v6⟩⟩)
 |9,l0=>tk (.sl (.u 0)) l0 λv0 l1=>tk (.sl (.u 6)) l1 λv1 l2=>tk (.sl (.u 3)) l2 λv2 l3=>tk (.sl (.u 3)) l3 λv3 l4=>tk (.sl (.u 6)) l4 λv4 l5=>tk (.sl (.u 3)) l5 λv5 l6=>tk (.sl (.u 3)) l6 λv6 l7=>tk (.sl (.u 8)) l7 λv7 l8=>nl l8 (some ⟨v0,v1,v2,v3,v4,v5,v6,v7⟩)
 |10,l0=>tk I6 l0 λv0 l1=>tk I6 l1 λv1 l2=>nl l2 (some ⟨v0,v1⟩)
 |11,l0=>tk I6 l0 λv0 l1=>tk .bool l1 λv1 l2=>nl l2 (some ⟨v0,v1⟩)
 |12,l0=>tk I6 l0 λv0 l1=>tk I6 l1 λv1 l2=>nl l2 (some ⟨v0,v1⟩)
 |13,l0=>tk I6 l0 λv0 l1=>tk I6 l1 λv1 l2=>tk I6 l2 λv2 l3=>tk I6 l3 λv3 l4=>tk I6 l4 λv4 l5=>nl l5 (some ⟨v0,v1,v2,v3,v4⟩)
 |14,l0=>tk .ptr l0 λv0 l1=>nl l1 (some ⟨v0⟩)
 |15,l0=>tk I6 l0 λv0 l1=>tk .bool l1 λv1 l2=>tk I6 l2 λv2 l3=>tk I6 l3 λv3 l4=>tk I6 l4 λv4 l5=>nl l5 (some ⟨v0,v1,⟨v2,v3,v4⟩⟩)
 |16,l0=>tk I6 l0 λv0 l1=>tk I6 l1 λv1 l2=>tk I6 l2 λv2 l3=>tk I6 l3 λv3 l4=>tk I6 l4 λv4 l5=>tk I6 l5 λv5 l6=>tk I6 l6 λv6 l7=>tk I6 l7 λv7 l8=>tk I6 l8 λv8 l9=>nl l9 (some ⟨⟨v0,v1,v2,v3,v4⟩,v5,v6,v7,v8⟩)
 |17,l0=>tk I6 l0 λv0 l1=>tk I6 l1 λv1 l2=>nl l2 (some ⟨v0,v1⟩)
 |18,l0=>tk I6 l0 λv0 l1=>tk I6 l1 λv1 l2=>tk I6 l2 λv2 l3=>nl l3 (some ⟨v0,v1,v2⟩)
 |19,l0=>tk I6 l0 λv0 l1=>tk I6 l1 λv1 l2=>tk I6 l2 λv2 l3=>tk I6 l3 λv3 l4=>nl l4 (some ⟨v0,⟨v1,v2,v3⟩⟩)
 |20,l0=>tk I6 l0 λv0 l1=>tk I6 l1 λv1 l2=>tk I6 l2 λv2 l3=>tk I6 l3 λv3 l4=>tk I6 l4 λv4 l5=>tk .bool l5 λv5 l6=>nl l6 (some ⟨⟨v0,⟨v1,v2,v3⟩⟩,v4,v5⟩)
 |_+21,l0=>tk .bool l0 λv0 l1=>nl l1 (some v0)
theorem Akv:∀n x,(Akw n x).map (·.t)=Ah6 n
 |0,_|1,_|2,_|3,_|4,_|5,_|6,_|7,_|8,_|9,_|10,_|11,_|12,_|13,_|14,_|15,_|16,_|17,_|18,_|19,_|20,_|_+21,_=>rfl
theorem Aps:∀n l x,Aku n l=some x->Akw n x=l
 |0,l0,x,h0|1,l0,x,h0|2,l0,x,h0|3,l0,x,h0|4,l0,x,h0|5,l0,x,h0|6,l0,x,h0|7,l0,x,h0|8,l0,x,h0|9,l0,x,h0|10,l0,x,h0|11,l0,x,h0|12,l0,x,h0|13,l0,x,h0|14,l0,x,h0|15,l0,x,h0|16,l0,x,h0|17,l0,x,h0|18,l0,x,h0|19,l0,x,h0|20,l0,x,h0|_+21,l0,x,h0=>by simp only[Aku]at h0;(repeat(obtain⟨_,_,e,h1⟩:=Ayo h0;clear h0;subst e;have h0:=h1;clear h1));obtain⟨e,h⟩:=Azn h0;subst e;cases h;rfl
theorem Ayl:∀n,∀t∈Ah6 n,t.leaf=true
 |0|1|2|3|4|5|6|7|8|9|10|11|12|13|14|15|16|17|18|19|20=>by decide
 |_+21=>by intro t ht;simp [Ah6]at ht;subst ht;rfl
theorem A11:∀n,0<(Ah6 n).length
 |0|1|2|3|4|5|6|7|8|9|10|11|12|13|14|15|16|17|18|19|20=>by decide
 |_+21=>by simp [Ah6]
def uS:US:={D:=uD,sig:=Ah6,flat:=Akw,Ah5:=Aku,Sm:=Akv,Rv:=Aps,Aar:=Ayl,Af3:=A11}
noncomputable def Ah7:(n:Nat)->DecidableEq (uD n)
 |0=>inferInstanceAs (DecidableEq A7)
 |1=>inferInstanceAs (DecidableEq Bz)
 |2=>inferInstanceAs (DecidableEq AS)
 |3=>λ_ _=>Classical.propDecidable _
 |4=>inferInstanceAs (DecidableEq Ad)
 |5=>inferInstanceAs (DecidableEq Aj)
 |6|7|8|9=>λ_ _=>Classical.propDecidable _
 |10=>inferInstanceAs (DecidableEq BS)
 |11=>inferInstanceAs (DecidableEq B0)
 |12=>inferInstanceAs (DecidableEq WA)
 |13=>inferInstanceAs (DecidableEq Ap)
 |14=>inferInstanceAs (DecidableEq D4)
 |15=>inferInstanceAs (DecidableEq Fb)
 |16=>inferInstanceAs (DecidableEq AB)
 |17=>inferInstanceAs (DecidableEq Ah)
 |18=>inferInstanceAs (DecidableEq Be)
 |19=>inferInstanceAs (DecidableEq Dc)
 |20=>inferInstanceAs (DecidableEq Bo)
 |_+21=>inferInstanceAs (DecidableEq Bool)
structure Aw where
 store:(Option Nat)
 BG:(Option Nat)
 Ak:List (Int×Int)
 Au:Int
 waits:(List Bz)
 calls:Int
structure Ar where
 m:(Option Nat)
 l:Ad
 live:List (Int×Bool)
 e:Int
structure AF where
 vars:(List Int)
 level:(List Int)
structure Aa where
 levels:(Option Nat)
 Ba:(Option Nat)
 tables:(List (Option Nat))
 counts:(List Int)
 dead:Int
structure By where
 size:Int
 entries:Option (List Bo)
 asked:Int
 found:Int
structure Aoz where
 m:(Option Nat)
structure Av where
 room:Int
 at_:(List Ap)
 taken:(List Bool)
 free:(List Int)
 many:Int
structure Az where
 ids:List (Ah×Int)
@[reducible] def oD:Nat->Type
 |0=>Aw
 |1=>Ar
 |2=>AF
 |3=>Aa
 |4=>By
 |5=>Aoz
 |6=>Av
 |7=>Az
 |8=>Int
 |9=>Bool
 |10=>Int
 |11=>ByteArray
 |12|13=>Int
 |14=>(List A7)
 |15=>(List Int)
 |16=>(List Bz)
 |17=>AS
 |18=>(List AL)
 |19=>AL
 |20=>(Option Nat)
 |21=>Ad
 |22=>Aj
 |23=>A7
 |24=>(List Bool)
 |25=>(List SL)
 |26=>(List SK)
 |27=>GF
 |28=>(List (List Int))
 |29=>(List BS)
 |30=>BS
 |31=>Bz
 |32=>(List (Int×Int))
 |33=>(List ByteArray)
 |34=>(List (Int×Bool))
 |35=>(Option Nat)
 |36=>(List B0)
 |37=>B0
 |38=>(List (ByteArray×Int))
 |39=>(List Aj)
 |40=>WA
 |41=>(List (Option Nat))
 |42=>(List Bo)
 |43=>Ap
 |44=>D4
 |45=>Fb
 |46=>(List Ap)
 |47=>(List (Ah×Int))
 |48=>(List AB)
 |49=>AB
 |50=>Int
 |51=>Ah
 |52=>Be
 |53=>Dc
 |54=>Bo
 |55=>(List (Ah×Bool))
 |56=>(List Ah)
 |57=>SL
 |58=>(List Pc)
 |59=>Pc
 |60=>SK
 |_=>Unit
def A2p:Nat->List RK
 |0=>[.dat .ptr,.dat .ptr,.map I6 I6,.dat I6,.own (.u 1),.dat I6]
 |1=>[.dat .ptr,.dat (.sl (.u 0)),.dat (.sl I6),.dat (.sl I6),.map I6 .bool,.dat I6]
 |2=>[.own I6,.own I6]
 |3=>[.dat .ptr,.dat .ptr,.own .ptr,.own I6,.dat I6]
 |4=>[.dat I6,.ownO (.u 20),.dat I6,.dat I6]
 |5=>[.dat .ptr]
 |6=>[.dat I6,.own (.u 13),.own .bool,.own I6,.dat I6]
 |7=>[.map (.u 17) I6]
 |8=>[.dat I6]
 |9=>[.dat .bool]
 |10=>[.dat (.int .u8)]
 |11=>[.dat .str]
 |12=>[.dat (.int .u64)]
 |13=>[.dat (.int .i32)]
 |14=>[.own (.u 0)]
 |15=>[.own I6]
 |16=>[.own (.u 1)]
 |17=>[.dat (.sl (.u 0)),.dat (.sl I6),.dat (.sl (.u 1))]
 |18=>[.own (.u 3)]
 |19=>[.dat I6,.dat I6,.dat .str,.dat (.sl (.u 3))]
 |20=>[.dat .ptr]
 |21=>[.dat (.sl (.u 0)),.dat (.sl I6),.dat (.sl I6)]
 |22=>[.dat .bool,.dat I6,.dat I6]
 |23=>[.dat .str,.dat .bool,.dat I6,.dat I6]
 |24=>[.own .bool]
 |25=>[.own (.u 6)]
 |26=>[.own (.u 8)]
 |27=>[.dat (.sl (.u 0)),.dat (.sl (.u 6)),.dat (.sl (.u 3)),.dat (.sl (.u 3)),.dat (.sl (.u 6)),.dat (.sl (.u 3)),.dat (.sl (.u 3)),.dat (.sl (.u 8))]
 |28=>[.own (.sl I6)]
 |29=>[.own (.u 10)]
 |30=>[.dat I6,.dat I6]
 |31=>[.dat I6,.dat I6,.dat I6]
 |32=>[.map I6 I6]
 |33=>[.own .str]
 |34=>[.map I6 .bool]
 |35=>[.dat .mref]
 |36=>[.own (.u 11)]
 |37=>[.dat I6,.dat .bool]
 |38=>[.map .str I6]
 |39=>[.own (.u 5)]
 |40=>[.dat I6,.dat I6]
 |41=>[.own .ptr]
 |42=>[.own (.u 20)]
 |43=>[.dat I6,.dat I6,.dat I6,.dat I6,.dat I6]
 |44=>[.dat .ptr]
 |45=>[.dat I6,.dat .bool,.dat I6,.dat I6,.dat I6]
 |46=>[.own (.u 13)]
 |47=>[.map (.u 17) I6]
 |48=>[.own (.u 16)]
 |49=>[.dat I6,.dat I6,.dat I6,.dat I6,.dat I6,.dat I6,.dat I6,.dat I6,.dat I6]
 |50=>[.dat (.int .u32)]
 |51=>[.dat I6,.dat I6]
 |52=>[.dat I6,.dat I6,.dat I6]
 |53=>[.dat I6,.dat I6,.dat I6,.dat I6]
 |54=>[.dat I6,.dat I6,.dat I6,.dat I6,.dat I6,.dat .bool]
 |55=>[.map (.u 17) .bool]
 |56=>[.own (.u 17)]
 |57=>[.dat .str,.dat I6,.dat I6,.dat .str,.dat (.sl (.u 3))]
 |58=>[.own (.u 7)]
 |59=>[.dat I6,.dat I6,.dat I6,.dat .str,.dat (.sl (.u 3)),.dat (.sl (.u 7))]
 |60=>[.dat .str,.dat I6,.dat I6,.dat I6,.dat .str,.dat (.sl (.u 3)),.dat (.sl (.u 7))]
 |_=>[]
def oCl:(n:Nat)->oD n->List (OL uD)
 |0,x=>[.dat ⟨.ptr,x.store⟩,.dat ⟨.ptr,x.BG⟩,.map I6 I6 x.Ak,.dat ⟨I6,x.Au⟩,.own (.u 1) x.waits,.dat ⟨I6,x.calls⟩]
 |1,x=>[.dat ⟨.ptr,x.m⟩,.dat ⟨(.sl (.u 0)),x.l.Ab⟩,.dat ⟨(.sl I6),x.l.Bits⟩,.dat ⟨(.sl I6),x.l.At⟩,.map I6 .bool x.live,.dat ⟨I6,x.e⟩]
 |2,x=>[.own I6 x.vars,.own I6 x.level]
 |3,x=>[.dat ⟨.ptr,x.levels⟩,.dat ⟨.ptr,x.Ba⟩,.own .ptr x.tables,.own I6 x.counts,.dat ⟨I6,x.dead⟩]
 |4,x=>[.dat ⟨I6,x.size⟩,.ownO (.u 20) x.entries,.dat ⟨I6,x.asked⟩,.dat ⟨I6,x.found⟩]
 |5,x=>[.dat ⟨.ptr,x.m⟩]
 |6,x=>[.dat ⟨I6,x.room⟩,.own (.u 13) x.at_,.own .bool x.taken,.own I6 x.free,.dat ⟨I6,x.many⟩]
 |7,x=>[.map (.u 17) I6 x.ids]
 |8,x=>[.dat ⟨I6,x⟩]
 |9,x=>[.dat ⟨.bool,x⟩]
 |10,x=>[.dat ⟨(.int .u8),x⟩]
 |11,x=>[.dat ⟨.str,x⟩]
 |12,x=>[.dat ⟨(.int .u64),x⟩]
 |13,x=>[.dat ⟨(.int .i32),x⟩]
 |14,x=>[.own (.u 0) x]
 |15,x=>[.own I6 x]
 |16,x=>[.own (.u 1) x]
 |17,x=>[.dat ⟨(.sl (.u 0)),x.Ab⟩,.dat ⟨(.sl I6),x.Order⟩,.dat ⟨(.sl (.u 1)),x.EN⟩]
 |18,x=>[.own (.u 3) x]
 |19,x=>[.dat ⟨I6,x.Op⟩,.dat ⟨I6,x.N⟩,.dat ⟨.str,x.Name⟩,.dat ⟨(.sl (.u 3)),x.Kids⟩]
 |20,x=>[.dat ⟨.ptr,x⟩]
 |21,x=>[.dat ⟨(.sl (.u 0)),x.Ab⟩,.dat ⟨(.sl I6),x.Bits⟩,.dat ⟨(.sl I6),x.At⟩]
 |22,x=>[.dat ⟨.bool,x.Bool⟩,.dat ⟨I6,x.Lo⟩,.dat ⟨I6,x.Hi⟩]
 |23,x=>[.dat ⟨.str,x.Name⟩,.dat ⟨.bool,x.Bool⟩,.dat ⟨I6,x.Lo⟩,.dat ⟨I6,x.Hi⟩]
 |24,x=>[.own .bool x]
 |25,x=>[.own (.u 6) x]
 |26,x=>[.own (.u 8) x]
 |27,x=>[.dat ⟨(.sl (.u 0)),x.Ab⟩,.dat ⟨(.sl (.u 6)),x.Defs⟩,.dat ⟨(.sl (.u 3)),x.Init⟩,.dat ⟨(.sl (.u 3)),x.Ade⟩,.dat ⟨(.sl (.u 6)),x.Next⟩,.dat ⟨(.sl (.u 3)),x.Trans⟩,.dat ⟨(.sl (.u 3)),x.Fair⟩,.dat ⟨(.sl (.u 8)),x.Ac7⟩]
 |28,x=>[.own (.sl I6) x]
 |29,x=>[.own (.u 10) x]
 |30,x=>[.dat ⟨I6,x.N⟩,.dat ⟨I6,x.H⟩]
 |31,x=>[.dat ⟨I6,x.El⟩,.dat ⟨I6,x.Kind⟩,.dat ⟨I6,x.Level⟩]
 |32,x=>[.map I6 I6 x]
 |33,x=>[.own .str x]
 |34,x=>[.map I6 .bool x]
 |35,x=>[.dat ⟨.mref,x⟩]
 |36,x=>[.own (.u 11) x]
 |37,x=>[.dat ⟨I6,x.Var⟩,.dat ⟨.bool,x.Rg⟩]
 |38,x=>[.map .str I6 x]
 |39,x=>[.own (.u 5) x]
 |40,x=>[.dat ⟨I6,x.a0⟩,.dat ⟨I6,x.a1⟩]
 |41,x=>[.own .ptr x]
 |42,x=>[.own (.u 20) x]
 |43,x=>[.dat ⟨I6,x.ID⟩,.dat ⟨I6,x.Var⟩,.dat ⟨I6,x.Lo⟩,.dat ⟨I6,x.Hi⟩,.dat ⟨I6,x.Refs⟩]
 |44,x=>[.dat ⟨.ptr,x.m⟩]
 |45,x=>[.dat ⟨I6,x.err⟩,.dat ⟨.bool,x.event⟩,.dat ⟨I6,x.ev.El⟩,.dat ⟨I6,x.ev.Kind⟩,.dat ⟨I6,x.ev.Level⟩]
 |46,x=>[.own (.u 13) x]
 |47,x=>[.map (.u 17) I6 x]
 |48,x=>[.own (.u 16) x]
 |49,x=>[.dat ⟨I6,x.n.ID⟩,.dat ⟨I6,x.n.Var⟩,.dat ⟨I6,x.n.Lo⟩,.dat ⟨I6,x.n.Hi⟩,.dat ⟨I6,x.n.Refs⟩,.dat ⟨I6,x.ll⟩,.dat ⟨I6,x.lh⟩,.dat ⟨I6,x.hl⟩,.dat ⟨I6,x.hh⟩]
 |50,x=>[.dat ⟨(.int .u32),x⟩]
 |51,x=>[.dat ⟨I6,x.a0⟩,.dat ⟨I6,x.a1⟩]
 |52,x=>[.dat ⟨I6,x.a0⟩,.dat ⟨I6,x.a1⟩,.dat ⟨I6,x.a2⟩]
 |53,x=>[.dat ⟨I6,x.op⟩,.dat ⟨I6,x.Cm.a0⟩,.dat ⟨I6,x.Cm.a1⟩,.dat ⟨I6,x.Cm.a2⟩]
 |54,x=>[.dat ⟨I6,x.key.op⟩,.dat ⟨I6,x.key.Cm.a0⟩,.dat ⟨I6,x.key.Cm.a1⟩,.dat ⟨I6,x.key.Cm.a2⟩,.dat ⟨I6,x.r⟩,.dat ⟨.bool,x.full⟩]
 |55,x=>[.map (.u 17) .bool x]
 |56,x=>[.own (.u 17) x]
 |57,x=>[.dat ⟨.str,x.Name⟩,.dat ⟨I6,x.E.Op⟩,.dat ⟨I6,x.E.N⟩,.dat ⟨.str,x.E.Name⟩,.dat ⟨(.sl (.u 3)),x.E.Kids⟩]
 |58,x=>[.own (.u 7) x]
 |59,x=>[.dat ⟨I6,x.Op⟩,.dat ⟨I6,x.E.Op⟩,.dat ⟨I6,x.E.N⟩,.dat ⟨.str,x.E.Name⟩,.dat ⟨(.sl (.u 3)),x.E.Kids⟩,.dat ⟨(.sl (.u 7)),x.Kids⟩]
 |60,x=>[.dat ⟨.str,x.Name⟩,.dat ⟨I6,x.F.Op⟩,.dat ⟨I6,x.F.E.Op⟩,.dat ⟨I6,x.F.E.N⟩,.dat ⟨.str,x.F.E.Name⟩,.dat ⟨(.sl (.u 3)),x.F.E.Kids⟩,.dat ⟨(.sl (.u 7)),x.F.Kids⟩]
 |_+61,_=>[]
def oUn:(n:Nat)->List (OL uD)->Option (oD n)
 |0,l0=>Dg .ptr l0 λv0 l1=>Dg .ptr l1 λv1 l2=>tkM I6 I6 l2 λv2 l3=>Dg I6 l3 λv3 l4=>SM (.u 1) l4 λv4 l5=>Dg I6 l5 λv5 l6=>HF l6 (some ⟨v0,v1,v2,v3,v4,v5⟩)
 |1,l0=>Dg .ptr l0 λv0 l1=>Dg (.sl (.u 0)) l1 λv1 l2=>Dg (.sl I6) l2 λv2 l3=>Dg (.sl I6) l3 λv3 l4=>tkM I6 .bool l4 λv4 l5=>Dg I6 l5 λv5 l6=>HF l6 (some ⟨v0,⟨v1,v2,v3⟩,v4,v5⟩)
 |2,l0=>SM I6 l0 λv0 l1=>SM I6 l1 λv1 l2=>HF l2 (some ⟨v0,v1⟩)
 |3,l0=>Dg .ptr l0 λv0 l1=>Dg .ptr l1 λv1 l2=>SM .ptr l2 λv2 l3=>SM I6 l3 λv3 l4=>Dg I6 l4 λv4 l5=>HF l5 (some ⟨v0,v1,v2,v3,v4⟩)
 |4,l0=>Dg I6 l0 λv0 l1=>tkN (.u 20) l1 λv1 l2=>Dg I6 l2 λv2 l3=>Dg I6 l3 λv3 l4=>HF l4 (some ⟨v0,v1,v2,v3⟩)
 |5,l0=>Dg .ptr l0 λv0 l1=>HF l1 (some ⟨v0⟩)
 |6,l0=>Dg I6 l0 λv0 l1=>SM (.u 13) l1 λv1 l2=>SM .bool l2 λv2 l3=>SM I6 l3 λv3 l4=>Dg I6 l4 λv4 l5=>HF l5 (some ⟨v0,v1,v2,v3,v4⟩)
 |7,l0=>tkM (.u 17) I6 l0 λv0 l1=>HF l1 (some ⟨v0⟩)
 |8,l0=>Dg I6 l0 λv0 l1=>HF l1 (some v0)
 |9,l0=>Dg .bool l0 λv0 l1=>HF l1 (some v0)
 |10,l0=>Dg (.int .u8) l0 λv0 l1=>HF l1 (some v0)
 |11,l0=>Dg .str l0 λv0 l1=>HF l1 (some v0)
 |12,l0=>Dg (.int .u64) l0 λv0 l1=>HF l1 (some v0)
 |13,l0=>Dg (.int .i32) l0 λv0 l1=>HF l1 (some v0)
 |14,l0=>SM (.u 0) l0 λv0 l1=>HF l1 (some v0)
 |15,l0=>SM I6 l0 λv0 l1=>HF l1 (some v0)
 |16,l0=>SM (.u 1) l0 λv0 l1=>HF l1 (some v0)
 |17,l0=>Dg (.sl (.u 0)) l0 λv0 l1=>Dg (.sl I6) l1 λv1 l2=>Dg (.sl (.u 1)) l2 λv2 l3=>HF l3 (some ⟨v0,v1,v2⟩)
 |18,l0=>SM (.u 3) l0 λv0 l1=>HF l1 (some v0)
 |19,l0=>Dg I6 l0 λv0 l1=>Dg I6 l1 λv1 l2=>Dg .str l2 λv2 l3=>Dg (.sl (.u 3)) l3 λv3 l4=>HF l4 (some ⟨v0,v1,v2,v3⟩)
 |20,l0=>Dg .ptr l0 λv0 l1=>HF l1 (some v0)
 |21,l0=>Dg (.sl (.u 0)) l0 λv0 l1=>Dg (.sl I6) l1 λv1 l2=>Dg (.sl I6) l2 λv2 l3=>HF l3 (some ⟨v0,v1,v2⟩)
 |22,l0=>Dg .bool l0 λv0 l1=>Dg I6 l1 λv1 l2=>Dg I6 l2 λv2 l3=>HF l3 (some ⟨v0,v1,v2⟩)
 |23,l0=>Dg .str l0 λv0 l1=>Dg .bool l1 λv1 l2=>Dg I6 l2 λv2 l3=>Dg I6 l3 λv3 l4=>HF l4 (some ⟨v0,v1,v2,v3⟩)
 |24,l0=>SM .bool l0 λv0 l1=>HF l1 (some v0)
 |25,l0=>SM (.u 6) l0 λv0 l1=>HF l1 (some v0)
 |26,l0=>SM (.u 8) l0 λv0 l1=>HF l1 (some v0)
 |27,l0=>Dg (.sl (.u 0)) l0 λv0 l1=>Dg (.sl (.u 6)) l1 λv1 l2=>Dg (.sl (.u 3)) l2 λv2 l3=>Dg (.sl (.u 3)) l3 λv3 l4=>Dg (.sl (.u 6)) l4 λv4 l5=>Dg (.sl (.u 3)) l5 λv5 l6=>Dg (.sl (.u 3)) l6 λv6 l7=>Dg (.sl (.u 8)) l7 λv7 l8=>HF l8 (some ⟨v0,v1,v2,v3,v4,v5,v6,v7⟩)
 |28,l0=>SM (.sl I6) l0 λv0 l1=>HF l1 (some v0)
 |29,l0=>SM (.u 10) l0 λv0 l1=>HF l1 (some v0)
 |30,l0=>Dg I6 l0 λv0 l1=>Dg I6 l1 λv1 l2=>HF l2 (some ⟨v0,v1⟩)
 |31,l0=>Dg I6 l0 λv0 l1=>Dg I6 l1 λv1 l2=>Dg I6 l2 λv2 l3=>HF l3 (some ⟨v0,v1,v2⟩)
 |32,l0=>tkM I6 I6 l0 λv0 l1=>HF l1 (some v0)
 |33,l0=>SM .str l0 λv0 l1=>HF l1 (some v0)
 |34,l0=>tkM I6 .bool l0 λv0 l1=>HF l1 (some v0)
 |35,l0=>Dg .mref l0 λv0 l1=>HF l1 (some v0)
 |36,l0=>SM (.u 11) l0 λv0 l1=>HF l1 (some v0)
 |37,l0=>Dg I6 l0 λv0 l1=>Dg .bool l1 λv1 l2=>HF l2 (some ⟨v0,v1⟩)
 |38,l0=>tkM .str I6 l0 λv0 l1=>HF l1 (some v0)
 |39,l0=>SM (.u 5) l0 λv0 l1=>HF l1 (some v0)
 |40,l0=>Dg I6 l0 λv0 l1=>Dg I6 l1 λv1 l2=>HF l2 (some ⟨v0,v1⟩)
 |41,l0=>SM .ptr l0 λv0 l1=>HF l1 (some v0)
 |42,l0=>SM (.u 20) l0 λv0 l1=>HF l1 (some v0)
 |43,l0=>Dg I6 l0 λv0 l1=>Dg I6 l1 λv1 l2=>Dg I6 l2 λv2 l3=>Dg I6 l3 λv3 l4=>Dg I6 l4 λv4 l5=>HF l5 (some ⟨v0,v1,v2,v3,v4⟩)
 |44,l0=>Dg .ptr l0 λv0 l1=>HF l1 (some ⟨v0⟩)
 |45,l0=>Dg I6 l0 λv0 l1=>Dg .bool l1 λv1 l2=>Dg I6 l2 λv2 l3=>Dg I6 l3 λv3 l4=>Dg I6 l4 λv4 l5=>HF l5 (some ⟨v0,v1,⟨v2,v3,v4⟩⟩)
 |46,l0=>SM (.u 13) l0 λv0 l1=>HF l1 (some v0)
 |47,l0=>tkM (.u 17) I6 l0 λv0 l1=>HF l1 (some v0)
 |48,l0=>SM (.u 16) l0 λv0 l1=>HF l1 (some v0)
 |49,l0=>Dg I6 l0 λv0 l1=>Dg I6 l1 λv1 l2=>Dg I6 l2 λv2 l3=>Dg I6 l3 λv3 l4=>Dg I6 l4 λv4 l5=>Dg I6 l5 λv5 l6=>Dg I6 l6 λv6 l7=>Dg I6 l7 λv7 l8=>Dg I6 l8 λv8 l9=>HF l9 (some ⟨⟨v0,v1,v2,v3,v4⟩,v5,v6,v7,v8⟩)
 |50,l0=>Dg (.int .u32) l0 λv0 l1=>HF l1 (some v0)
 |51,l0=>Dg I6 l0 λv0 l1=>Dg I6 l1 λv1 l2=>HF l2 (some ⟨v0,v1⟩)
 |52,l0=>Dg I6 l0 λv0 l1=>Dg I6 l1 λv1 l2=>Dg I6 l2 λv2 l3=>HF l3 (some ⟨v0,v1,v2⟩)
 |53,l0=>Dg I6 l0 λv0 l1=>Dg I6 l1 λv1 l2=>Dg I6 l2 λv2 l3=>Dg I6 l3 λv3 l4=>HF l4 (some ⟨v0,⟨v1,v2,v3⟩⟩)
 |54,l0=>Dg I6 l0 λv0 l1=>Dg I6 l1 λv1 l2=>Dg I6 l2 λv2 l3=>Dg I6 l3 λv3 l4=>Dg I6 l4 λv4 l5=>Dg .bool l5 λv5 l6=>HF l6 (some ⟨⟨v0,⟨v1,v2,v3⟩⟩,v4,v5⟩)
 |55,l0=>tkM (.u 17) .bool l0 λv0 l1=>HF l1 (some v0)
 |56,l0=>SM (.u 17) l0 λv0 l1=>HF l1 (some v0)
 |57,l0=>Dg .str l0 λv0 l1=>Dg I6 l1 λv1 l2=>Dg I6 l2 λv2 l3=>Dg .str l3 λv3 l4=>Dg (.sl (.u 3)) l4 λv4 l5=>HF l5 (some ⟨v0,⟨v1,v2,v3,v4⟩⟩)
 |58,l0=>SM (.u 7) l0 λv0 l1=>HF l1 (some v0)
 |59,l0=>Dg I6 l0 λv0 l1=>Dg I6 l1 λv1 l2=>Dg I6 l2 λv2 l3=>Dg .str l3 λv3 l4=>Dg (.sl (.u 3)) l4 λv4 l5=>Dg (.sl (.u 7)) l5 λv5 l6=>HF l6 (some ⟨v0,⟨v1,v2,v3,v4⟩,v5⟩)
 |60,l0=>Dg .str l0 λv0 l1=>Dg I6 l1 λv1 l2=>Dg I6 l2 λv2 l3=>Dg I6 l3 λv3 l4=>Dg .str l4 λv4 l5=>Dg (.sl (.u 3)) l5 λv5 l6=>Dg (.sl (.u 7)) l6 λv6 l7=>HF l7 (some ⟨v0,⟨v1,⟨v2,v3,v4,v5⟩,v6⟩⟩)
 |_+61,l0=>HF l0 (some ())
theorem Azi:∀n l x,oUn n l=some x->oCl n x=l
 |0,l0,x,h0|1,l0,x,h0|2,l0,x,h0|3,l0,x,h0|4,l0,x,h0|5,l0,x,h0|6,l0,x,h0|7,l0,x,h0|8,l0,x,h0|9,l0,x,h0|10,l0,x,h0|11,l0,x,h0|12,l0,x,h0|13,l0,x,h0|14,l0,x,h0|15,l0,x,h0|16,l0,x,h0|17,l0,x,h0|18,l0,x,h0|19,l0,x,h0|20,l0,x,h0|21,l0,x,h0|22,l0,x,h0|23,l0,x,h0|24,l0,x,h0|25,l0,x,h0|26,l0,x,h0|27,l0,x,h0|28,l0,x,h0|29,l0,x,h0|30,l0,x,h0|31,l0,x,h0|32,l0,x,h0|33,l0,x,h0|34,l0,x,h0|35,l0,x,h0|36,l0,x,h0|37,l0,x,h0|38,l0,x,h0|39,l0,x,h0|40,l0,x,h0|41,l0,x,h0|42,l0,x,h0|43,l0,x,h0|44,l0,x,h0|45,l0,x,h0|46,l0,x,h0|47,l0,x,h0|48,l0,x,h0|49,l0,x,h0|50,l0,x,h0|51,l0,x,h0|52,l0,x,h0|53,l0,x,h0|54,l0,x,h0|55,l0,x,h0|56,l0,x,h0|57,l0,x,h0|58,l0,x,h0|59,l0,x,h0|60,l0,x,h0=>by simp only[oUn]at h0;(repeat first|(obtain⟨_,_,e,h1⟩:=At9 h0;clear h0;subst e;have h0:=h1;clear h1)|(obtain⟨_,_,e,h1⟩:=At6 h0;clear h0;subst e;have h0:=h1;clear h1)|(obtain⟨_,_,e,h1⟩:=At8 h0;clear h0;subst e;have h0:=h1;clear h1)|(obtain⟨_,_,e,h1⟩:=At7 h0;clear h0;subst e;have h0:=h1;clear h1));obtain⟨e,h⟩:=Amk h0;subst e;cases h;rfl
 |_+61,l0,x,h0=>by obtain⟨e,h⟩:=Amk h0;subst e;rfl
def okL:List (Option Nat):=[none,none,some 8,some 8,some 9,some 10,none,none,none,some 11,none,none,some 12,none,none,none,none,none,none,none,none,some 13,some 14,some 15,some 16,some 17,some 17,some 18,some 19,some 19,none,none,none,some 20,some 21,some 21,none,none,some 8,none,none,some 22,some 22,none,none,none,none,none,none,none,none,none,some 23,some 23,some 24,none,none,none,none,none,none,some 25,some 26,some 27,some 27,none,none,none,none,some 28,none,none,none,none,some 29,none,none,some 30,some 30,none,none,none,none,none,none,none,some 31,some 31,none,none,none,none,some 20,none,none,none,none,none,none,some 20,some 20,some 32,some 0,some 0,none,some 33,none,none,none,none,none,none,none,none,some 34,some 1,some 1,none,none,none,none,none,some 35,none,none,none,none,none,none,none,none,none,none,none,some 36,some 37,some 37,none,none,none,some 8,none,none,none,none,none,none,none,none,none,none,none,none,none,none,some 38,none,none,none,none,none,none,none,none,none,some 39,none,none,none,none,none,none,some 20,none,none,none,none,none,some 40,none,none,none,none,some 12,none,none,none,none,none,none,none,none,some 20,none,none,some 20,some 2,some 2,some 41,some 3,some 3,some 20,none,some 42,some 4,some 4,none,none,none,none,none,none,none,none,none,none,none,none,none,none,none,none,some 43,some 43,none,none,none,none,some 44,some 44,some 45,some 45,none,none,none,none,none,some 12,none,none,none,none,none,none,none,some 46,some 6,some 6,some 47,some 7,some 7,none,none,none,some 48,none,none,none,some 49,some 49,none,none,none,none,none,none,none,none,none,none,none,none,none,none,none,none,none,none,some 8,none,none,none,none,none,none,some 50,none,none,some 51,some 52,some 53,some 53,some 20,none,some 54,some 54,some 15,none,none,none,none,none,none,none,some 55,some 56,none,none,none,none,some 12,none,none,none,some 20,none,none,none,none,none,none,none,none,none,none,some 20,none,none,none,none,none,none,none,none,none,none,none,none,none,none,none,none,none,none,none,none,some 20,none,none,none,none,some 57,some 57,some 58,some 59,some 59,some 60,some 60,none]
def tyL:List (Option Ty):=[none,none,some (.int .i64),some (.int .i64),some .bool,some (.int .u8),none,none,none,some .str,none,none,some (.int .u64),none,none,none,none,none,none,none,none,some (.int .i32),some (.sl (.u 0)),some (.sl I6),some (.sl (.u 1)),some (.u 2),some (.u 2),some (.sl (.u 3)),some (.u 3),some (.u 3),none,none,none,some .ptr,some (.u 4),some (.u 4),none,none,some (.int .i64),none,none,some (.u 5),some (.u 5),none,none,none,none,none,none,none,none,none,some (.u 0),some (.u 0),some (.sl .bool),none,none,none,none,none,none,some (.sl (.u 6)),some (.sl (.u 8)),some (.u 9),some (.u 9),none,none,none,none,some (.sl (.sl I6)),none,none,none,none,some (.sl (.u 10)),none,none,some (.u 10),some (.u 10),none,none,none,none,none,none,none,some (.u 1),some (.u 1),none,none,none,none,some .ptr,none,none,none,none,none,none,some .ptr,some .ptr,none,none,none,none,some (.sl .str),none,none,none,none,none,none,none,none,none,none,none,none,none,none,none,none,some .mref,none,none,none,none,none,none,none,none,none,none,none,some (.sl (.u 11)),some (.u 11),some (.u 11),none,none,none,some (.int .i64),none,none,none,none,none,none,none,none,none,none,none,none,none,none,none,none,none,none,none,none,none,none,none,none,some (.sl (.u 5)),none,none,none,none,none,none,some .ptr,none,none,none,none,none,some (.u 12),none,none,none,none,some (.int .u64),none,none,none,none,none,none,none,none,some .ptr,none,none,some .ptr,none,none,some (.sl .ptr),none,none,some .ptr,none,some (.sl (.u 20)),none,none,none,none,none,none,none,none,none,none,none,none,none,none,none,none,none,none,some (.u 13),some (.u 13),none,none,none,none,some (.u 14),some (.u 14),some (.u 15),some (.u 15),none,none,none,none,none,some (.int .u64),none,none,none,none,none,none,none,some (.sl (.u 13)),none,none,none,none,none,none,none,none,some (.sl (.u 16)),none,none,none,some (.u 16),some (.u 16),none,none,none,none,none,none,none,none,none,none,none,none,none,none,none,none,none,none,some (.int .i64),none,none,none,none,none,none,some (.int .u32),none,none,some (.u 17),some (.u 18),some (.u 19),some (.u 19),some .ptr,none,some (.u 20),some (.u 20),some (.sl I6),none,none,none,none,none,none,none,none,some (.sl (.u 17)),none,none,none,none,some (.int .u64),none,none,none,some .ptr,none,none,none,none,none,none,none,none,none,none,some .ptr,none,none,none,none,none,none,none,none,none,none,none,none,none,none,none,none,none,none,none,none,some .ptr,none,none,none,none,some (.u 6),some (.u 6),some (.sl (.u 7)),some (.u 7),some (.u 7),some (.u 8),some (.u 8),none]
noncomputable def kmA(t:TypeId):Ty->Bool
 |.u 12|.u 17=>arB Tryz.prog t
 |_=>false
theorem Azz(t:TypeId)(k:Ty)(h:(kmI Tryz.prog t k ||kmS Tryz.prog t k ||kmA t k)=true):@Jp Tryz.prog t (den uS.D k) (RT uS k) (Ew uS Ah7 k):=by
 rw[Bool.or_eq_true,Bool.or_eq_true]at h;rcases h with (h|h)|h
 .exact Av8 h
 .exact Av7 h
 .unfold kmA at h;split at h
  .exact Agr (S:=uS) (n:=12) (p:=λx=>x.a0) (q:=λx=>x.a1) (λ_=>rfl) (by intro x y;cases x;cases y;rintro rfl rfl;rfl) h
  .exact Agr (S:=uS) (n:=17) (p:=λx=>x.a0) (q:=λx=>x.a1) (λ_=>rfl) (by intro x y;cases x;cases y;rintro rfl rfl;rfl) h
  .cases h
noncomputable def eqA(t:TypeId):Ty->Bool
 |.u 12|.u 17=>arB Tryz.prog t&&!(Tryz.prog.eqGuardType Tryz.prog.depth t)
 | .u 19=>ksB Tryz.prog t
 |_=>false
theorem A3p(t:TypeId)(k:Ty)(h:eqA t k=true):Tryz.prog.eqGuardType Tryz.prog.depth t=false/\∀I w v u(x y:den uS.D k),rp uS k I w v x->rp uS k I w u y->∀w',(Op.equal t v u).run Tryz.prog w'=.ok (@decide (x=y) (Ew uS Ah7 k x y)) w':=by
 unfold eqA at h;split at h
 .refine⟨(ZQ (w:=default) h (a:=0) (b:=0) (a':=0) (b':=0)).1,λI w v u x y hx hy w'=>?_⟩;obtain⟨cs,rfl,hF⟩:=Hq.1 hx;obtain⟨ds,rfl,hG⟩:=Hq.1 hy;obtain rfl:cs=[.int .i64 x.a0,.int .i64 x.a1]:=by cases hF with|cons a1 a2=>cases a2 with|cons b1 b2=>cases b2;rw[(AX.1 a1).1,(AX.1 b1).1]
  obtain rfl:ds=[.int .i64 y.a0,.int .i64 y.a1]:=by cases hG with|cons a1 a2=>cases a2 with|cons b1 b2=>cases b2;rw[(AX.1 a1).1,(AX.1 b1).1]
  rw[(ZQ h).2];refine congrArg (Result.ok · w') (Bool.eq_iff_iff.2 ?_);rw[@decide_eq_true_iff _ (Ew uS Ah7 _ x y)];simp only[Bool.and_eq_true,beq_iff_eq];exact⟨λe=>by cases x;cases y;obtain⟨e1,e2⟩:=e;cases e1;cases e2;rfl,λe=>by cases e;exact⟨rfl,rfl⟩⟩
 .refine⟨(ZQ (w:=default) h (a:=0) (b:=0) (a':=0) (b':=0)).1,λI w v u x y hx hy w'=>?_⟩;obtain⟨cs,rfl,hF⟩:=Hq.1 hx;obtain⟨ds,rfl,hG⟩:=Hq.1 hy;obtain rfl:cs=[.int .i64 x.a0,.int .i64 x.a1]:=by cases hF with|cons a1 a2=>cases a2 with|cons b1 b2=>cases b2;rw[(AX.1 a1).1,(AX.1 b1).1]
  obtain rfl:ds=[.int .i64 y.a0,.int .i64 y.a1]:=by cases hG with|cons a1 a2=>cases a2 with|cons b1 b2=>cases b2;rw[(AX.1 a1).1,(AX.1 b1).1]
  rw[(ZQ h).2];refine congrArg (Result.ok · w') (Bool.eq_iff_iff.2 ?_);rw[@decide_eq_true_iff _ (Ew uS Ah7 _ x y)];simp only[Bool.and_eq_true,beq_iff_eq];exact⟨λe=>by cases x;cases y;obtain⟨e1,e2⟩:=e;cases e1;cases e2;rfl,λe=>by cases e;exact⟨rfl,rfl⟩⟩
 .refine⟨(Am1 (w:=default) h (o:=0) (a:=0) (b:=0) (c:=0) (o':=0) (a':=0) (b':=0) (c':=0)).1,λI w v u x y hx hy w'=>?_⟩;obtain⟨cs,rfl,hF⟩:=Hq.1 hx;obtain⟨ds,rfl,hG⟩:=Hq.1 hy;obtain rfl:cs=[.int .i64 x.op,.int .i64 x.Cm.a0,.int .i64 x.Cm.a1,.int .i64 x.Cm.a2]:=by cases hF with|cons a1 a2=>cases a2 with|cons b1 b2=>cases b2 with|cons c1 c2=>cases c2 with|cons d1 d2=>cases d2;rw[(AX.1 a1).1,(AX.1 b1).1,(AX.1 c1).1,(AX.1 d1).1]
  obtain rfl:ds=[.int .i64 y.op,.int .i64 y.Cm.a0,.int .i64 y.Cm.a1,.int .i64 y.Cm.a2]:=by cases hG with|cons a1 a2=>cases a2 with|cons b1 b2=>cases b2 with|cons c1 c2=>cases c2 with|cons d1 d2=>cases d2;rw[(AX.1 a1).1,(AX.1 b1).1,(AX.1 c1).1,(AX.1 d1).1]
  rw[(Am1 h).2];refine congrArg (Result.ok · w') (Bool.eq_iff_iff.2 ?_);rw[@decide_eq_true_iff _ (Ew uS Ah7 _ x y)];simp only[Bool.and_eq_true,beq_iff_eq];exact⟨λe=>by cases x with|mk o x=>cases y with|mk p y=>cases x;cases y;obtain⟨e1,e2,e3,e4⟩:=e;cases e1;cases e2;cases e3;cases e4;rfl,λe=>by cases e;exact⟨rfl,rfl,rfl,rfl⟩⟩
 .cases h
def GY:List ByteArray:=[⟨#[65]⟩,⟨#[65,70]⟩,⟨#[65,71]⟩,⟨#[65,88]⟩,⟨#[69]⟩,⟨#[69,70]⟩,⟨#[69,71]⟩,⟨#[69,88]⟩,⟨#[85]⟩,⟨#[98,111,111,108]⟩,⟨#[100,101,102]⟩,⟨#[101,108,115,101]⟩,⟨#[102,97,105,114]⟩,⟨#[102,97,108,115,101]⟩,⟨#[105,102]⟩,⟨#[105,110,105,116]⟩,⟨#[105,110,118,97,114]⟩,⟨#[109,111,100]⟩,⟨#[110,101,120,116]⟩,⟨#[115,112,101,99]⟩,⟨#[116,104,101,110]⟩,⟨#[116,114,97,110,115]⟩,⟨#[116,114,117,101]⟩,⟨#[118,97,114]⟩]
noncomputable def Awq:Nat->Option ((T:Go.Y.Ty)×List (Go.Y.den uS.D T)):=λg=>if g=0 then some ⟨.str,GY⟩ else none
noncomputable def Y0:Go.Y.Sys:={uS with
 P:=Tryz.prog,ty:=λt=>(tyL[t]?).join,deq:=Ah7,gls:=Awq,O:=oD,Aly:=A2p,ocl:=oCl,oun:=oUn,Alx:=Azi,ok:=λt=>(okL[t]?).join,km:=λt k=>kmI Tryz.prog t k ||kmS Tryz.prog t k ||kmA t k,Am3:=Azz,eqs:=eqA,Ati:=A3p}
abbrev HY:=HH Y0
abbrev HP:=HH Y0->Prop
abbrev UU:=Unit->HH Y0->Prop
abbrev PX:=TF Y0
end Go.Proofs.YtcbkbpjlbmalmaaGreatDoor
namespace Go.B
section
abbrev As:=Int->Bool
abbrev Fn:=As->Bool
structure Nd where
 v:Int
 lo:Int
 hi:Int
deriving DecidableEq
abbrev Tb:=Int->Option Nd
def ev(N:Tb):Nat->Int->As->Bool
 |0,_,_=>false
 |k+1,e,a=>if e/2=0 then decide (e%2=0) else match N (e/2) with
  |none=>false
  |some d=>(decide (e%2=1)) ^^ ev N k (if a d.v=true then d.hi else d.lo) a
def den(N:Tb)(e:Int):Fn:=ev N 65 e
structure Od(n:Int)(lv:Int->Int):Prop where
 n64:n<=64
 MT:∀v,0<=v->v<n->0<=lv v/\lv v<n
 inj:∀v w,0<=v->v<n->0<=w->w<n->lv v=lv w->v=w
def el(n:Int)(lv:Int->Int)(N:Tb)(e:Int):Int:=if e/2=0 then n else match N (e/2) with
 |none=>n
 |some d=>lv d.v
def Ok(N:Tb)(e:Int):Prop:=0<=e/\(e/2=0∨∃d,N (e/2)=some d)
structure Good(n:Int)(lv:Int->Int)(N:Tb):Prop where
 od:Od n lv
 var:∀{i d},N i=some d->0<i/\0<=d.v/\d.v<n
 lo:∀{i d},N i=some d->Ok N d.lo/\lv d.v<el n lv N d.lo
 hi:∀{i d},N i=some d->Ok N d.hi/\lv d.v<el n lv N d.hi
 ne:∀{i d},N i=some d->d.lo≠d.hi
 reg:∀{i d},N i=some d->d.hi%2=0
 XD:∀{i j d},N i=some d->N j=some d->i=j
section
variable {n:Int} {lv:Int->Int} {N:Tb}
variable {e:Int}
theorem Cw(h:e/2=0):el n lv N e=n:=by unfold el;rw[if_pos h]
variable {d:Nd}
theorem Bl(h:e/2≠0)(hd:N (e/2)=some d):el n lv N e=lv d.v:=by unfold el;rw[if_neg h,hd]
theorem Good.Wf(g:Good n lv N)(h:Ok N e)(hn:0<=n):0<=el n lv N e/\el n lv N e<=n:=by
 rcases h.2 with h0|⟨d,hd⟩
 .rw[Cw h0];omega
 .by_cases h0:e/2=0
  .rw[Cw h0];omega
  .rw[Bl h0 hd];have:=g.var hd;have:=g.od.MT d.v this.2.1 this.2.2;omega
variable {k:Nat} {a:As}
theorem JS(h:e/2=0):ev N (k+1) e a=decide (e%2=0):=by simp only[ev];rw[if_pos h]
theorem L9(h:e/2≠0)(hd:N (e/2)=some d):ev N (k+1) e a=((decide (e%2=1)) ^^ ev N k (if a d.v=true then d.hi else d.lo) a):=by simp only[ev];rw[if_neg h,hd]
variable {M:Tb}
theorem Good.Wc(g:Good n lv N)(hM:∀i d,N i=some d->M i=some d):∀(k m:Nat)(e:Int)(a:As),Ok N e->n-el n lv N e<k->n-el n lv N e<m->ev M m e a=ev N k e a
 |0,m,e,a,h,hk,hm=>by
  exfalso;rcases h.2 with h0|⟨d,hd⟩
  .rw[Cw h0]at hk;omega
  .by_cases h0:e/2=0
   .rw[Cw h0]at hk;omega
   .rw[Bl h0 hd]at hk;have:=g.var hd;have:=g.od.MT d.v this.2.1 this.2.2;omega
 |k+1,0,e,a,h,hk,hm=>by
  exfalso;rcases h.2 with h0|⟨d,hd⟩
  .rw[Cw h0]at hm;omega
  .by_cases h0:e/2=0
   .rw[Cw h0]at hm;omega
   .rw[Bl h0 hd]at hm;have:=g.var hd;have:=g.od.MT d.v this.2.1 this.2.2;omega
 |k+1,m+1,e,a,h,hk,hm=>by
  by_cases h0:e/2=0
  .rw[JS h0,JS h0]
  .obtain⟨d,hd⟩:=h.2.resolve_left h0;rw[L9 h0 hd,L9 h0 (hM _ _ hd)];rw[Bl h0 hd]at hk hm;congr 1;obtain⟨l1,l2⟩:=g.lo hd;obtain⟨u1,u2⟩:=g.hi hd;split
   .exact g.Wc hM k m _ a u1 (by omega) (by omega)
   .exact g.Wc hM k m _ a l1 (by omega) (by omega)
theorem Good.fuel(g:Good n lv N)(hn:0<=n)(h:Ok N e):n-el n lv N e<65:=by have:=g.Wf h hn;have:=g.od.n64;omega
theorem Good.Ahe(g:Good n lv N)(hn:0<=n)(hM:∀i d,N i=some d->M i=some d)(h:Ok N e):den M e=den N e:=by funext a;exact g.Wc hM 65 65 e a h (g.fuel hn h) (g.fuel hn h)
theorem Ok.ext(hM:∀i d,N i=some d->M i=some d)(h:Ok N e):Ok M e:=⟨h.1,h.2.imp id λ⟨d,hd⟩=>⟨d,hM _ _ hd⟩⟩
theorem OP(hM:∀i d,N i=some d->M i=some d)(h:Ok N e):el n lv M e=el n lv N e:=by
 by_cases h0:e/2=0
 .rw[Cw h0,Cw h0]
 .obtain⟨d,hd⟩:=h.2.resolve_left h0;rw[Bl h0 hd,Bl h0 (hM _ _ hd)]
theorem MM(h:e/2=0):den N e=λ_=>decide (e%2=0):=by funext a;exact JS h
theorem JA:den N 0=λ_=>true:=by rw[MM (by decide)];rfl
theorem FM:den N 1=λ_=>false:=by rw[MM (by decide)];rfl
theorem Good.IK(g:Good n lv N)(hn:0<=n)(h0:e/2≠0)(hd:N (e/2)=some d)(a:As):den N e a=((decide (e%2=1)) ^^ (if a d.v=true then den N d.hi a else den N d.lo a)):=by
 have hl:=g.lo hd;have hh:=g.hi hd;have hv:=g.var hd;have hr:=g.od.MT d.v hv.2.1 hv.2.2;have h64:=g.od.n64;unfold den;rw[L9 (k:=64) h0 hd];congr 1;split
 .exact(g.Wc (λ_ _ h=>h) 65 64 _ a hh.1 (by omega) (by omega))
 .exact(g.Wc (λ_ _ h=>h) 65 64 _ a hl.1 (by omega) (by omega))
def flip(e:Int):Int:=if e%2=0 then e+1 else e-1
theorem Lc:flip e/2=e/2:=by unfold flip;split<;>omega
theorem Sl:flip e%2=1-e%2:=by unfold flip;split<;>omega
theorem flip_flip:flip (flip e)=e:=by unfold flip;split<;>split<;>omega
theorem Acd(h:0<=e):0<=flip e:=by unfold flip;split<;>omega
theorem Ok.flip(h:Ok N e):Ok N (flip e):=⟨Acd h.1,by rw[Lc];exact h.2⟩
theorem Arn:el n lv N (flip e)=el n lv N e:=by unfold el;rw[Lc]
theorem Arl(h:Ok N e):ev N (k+1) (flip e) a=!(ev N (k+1) e a):=by
 by_cases h0:e/2=0
 .rw[JS h0,JS (by rw[Lc];exact h0),Sl];rcases Int.emod_two_eq e with h1|h1<;>simp [h1]
 .obtain⟨d,hd⟩:=h.2.resolve_left h0;rw[L9 h0 hd,L9 (by rw[Lc];exact h0) (by rw[Lc];exact hd),Sl];rcases Int.emod_two_eq e with h1|h1<;>simp [h1]
theorem Lj(h:Ok N e):den N (flip e)=λa=>!(den N e a):=by funext a;exact Arl h
theorem Good.Aey(g:Good n lv N):∀(k:Nat)(e:Int)(a b:As),Ok N e->(∀v,0<=v->v<n->el n lv N e<=lv v->a v=b v)->ev N k e a=ev N k e b
 |0,_,_,_,_,_=>rfl
 |k+1,e,a,b,h,hab=>by
  by_cases h0:e/2=0
  .rw[JS h0,JS h0]
  .obtain⟨d,hd⟩:=h.2.resolve_left h0;rw[L9 h0 hd,L9 h0 hd];rw[Bl h0 hd]at hab;have hv:=g.var hd;obtain⟨l1,l2⟩:=g.lo hd;obtain⟨u1,u2⟩:=g.hi hd;rw[<-hab d.v hv.2.1 hv.2.2 (Int.le_refl _)];congr 1;split
   .exact g.Aey k _ a b u1 λv h1 h2 h3=>hab v h1 h2 (by omega)
   .exact g.Aey k _ a b l1 λv h1 h2 h3=>hab v h1 h2 (by omega)
theorem Good.Sz(g:Good n lv N){b:As}(h:Ok N e)(hab:∀v,0<=v->v<n->el n lv N e<=lv v->a v=b v):den N e a=den N e b:=g.Aey 65 e a b h hab
def Aat(a:As)(v:Int)(b:Bool):As:=λw=>if w=v then b else a w
variable {v:Int} {b:Bool}
theorem Pl:Aat a v b v=b:=if_pos rfl
theorem Ap0{w:Int}(h:w≠v):Aat a v b w=a w:=if_neg h
theorem Good.Py(g:Good n lv N)(h:Ok N e)(hv0:0<=v)(hvn:v<n)(hl:lv v<el n lv N e):den N e (Aat a v b)=den N e a:=by refine g.Sz h λw h1 h2 h3=>Ap0 ?_;intro e;subst e;omega
theorem Good.Anr(g:Good n lv N):∀(k:Nat)(e:Int),Ok N e->n-el n lv N e<k->ev N k e (λ_=>true)=decide (e%2=0)
 |0,e,h,hk=>by
  exfalso;rcases h.2 with h0|⟨d,hd⟩
  .rw[Cw h0]at hk;omega
  .by_cases h0:e/2=0
   .rw[Cw h0]at hk;omega
   .rw[Bl h0 hd]at hk;have:=g.var hd;have:=g.od.MT d.v this.2.1 this.2.2;omega
 |k+1,e,h,hk=>by
  by_cases h0:e/2=0
  .rw[JS h0]
  .obtain⟨d,hd⟩:=h.2.resolve_left h0;rw[L9 h0 hd];rw[Bl h0 hd]at hk;obtain⟨u1,u2⟩:=g.hi hd;rw[if_pos rfl,g.Anr k d.hi u1 (by omega),g.reg hd];rcases Int.emod_two_eq e with h1|h1<;>simp [h1]
theorem Good.UF(g:Good n lv N)(hn:0<=n)(h:Ok N e):den N e (λ_=>true)=decide (e%2=0):=g.Anr 65 e h (g.fuel hn h)
variable {f:Int}
theorem Good.sign(g:Good n lv N)(hn:0<=n)(he:Ok N e)(hf:Ok N f)(h:den N e=den N f):e%2=f%2:=by have h1:=g.UF hn he;have h2:=g.UF hn hf;rw[h,h2]at h1;rcases Int.emod_two_eq e with h3|h3<;>rcases Int.emod_two_eq f with h4|h4<;>simp [h3,h4]at h1 ⊢
theorem Good.cof(g:Good n lv N)(hn:0<=n)(h0:e/2≠0)(hd:N (e/2)=some d)(b:Bool)(a:As):den N e (Aat a d.v b)=((decide (e%2=1)) ^^ den N (if b=true then d.hi else d.lo) a):=by have hv:=g.var hd;obtain⟨l1,l2⟩:=g.lo hd;obtain⟨u1,u2⟩:=g.hi hd;rw[g.IK hn h0 hd,Pl,g.Py u1 hv.2.1 hv.2.2 u2,g.Py l1 hv.2.1 hv.2.2 l2];cases b<;>rfl
theorem xor_left_inj{a c:Bool}(h:(a ^^ b)=(a ^^ c)):b=c:=by cases a<;>cases b<;>cases c<;>simp_all
theorem Good.canon(g:Good n lv N)(hn:0<=n):∀(k:Nat)(e f:Int),Ok N e->Ok N f->n-el n lv N e<k->n-el n lv N f<k->den N e=den N f->e=f
 |0,e,f,he,_,hk,_,_=>by have:=g.Wf he hn;omega
 |k+1,e,f,he,hf,hke,hkf,h=>by
  have hs:=g.sign hn he hf h;have key:∀{e f:Int},Ok N e->Ok N f->n-el n lv N e<k+1->den N e=den N f->el n lv N e<el n lv N f->False:=by
   intro e f he hf hke h hlt;have h0:e/2≠0:=λh0=>by rw[Cw h0]at hlt;have:=g.Wf hf hn;omega
   obtain⟨d,hd⟩:=he.2.resolve_left h0;have hv:=g.var hd;rw[Bl h0 hd]at hlt hke;obtain⟨l1,l2⟩:=g.lo hd;obtain⟨u1,u2⟩:=g.hi hd;refine g.ne hd (g.canon hn k d.lo d.hi l1 u1 (by omega) (by omega) ?_);funext a;have h1:=g.cof hn h0 hd false a;have h2:=g.cof hn h0 hd true a;rw[h,g.Py hf hv.2.1 hv.2.2 hlt]at h1 h2;exact xor_left_inj (h1.symm.trans h2)
  have hle:el n lv N e=el n lv N f:=by
   rcases Int.lt_trichotomy (el n lv N e) (el n lv N f) with h1|h1|h1
   .exact(key he hf hke h h1).elim
   .exact h1
   .exact(key hf he hkf h.symm h1).elim
  by_cases h0:e/2=0
  .by_cases h1:f/2=0
   .omega
   .obtain⟨d,hd⟩:=hf.2.resolve_left h1;rw[Cw h0,Bl h1 hd]at hle;have hv:=g.var hd;have:=g.od.MT d.v hv.2.1 hv.2.2;omega
  .obtain⟨d,hd⟩:=he.2.resolve_left h0;by_cases h1:f/2=0
   .rw[Cw h1,Bl h0 hd]at hle;have hv:=g.var hd;have:=g.od.MT d.v hv.2.1 hv.2.2;omega
   .obtain⟨d',hd'⟩:=hf.2.resolve_left h1;rw[Bl h0 hd,Bl h1 hd']at hle;rw[Bl h0 hd]at hke;rw[Bl h1 hd']at hkf;have hv:=g.var hd;have hv':=g.var hd';have hvv:=g.od.inj _ _ hv.2.1 hv.2.2 hv'.2.1 hv'.2.2 hle;obtain⟨l1,l2⟩:=g.lo hd;obtain⟨u1,u2⟩:=g.hi hd;obtain⟨l1',l2'⟩:=g.lo hd';obtain⟨u1',u2'⟩:=g.hi hd';have hc:∀b:Bool,den N (if b=true then d.hi else d.lo)=den N (if b=true then d'.hi else d'.lo):=λb=>by funext a;have h2:=g.cof hn h0 hd b a;have h3:=g.cof hn h1 hd' b a;rw[<-hvv,<-h,h2,hs]at h3;exact xor_left_inj h3
    have hlo:d.lo=d'.lo:=g.canon hn k _ _ l1 l1' (by omega) (by omega) (hc false);have hhi:d.hi=d'.hi:=g.canon hn k _ _ u1 u1' (by omega) (by omega) (hc true);have hdd:d=d':=by cases d;cases d';simp_all
    subst hdd;have:=g.XD hd hd';omega
theorem Good.eq(g:Good n lv N)(hn:0<=n)(he:Ok N e)(hf:Ok N f)(h:den N e=den N f):e=f:=g.canon hn 65 e f he hf (g.fuel hn he) (g.fuel hn hf) h
theorem Good.eq_iff(g:Good n lv N)(hn:0<=n)(he:Ok N e)(hf:Ok N f):e=f↔den N e=den N f:=⟨λh=>by rw[h],g.eq hn he hf⟩
theorem U6:Ok N 0:=⟨by omega,.inl (by decide)⟩
theorem ok_one:Ok N 1:=⟨by omega,.inl (by decide)⟩
def IQ(N:Tb)(i:Int)(d:Nd):Tb:=λj=>if j=i then some d else N j
variable {i:Int}
theorem TE:IQ N i d i=some d:=if_pos rfl
theorem SH(h:N i=none):∀j c,N j=some c->IQ N i d j=some c:=by intro j c hj;unfold IQ;rw[if_neg];exact hj;intro e;subst e;rw[h]at hj;cases hj
theorem Good.add(g:Good n lv N){lo hi:Int}(hi0:0<i)(hfree:N i=none)(hv0:0<=v)(hvn:v<n)(hlo:Ok N lo)(hhi:Ok N hi)(hl:lv v<el n lv N lo)(hh:lv v<el n lv N hi)(hne:lo≠hi)(hreg:hi%2=0)(hnew:∀j,N j≠some ⟨v,lo,hi⟩):Good n lv (IQ N i ⟨v,lo,hi⟩):=by
 have hx:=SH (d:=⟨v,lo,hi⟩) hfree;have cs:∀{j d},IQ N i ⟨v,lo,hi⟩ j=some d->(j=i/\d=⟨v,lo,hi⟩)∨N j=some d:=by
  intro j d h;unfold IQ at h;split at h
  .rename_i e;cases h;exact .inl ⟨e,rfl⟩
  .exact .inr h
 refine⟨g.od,?_,?_,?_,?_,?_,?_⟩
 .intro j d h;rcases cs h with ⟨rfl,rfl⟩|h
  .exact⟨hi0,hv0,hvn⟩
  .exact g.var h
 .intro j d h;rcases cs h with ⟨rfl,rfl⟩|h
  .exact⟨hlo.ext hx,by rw[OP hx hlo];exact hl⟩
  .have:=g.lo h;exact⟨this.1.ext hx,by rw[OP hx this.1];exact this.2⟩
 .intro j d h;rcases cs h with ⟨rfl,rfl⟩|h
  .exact⟨hhi.ext hx,by rw[OP hx hhi];exact hh⟩
  .have:=g.hi h;exact⟨this.1.ext hx,by rw[OP hx this.1];exact this.2⟩
 .intro j d h;rcases cs h with ⟨rfl,rfl⟩|h
  .exact hne
  .exact g.ne h
 .intro j d h;rcases cs h with ⟨rfl,rfl⟩|h
  .exact hreg
  .exact g.reg h
 .intro j k d h1 h2;rcases cs h1 with ⟨e1,e2⟩|h1<;>rcases cs h2 with ⟨e3,e4⟩|h2
  .rw[e1,e3]
  .rw[e2]at h2;exact(hnew _ h2).elim
  .rw[e4]at h1;exact(hnew _ h1).elim
  .exact g.XD h1 h2
theorem Good.cut(g:Good n lv N)(hn:0<=n)(hM:∀i d,M i=some d->N i=some d)(hc:∀i d,M i=some d->Ok M d.lo/\Ok M d.hi):Good n lv M/\∀e,Ok M e->den M e=den N e/\el n lv M e=el n lv N e:=by
 have hg:Good n lv M:=by
  refine⟨g.od,λh=>g.var (hM _ _ h),λh=>?_,λh=>?_,λh=>g.ne (hM _ _ h),λh=>g.reg (hM _ _ h),λh1 h2=>g.XD (hM _ _ h1) (hM _ _ h2)⟩
  .have h1:=(hc _ _ h).1;exact⟨h1,by rw[<-OP hM h1];exact(g.lo (hM _ _ h)).2⟩
  .have h1:=(hc _ _ h).2;exact⟨h1,by rw[<-OP hM h1];exact(g.hi (hM _ _ h)).2⟩
 exact⟨hg,λe he=>⟨(hg.Ahe hn hM he).symm,(OP hM he).symm⟩⟩
end
end
section
def sm:Nat->(Int->Int)->Int
 |0,_=>0
 |k+1,f=>sm k f+f k
theorem Ff{f g:Int->Int}:∀{m:Nat},(∀k:Int,0<=k->k<m->f k=g k)->sm m f=sm m g
 |0,_=>rfl
 |m+1,h=>by show sm m f+f m=sm m g+g m;rw[Ff (m:=m) λk h0 h1=>h k h0 (by omega),h m (by omega) (by omega)]
theorem Ak9{f g:Int->Int}:∀{m:Nat},sm m (λk=>f k+g k)=sm m f+sm m g
 |0=>rfl
 |m+1=>by show sm m _+(f m+g m)=(sm m f+f m)+(sm m g+g m);rw[Ak9 (m:=m)];omega
theorem Td{f:Int->Int}:∀{m:Nat},(∀k:Int,0<=k->k<m->0<=f k)->0<=sm m f
 |0,_=>Int.le_refl _
 |m+1,h=>by show 0<=sm m f+f m;have:=Td (m:=m) λk h0 h1=>h k h0 (by omega);have:=h m (by omega) (by omega);omega
theorem Af1{f g:Int->Int}:∀{m:Nat},(∀k:Int,0<=k->k<m->f k<=g k)->sm m f<=sm m g
 |0,_=>Int.le_refl _
 |m+1,h=>by show sm m f+f m<=sm m g+g m;have:=Af1 (m:=m) λk h0 h1=>h k h0 (by omega);have:=h m (by omega) (by omega);omega
theorem U4{m:Nat}:sm m (λ_=>0)=0:=by
 induction m with
 |zero=>rfl
 |succ m ih=>show sm m _+0=0;rw[ih];rfl
theorem Aaq{m:Nat}{c:Int}:sm m (λ_=>c)=m*c:=by
 induction m with
 |zero=>show (0:Int)=_;simp
 |succ m ih=>show sm m _+c=_;rw[ih,Int.natCast_add,Int.add_mul];simp
theorem Ad2{i c:Int}:∀{m:Nat},0<=i->i<m->sm m (λk=>if k=i then c else 0)=c
 |0,h0,h1=>by omega
 |m+1,h0,h1=>by
  show sm m _+(if (m:Int)=i then c else 0)=c;by_cases h:(m:Int)=i
  .rw[if_pos h];have:sm m (λk=>if k=i then c else 0)=sm m (λ_=>0):=Ff λk h2 h3=>if_neg (by omega);rw[this,U4];omega
  .rw[if_neg h,Ad2 (m:=m) h0 (by omega)];omega
variable {i:Int}
theorem Asx{f:Int->Int}{m:Nat}(h:∀k:Int,0<=k->k<m->0<=f k)(h0:0<=i)(h1:i<m):f i<=sm m f:=by have h2:sm m (λk=>if k=i then f i else 0)=f i:=Ad2 h0 h1;rw[<-h2];exact Af1 λk h3 h4=>by by_cases e:k=i<;>simp only[e,if_true,if_false]<;>first|exact Int.le_refl _|exact h k h3 h4
theorem Te{f g:Int->Int}{m:Nat}(h0:0<=i)(h1:i<m)(h:∀k,k≠i->f k=g k):sm m f=sm m g+(f i-g i):=by
 have h2:sm m (λk=>if k=i then f i-g i else 0)=f i-g i:=Ad2 h0 h1;rw[<-h2,<-Ak9];refine Ff λk _ _=>?_;by_cases e:k=i
 .rw[if_pos e,e];omega
 .rw[if_neg e,h k e];omega
theorem YO{f:Int->Int}{m:Nat}:∀{q:Nat},m<=q->(∀k:Int,m<=k->k<q->f k=0)->sm q f=sm m f
 |0,h,_=>by
  have:m=0:=by omega
  rw[this]
 |q+1,h,hz=>by
  by_cases e:m=q+1
  .rw[e]
  .show sm q f+f q=_;rw[YO (q:=q) (by omega) λk h1 h2=>hz k h1 (by omega),hz q (by omega) (by omega)];omega
def dl(f i:Int):Int:=if f/2=i then 1 else 0
def mu(d:Nd)(i:Int):Int:=dl d.lo i+dl d.hi i
theorem G8{f i:Int}:0<=dl f i/\dl f i<=1:=by unfold dl;split<;>omega
theorem Azq{d:Nd}{i:Int}:0<=mu d i/\mu d i<=2:=by have:=@G8 d.lo i;have:=@G8 d.hi i;unfold mu;omega
theorem GU{f:Int}:dl f (f/2)=1:=if_pos rfl
theorem Ku{f:Int}(h:i≠f/2):dl f i=0:=if_neg (Ne.symm h)
def pt(N:Tb)(c:Int->Int)(i p:Int):Int:=match N p with
 |some d=>if 0<c p then mu d i else 0
 |none=>0
theorem Alo{N:Tb}{c:Int->Int}{p:Int}:0<=pt N c i p/\pt N c i p<=2:=by
 unfold pt;split
 .rename_i d _;have:=@Azq d i;split<;>omega
 .omega
def zr(N:Tb)(c:Int->Int)(p:Int):Int:=match N p with
 |some _=>if c p=0 then 1 else 0
 |none=>0
structure Cn(N:Tb)(m:Nat)(c r:Int->Int):Prop where
 KB:∀{i d},N i=some d->0<i/\i<m
 nn:∀{i d},N i=some d->0<=c i
 eq:∀{i d},N i=some d->c i=r i+sm m (pt N c i)
section
variable {N:Tb} {m:Nat} {c r:Int->Int}
theorem Aii{i:Int}:0<=sm m (pt N c i):=Td λ_ _ _=>Alo.1
theorem Aij{i:Int}:sm m (pt N c i)<=2*m:=by have h:sm m (pt N c i)<=sm m (λ_=>2):=Af1 λ_ _ _=>Alo.2;rw[Aaq]at h;omega
variable {i:Int} {d:Nd}
theorem Cn.ge(h:Cn N m c r)(hd:N i=some d):r i<=c i:=by have:=h.eq hd;have:=@Aii N m c i;omega
theorem Cn.le(h:Cn N m c r)(hd:N i=some d):c i<=r i+2*m:=by have:=h.eq hd;have:=@Aij N m c i;omega
theorem Cn.congr(h:Cn N m c r){r':Int->Int}(hr:∀i,0<i->r i=r' i):Cn N m c r':=
 ⟨h.KB,h.nn,λhd=>by rw[h.eq hd,hr _ (h.KB hd).1]⟩
variable {p:Int}
theorem Cn.kid(h:Cn N m c r)(hr:∀{i d},N i=some d->0<=r i){d':Nd}(hp:N p=some d)(hc:0<c p)(hi:N i=some d')(hm:i=d.lo/2∨i=d.hi/2):0<c i:=by
 have h1:=h.eq hi;have h2:pt N c i p<=sm m (pt N c i):=Asx (λ_ _ _=>Alo.1) (by have:=h.KB hp;omega) (h.KB hp).2;have h3:pt N c i p=mu d i:=by unfold pt;simp only[hp,hc,if_true]
 have h4:1<=mu d i:=by
  have h5:=@G8 d.lo i;have h6:=@G8 d.hi i;unfold mu;rcases hm with e|e
  .rw[e]at h5 h6 ⊢;have:=@GU d.lo;omega
  .rw[e]at h5 h6 ⊢;have:=@GU d.hi;omega
 have:=hr hi;omega
def bump(c:Int->Int)(i x:Int):Int->Int:=λj=>if j=i then c j+x else c j
variable {x:Int}
theorem FV:bump c i x i=c i+x:=if_pos rfl
variable {j:Int}
theorem JB(h:j≠i):bump c i x j=c j:=if_neg h
theorem RA(h:(0<c p)↔0<c p+x):pt N (bump c p x) i j=pt N c i j:=by
 unfold pt;split
 .by_cases e:j=p
  .subst e;rw[FV];by_cases h1:0<c j
   .rw[if_pos h1,if_pos (h.1 h1)]
   .rw[if_neg h1,if_neg (λh2=>h1 (h.2 h2))]
  .rw[JB e]
 .rfl
theorem Afo(h:(c p=0)↔c p+x=0):zr N (bump c p x) j=zr N c j:=by
 unfold zr;split
 .by_cases e:j=p
  .subst e;rw[FV];by_cases h1:c j=0
   .rw[if_pos h1,if_pos (h.1 h1)]
   .rw[if_neg h1,if_neg (λh2=>h1 (h.2 h2))]
  .rw[JB e]
 .rfl
variable {f:Int}
theorem Cn.Azr(h:Cn N m c r)(hd:N (f/2)=some d)(hc:0<c (f/2)):Cn N m (bump c (f/2) 1) (λi=>r i+dl f i)/\sm m (zr N (bump c (f/2) 1))=sm m (zr N c):=by
 refine⟨⟨h.KB,λ{i d'}hi=>?_,λ{i d'}hi=>?_⟩,Ff λk _ _=>Afo (by omega)⟩
 .have:=h.nn hi;unfold bump;split<;>omega
 .rw[Ff (g:=pt N c i) λk _ _=>RA (by omega)];have:=h.eq hi;by_cases e:i=f/2
  .rw[e]at this ⊢;rw[FV,GU];omega
  .rw[JB e,Ku e];omega
theorem Cn.Azs(h:Cn N m c r)(hd:N (f/2)=some d)(hc:c (f/2)=0):Cn N m (bump c (f/2) 1) (λi=>r i+dl f i-mu d i)/\sm m (zr N (bump c (f/2) 1))=sm m (zr N c)-1:=by
 have hm:=h.KB hd;refine⟨⟨h.KB,λ{i d'}hi=>?_,λ{i d'}hi=>?_⟩,?_⟩
 .have:=h.nn hi;unfold bump;split<;>omega
 .have h1:sm m (pt N (bump c (f/2) 1) i)=sm m (pt N c i)+(pt N (bump c (f/2) 1) i (f/2)-pt N c i (f/2)):=Te (by omega) hm.2 λk hk=>by
   unfold pt;split
   .rw[JB hk]
   .rfl
  have h2:pt N (bump c (f/2) 1) i (f/2)=mu d i:=by unfold pt;simp only[hd,FV,hc];rfl
  have h3:pt N c i (f/2)=0:=by unfold pt;simp only[hd,hc];rfl
  rw[h1,h2,h3];have:=h.eq hi;by_cases e:i=f/2
  .rw[e]at this ⊢;rw[FV,GU];omega
  .rw[JB e,Ku e];omega
 .rw[Te (g:=zr N c) (i:=f/2) (by omega) hm.2 λk hk=>by
   unfold zr;split
   .rw[JB hk]
   .rfl]
  have h2:zr N (bump c (f/2) 1) (f/2)=0:=by unfold zr;simp only[hd,FV,hc];rfl
  have h3:zr N c (f/2)=1:=by unfold zr;simp only[hd,hc];rfl
  rw[h2,h3];omega
theorem Cn.Azw(h:Cn N m c r)(hd:N (f/2)=some d)(hc:1<c (f/2)):Cn N m (bump c (f/2) (-1)) (λi=>r i-dl f i)/\sm m (zr N (bump c (f/2) (-1)))=sm m (zr N c):=by
 refine⟨⟨h.KB,λ{i d'}hi=>?_,λ{i d'}hi=>?_⟩,Ff λk _ _=>Afo (by omega)⟩
 .have:=h.nn hi;unfold bump;split
  .rename_i e;rw[e];omega
  .omega
 .rw[Ff (g:=pt N c i) λk _ _=>RA (by omega)];have:=h.eq hi;by_cases e:i=f/2
  .rw[e]at this ⊢;rw[FV,GU];omega
  .rw[JB e,Ku e];omega
theorem Cn.Azx(h:Cn N m c r)(hd:N (f/2)=some d)(hc:c (f/2)=1):Cn N m (bump c (f/2) (-1)) (λi=>r i-dl f i+mu d i)/\sm m (zr N (bump c (f/2) (-1)))=sm m (zr N c)+1:=by
 have hm:=h.KB hd;refine⟨⟨h.KB,λ{i d'}hi=>?_,λ{i d'}hi=>?_⟩,?_⟩
 .have:=h.nn hi;unfold bump;split
  .rename_i e;rw[e];omega
  .omega
 .have h1:sm m (pt N (bump c (f/2) (-1)) i)=sm m (pt N c i)+(pt N (bump c (f/2) (-1)) i (f/2)-pt N c i (f/2)):=Te (by omega) hm.2 λk hk=>by
   unfold pt;split
   .rw[JB hk]
   .rfl
  have h2:pt N (bump c (f/2) (-1)) i (f/2)=0:=by unfold pt;simp only[hd,FV,hc];rfl
  have h3:pt N c i (f/2)=mu d i:=by unfold pt;simp only[hd,hc];rfl
  rw[h1,h2,h3];have:=h.eq hi;by_cases e:i=f/2
  .rw[e]at this ⊢;rw[FV,GU];omega
  .rw[JB e,Ku e];omega
 .rw[Te (g:=zr N c) (i:=f/2) (by omega) hm.2 λk hk=>by
   unfold zr;split
   .rw[JB hk]
   .rfl]
  have h2:zr N (bump c (f/2) (-1)) (f/2)=1:=by unfold zr;simp only[hd,FV,hc];rfl
  have h3:zr N c (f/2)=0:=by unfold zr;simp only[hd,hc];rfl
  rw[h2,h3];omega
structure Dag(N:Tb)(rk:Int->Int)(n:Int):Prop where
 MT:∀{i d},N i=some d->0<=rk i/\rk i<n
 lo:∀{i d},N i=some d->Ok N d.lo/\(d.lo/2≠0->rk i<rk (d.lo/2))
 hi:∀{i d},N i=some d->Ok N d.hi/\(d.hi/2≠0->rk i<rk (d.hi/2))
theorem Good.dag{n:Int}{lv:Int->Int}(g:Good n lv N):Dag N (λi=>match N i with|some d=>lv d.v|none=>0) n:=by
 have key:∀{i d e},N i=some d->Ok N e->lv d.v<el n lv N e->(e/2≠0->lv d.v<(match N (e/2) with|some d=>lv d.v|none=>0)):=by intro i d e hd he hl h0;obtain⟨d',hd'⟩:=he.2.resolve_left h0;rw[Bl h0 hd']at hl;simp only[hd'];exact hl
 refine⟨λh=>?_,λh=>?_,λh=>?_⟩
 .have:=g.var h;simp only[h];exact g.od.MT _ this.2.1 this.2.2
 .have:=g.lo h;simp only[h];exact⟨this.1,key h this.1 this.2⟩
 .have:=g.hi h;simp only[h];exact⟨this.1,key h this.1 this.2⟩
end
end
section
def fl(e s:Int):Int:=if s%2=1 then flip e else e
variable {e s:Int}
theorem Aew:fl e s/2=e/2:=by unfold fl;split;exact Lc;rfl
theorem Atg:fl (fl e s) s=e:=by unfold fl;split;exact flip_flip;rfl
theorem QU{f:Int}(h:fl e s=fl f s):e=f:=by rw[<-Atg (e:=e) (s:=s),h,Atg]
theorem TV:fl e e%2=0:=by
 unfold fl;split
 .rename_i h;rw[Sl,h];rfl
 .omega
theorem Ano:fl e s%2=(e+s)%2:=by
 unfold fl;split
 .rw[Sl];omega
 .omega
theorem Sn{t:Int}(h:s%2=t%2):fl e s=fl e t:=by unfold fl;rw[h]
section
variable {n:Int} {lv:Int->Int} {N:Tb}
variable {e s:Int}
theorem Ok.fl(h:Ok N e):Ok N (fl e s):=by unfold B.fl;split;exact h.flip;exact h
theorem Kt:el n lv N (fl e s)=el n lv N e:=by unfold el;rw[Aew]
theorem IL(h:Ok N e)(a:As):den N (fl e s) a=(decide (s%2=1) ^^ den N e a):=by
 unfold fl;split
 .rename_i hs;rw[Lj h];simp [hs]
 .rename_i hs;simp [hs]
def sp(N:Tb)(y f:Int):Int×Int:=match N (f/2) with
 |some d=>if d.v=y then (fl d.lo f,fl d.hi f) else (f,f)
 |none=>(f,f)
theorem Good.zero(g:Good n lv N):N 0=none:=by
 cases h:N 0 with
 |none=>rfl
 |some d=>have:=(g.var h).1;omega
variable {y f:Int}
theorem Good.It(g:Good n lv N)(hn:0<=n)(hy:0<=y/\y<n)(hf:Ok N f)(hl:lv y<=el n lv N f):Ok N (sp N y f).1/\Ok N (sp N y f).2/\lv y<el n lv N (sp N y f).1/\lv y<el n lv N (sp N y f).2/\(∀a,den N f a=if a y=true then den N (sp N y f).2 a else den N (sp N y f).1 a)/\(f%2=0->(sp N y f).2%2=0):=by
 have plain:lv y<el n lv N f->Ok N f/\Ok N f/\lv y<el n lv N f/\lv y<el n lv N f/\(∀a:As,den N f a=if a y=true then den N f a else den N f a)/\(f%2=0->f%2=0):=λh=>⟨hf,hf,h,h,λa=>by split<;>rfl,id⟩
 unfold sp;cases hd:N (f/2) with
 |none=>
  refine plain ?_;have h0:f/2=0:=by
   rcases hf.2 with h|⟨d,h⟩
   .exact h
   .rw[hd]at h;cases h
  rw[Cw h0];exact(g.od.MT y hy.1 hy.2).2
 |some d=>
  have h0:f/2≠0:=λe=>by rw[e,g.zero]at hd;cases hd
  have hv:=g.var hd;simp only;split
  .rename_i e;subst e;obtain⟨l1,l2⟩:=g.lo hd;obtain⟨u1,u2⟩:=g.hi hd;refine⟨l1.fl,u1.fl,by rw[Kt];exact l2,by rw[Kt];exact u2,λa=>?_,λh=>?_⟩
   .rw[g.IK hn h0 hd,IL u1,IL l1];split<;>rfl
   .simp only;rw[Ano,<-Int.emod_add_emod];have:=g.reg hd;omega
  .rename_i e;refine plain ?_;rw[Bl h0 hd]at hl ⊢;have:lv y≠lv d.v:=λh=>e (g.od.inj _ _ hv.2.1 hv.2.2 hy.1 hy.2 h.symm);omega
def MU(N:Tb)(y f:Int):Prop:=∃d,N (f/2)=some d/\d.v=y
theorem Aic(h:¬MU N y f):sp N y f=(f,f):=by
 unfold sp;split
 .rename_i d hd;rw[if_neg λe=>h ⟨d,hd,e⟩]
 .rfl
theorem Good.XI(g:Good n lv N):MU N y f↔(sp N y f).1≠(sp N y f).2:=by
 constructor
 .rintro⟨d,hd,hv⟩;unfold sp;simp only[hd,hv,if_true];exact λe=>g.ne hd (QU e)
 .intro h;by_cases h1:MU N y f
  .exact h1
  .rw[Aic h1]at h;exact(h rfl).elim
def Ri(M:Tb)(x a b e:Int):Prop:=(a=b/\e=a)∨(a≠b/\0<=e/\e/2≠0/\e%2=b%2/\M (e/2)=some ⟨x,fl a b,fl b b⟩)
def sw(lv:Int->Int)(x y:Int):Int->Int:=λv=>if v=x then lv y else if v=y then lv x else lv v
structure Swp(n:Int)(lv:Int->Int)(N:Tb)(x y:Int)(M:Tb):Prop where
 stay:∀{i d},N i=some d->¬(d.v=x/\(MU N y d.lo∨MU N y d.hi))->M i=some d
 SY:∀{i d},N i=some d->d.v=x->(MU N y d.lo∨MU N y d.hi)->∃lo hi,M i=some ⟨y,lo,hi⟩/\Ri M x (sp N y d.lo).1 (sp N y d.hi).1 lo/\Ri M x (sp N y d.lo).2 (sp N y d.hi).2 hi
 new:∀{i d},N i=none->M i=some d->0<i/\d.v=x/\Ok N d.lo/\Ok N d.hi/\lv y<el n lv N d.lo/\lv y<el n lv N d.hi/\d.lo≠d.hi/\d.hi%2=0
 XD:∀{i j d},d.v=x->M i=some d->M j=some d->i=j
variable {x:Int}
theorem WX:sw lv x y x=lv y:=if_pos rfl
theorem YH(h:x≠y):sw lv x y y=lv x:=by unfold sw;rw[if_neg (Ne.symm h),if_pos rfl]
theorem YI{v:Int}(h:v≠x)(k:v≠y):sw lv x y v=lv v:=by unfold sw;rw[if_neg h,if_neg k]
theorem Od.swap(o:Od n lv)(hx:0<=x/\x<n)(hy:0<=y/\y<n)(hne:x≠y):Od n (sw lv x y):=by
 have h1:=o.MT x hx.1 hx.2;have h2:=o.MT y hy.1 hy.2;have nx:∀{v},0<=v->v<n->lv v=lv x->v=x:=λh3 h4 e=>o.inj _ _ h3 h4 hx.1 hx.2 e;have ny:∀{v},0<=v->v<n->lv v=lv y->v=y:=λh3 h4 e=>o.inj _ _ h3 h4 hy.1 hy.2 e;have cs:∀v,v=x∨v=y∨(v≠x/\v≠y):=λv=>by omega
 refine⟨o.n64,λv h3 h4=>?_,λv w h3 h4 h5 h6 h=>?_⟩
 .have:=o.MT v h3 h4;unfold sw;split
  .exact h2
  .split
   .exact h1
   .exact this
 .rcases cs v with rfl|rfl|⟨a1,a2⟩<;>rcases cs w with rfl|rfl|⟨b1,b2⟩
  .rfl
  .rw[WX,YH hne]at h;exact(ny h3 h4 h.symm)
  .rw[WX,YI b1 b2]at h;exact(b2 (ny h5 h6 h.symm)).elim
  .rw[WX,YH hne]at h;exact(nx h3 h4 h.symm)
  .rfl
  .rw[YH hne,YI b1 b2]at h;exact(b1 (nx h5 h6 h.symm)).elim
  .rw[WX,YI a1 a2]at h;exact(a2 (ny h3 h4 h)).elim
  .rw[YH hne,YI a1 a2]at h;exact(a1 (nx h3 h4 h)).elim
  .rw[YI a1 a2,YI b1 b2]at h;exact o.inj _ _ h3 h4 h5 h6 h
theorem Ri.inj{M:Tb}{a b a' b':Int}(h:Ri M x a b e)(h':Ri M x a' b' e)(ha:∀d,M (a/2)=some d->d.v≠x)(ha':∀d,M (a' / 2)=some d->d.v≠x):a=a'/\b=b':=by
 rcases h with ⟨h1,h2⟩|⟨h1,h2,h3,h4,h5⟩<;>rcases h' with ⟨k1,k2⟩|⟨k1,k2,k3,k4,k5⟩
 .subst h2;subst k2;exact⟨rfl,h1.symm.trans k1⟩
 .subst h2;exact(ha _ k5 rfl).elim
 .subst k2;exact(ha' _ h5 rfl).elim
 .rw[h5]at k5;have e0:=Option.some.inj k5;have e1:fl a b=fl a' b':=congrArg Nd.lo e0;have e2:fl b b=fl b' b':=congrArg Nd.hi e0;rw[Sn (s:=b) (t:=e) h4.symm]at e1;rw[Sn (s:=b') (t:=e) k4.symm]at e1;rw[Sn (e:=b) (s:=b) (t:=e) h4.symm,Sn (e:=b') (s:=b') (t:=e) k4.symm]at e2;exact⟨QU e1,QU e2⟩
theorem Good.swap(g:Good n lv N)(hn:0<=n)(hx:0<=x/\x<n)(hy:0<=y/\y<n)(PH:lv y=lv x+1){M:Tb}(s:Swp n lv N x y M):Good n (sw lv x y) M/\(∀e,Ok N e->Ok M e)/\∀e,Ok N e->den M e=den N e:=by
 have hne:x≠y:=λe=>by subst e;omega
 have ho:=g.od.swap hx hy hne;have lev:∀{v},0<=v->v<n->v≠x->v≠y->lv v<lv x∨lv y<lv v:=λ{v}h3 h4 a b=>by have h5:lv v≠lv x:=λe=>a (g.od.inj _ _ h3 h4 hx.1 hx.2 e);have h6:lv v≠lv y:=λe=>b (g.od.inj _ _ h3 h4 hy.1 hy.2 e);omega
 have KB:∀{i d},N i=some d->∃d',M i=some d'/\((d'=d/\¬(d.v=x/\(MU N y d.lo∨MU N y d.hi)))∨(d.v=x/\d'.v=y)):=λ{i d}hd=>by
  by_cases hc:d.v=x/\(MU N y d.lo∨MU N y d.hi)
  .obtain⟨lo,hi,h1,_⟩:=s.SY hd hc.1 hc.2;exact⟨_,h1,.inr ⟨hc.1,rfl⟩⟩
  .exact⟨d,s.stay hd hc,.inl ⟨rfl,hc⟩⟩
 have ok:∀e,Ok N e->Ok M e:=λe h=>⟨h.1,h.2.imp id λ⟨d,hd⟩=>by obtain⟨d',h1,_⟩:=KB hd;exact⟨d',h1⟩⟩
 have low:∀{e},Ok N e->lv y<el n lv N e->el n (sw lv x y) M e=el n lv N e:=λ{e}he hl=>by
  by_cases h0:e/2=0
  .rw[Cw h0,Cw h0]
  .obtain⟨d,hd⟩:=he.2.resolve_left h0;obtain⟨d',h1,h2⟩:=KB hd;rw[Bl h0 hd]at hl ⊢;rw[Bl h0 h1];rcases h2 with ⟨rfl,_⟩|⟨h2,_⟩
   .exact YI (λe=>by rw[e]at hl;omega) (λe=>by rw[e]at hl;omega)
   .rw[h2]at hl;omega
 have RM:∀{e d},Ok N e->lv y<el n lv N e->M (e/2)=some d->d.v≠x:=λ{e d}he hl hd=>by
  by_cases h0:e/2=0
  .rw[h0]at hd;cases hz:N 0 with
   |some d0=>have:=(g.var hz).1;omega
   |none=>exact absurd (s.new hz hd).1 (by omega)
  .obtain⟨d0,hd0⟩:=he.2.resolve_left h0;rw[Bl h0 hd0]at hl;obtain⟨d',h1,h2⟩:=KB hd0;rw[hd]at h1;cases h1;rcases h2 with ⟨rfl,_⟩|⟨h2,h3⟩
   .intro e;rw[e]at hl;omega
   .rw[h2]at hl;omega
 have kid:∀{e v},Ok N e->0<=v->v<n->v≠x->lv v<el n lv N e->(v=y->lv y<el n lv N e)->sw lv x y v<el n (sw lv x y) M e:=λ{e v}he h0 hvn hvx hl hyy=>by
  by_cases hv:v=y
  .subst hv;rw[YH hne,low he (hyy rfl)];have:=hyy rfl;omega
  .rw[YI hvx hv];rcases lev h0 hvn hvx hv with h1|h1
   .by_cases h2:e/2=0
    .rw[Cw h2]at hl ⊢;exact hl
    .obtain⟨d,hd⟩:=he.2.resolve_left h2;obtain⟨d',h3,h4⟩:=KB hd;rw[Bl h2 h3];rw[Bl h2 hd]at hl;rcases h4 with ⟨rfl,_⟩|⟨h4,h5⟩
     .unfold sw;split
      .omega
      .split
       .exact h1
       .exact hl
     .rw[h5,YH hne];exact h1
   .rw[low he (by omega)];exact hl
 have kidx:∀{e},Ok N e->¬MU N y e->lv x<el n lv N e->lv y<el n lv N e:=λ{e}he hv hl=>by
  by_cases h2:e/2=0
  .rw[Cw h2];exact(g.od.MT y hy.1 hy.2).2
  .obtain⟨d,hd⟩:=he.2.resolve_left h2;rw[Bl h2 hd]at hl ⊢;have hvv:=g.var hd;by_cases e1:lv d.v=lv y
   .exact(hv ⟨d,hd,g.od.inj _ _ hvv.2.1 hvv.2.2 hy.1 hy.2 e1⟩).elim
   .omega
 have four:∀{i d},N i=some d->d.v=x->∀k,k=d.lo∨k=d.hi->Ok N k/\lv y<=el n lv N k:=λ{i d}hd hv k hk=>by
  obtain⟨l1,l2⟩:=g.lo hd;obtain⟨u1,u2⟩:=g.hi hd;rw[hv]at l2 u2;rcases hk with rfl|rfl
  .exact⟨l1,by omega⟩
  .exact⟨u1,by omega⟩
 have bel:∀{a b e},Ok N a->Ok N b->lv y<el n lv N a->lv y<el n lv N b->Ri M x a b e->Ok M e/\lv x<el n (sw lv x y) M e:=λ{a b e}ha hb la lb h=>by
  rcases h with ⟨h1,rfl⟩|⟨h1,h2,h3,h4,h5⟩
  .exact⟨ok _ ha,by rw[low ha la];omega⟩
  .exact⟨⟨h2,.inr ⟨_,h5⟩⟩,by rw[Bl h3 h5,WX];omega⟩
 have hlev:Good n (sw lv x y) M:=by
  have back:∀{i d'},M i=some d'->(∃d,N i=some d/\((d'=d/\¬(d.v=x/\(MU N y d.lo∨MU N y d.hi)))∨(d.v=x/\(MU N y d.lo∨MU N y d.hi)/\d'.v=y/\Ri M x (sp N y d.lo).1 (sp N y d.hi).1 d'.lo/\Ri M x (sp N y d.lo).2 (sp N y d.hi).2 d'.hi))) ∨
    (0<i/\d'.v=x/\Ok N d'.lo/\Ok N d'.hi/\lv y<el n lv N d'.lo/\lv y<el n lv N d'.hi/\d'.lo≠d'.hi/\d'.hi%2=0):=λ{i d'}h=>by
   cases hd:N i with
   |none=>exact .inr (s.new hd h)
   |some d=>
    refine .inl ⟨d,rfl,?_⟩;by_cases hc:d.v=x/\(MU N y d.lo∨MU N y d.hi)
    .obtain⟨lo,hi,h1,h2,h3⟩:=s.SY hd hc.1 hc.2;rw[h]at h1;cases h1;exact .inr ⟨hc.1,hc.2,rfl,h2,h3⟩
    .have:=s.stay hd hc;rw[h]at this;cases this;exact .inl ⟨rfl,hc⟩
  refine⟨ho,λh=>?_,λ{i d'}h=>?_,λ{i d'}h=>?_,λ{i d'}h=>?_,λ{i d'}h=>?_,λ{i j d'}h k=>?_⟩
  .rcases back h with ⟨d,hd,(⟨rfl,_⟩|⟨_,_,h2,_⟩)⟩|⟨h0,h1,_⟩
   .exact g.var hd
   .rw[h2];exact⟨(g.var hd).1,hy.1,hy.2⟩
   .rw[h1];exact⟨h0,hx.1,hx.2⟩
  .rcases back h with ⟨d,hd,(⟨rfl,hc⟩|⟨hv,hc,h2,h3,h4⟩)⟩|⟨h0,h1,h2,h3,h4,h5,_⟩
   .obtain⟨l1,l2⟩:=g.lo hd;have hvv:=g.var hd;refine⟨ok _ l1,?_⟩;by_cases hv:d'.v=x
    .have:=kidx l1 (λe=>hc ⟨hv,.inl e⟩) (by rw[<-hv];exact l2);rw[hv,WX,low l1 this];exact this
    .exact kid l1 hvv.2.1 hvv.2.2 hv l2 λe=>by rw[<-e];exact l2
   .obtain⟨l1,l2⟩:=four hd hv _ (.inl rfl);obtain⟨u1,u2⟩:=four hd hv _ (.inr rfl);obtain⟨a1,a2,a3,a4,_⟩:=g.It hn hy l1 l2;obtain⟨b1,b2,b3,b4,_⟩:=g.It hn hy u1 u2;rw[h2,YH hne];exact bel a1 b1 a3 b3 h3
   .rw[h1,WX,low h2 h4];exact⟨ok _ h2,h4⟩
  .rcases back h with ⟨d,hd,(⟨rfl,hc⟩|⟨hv,hc,h2,h3,h4⟩)⟩|⟨h0,h1,h2,h3,h4,h5,_⟩
   .obtain⟨l1,l2⟩:=g.hi hd;have hvv:=g.var hd;refine⟨ok _ l1,?_⟩;by_cases hv:d'.v=x
    .have:=kidx l1 (λe=>hc ⟨hv,.inr e⟩) (by rw[<-hv];exact l2);rw[hv,WX,low l1 this];exact this
    .exact kid l1 hvv.2.1 hvv.2.2 hv l2 λe=>by rw[<-e];exact l2
   .obtain⟨l1,l2⟩:=four hd hv _ (.inl rfl);obtain⟨u1,u2⟩:=four hd hv _ (.inr rfl);obtain⟨a1,a2,a3,a4,_⟩:=g.It hn hy l1 l2;obtain⟨b1,b2,b3,b4,_⟩:=g.It hn hy u1 u2;rw[h2,YH hne];exact bel a2 b2 a4 b4 h4
   .rw[h1,WX,low h3 h5];exact⟨ok _ h3,h5⟩
  .rcases back h with ⟨d,hd,(⟨rfl,hc⟩|⟨hv,hc,h2,h3,h4⟩)⟩|⟨h0,h1,h2,h3,h4,h5,h6,_⟩
   .exact g.ne hd
   .obtain⟨l1,l2⟩:=four hd hv _ (.inl rfl);obtain⟨u1,u2⟩:=four hd hv _ (.inr rfl);obtain⟨a1,a2,a3,a4,_⟩:=g.It hn hy l1 l2;obtain⟨b1,b2,b3,b4,_⟩:=g.It hn hy u1 u2;intro e;rw[<-e]at h4;obtain⟨e1,e2⟩:=h3.inj h4 (λ_=>RM a1 a3) (λ_=>RM a2 a4);rcases hc with hc|hc
    .exact g.XI.1 hc e1
    .exact g.XI.1 hc e2
   .exact h6
  .rcases back h with ⟨d,hd,(⟨rfl,hc⟩|⟨hv,hc,h2,h3,h4⟩)⟩|⟨h0,h1,h2,h3,h4,h5,h6,h7⟩
   .exact g.reg hd
   .obtain⟨u1,u2⟩:=four hd hv _ (.inr rfl);obtain⟨b1,b2,b3,b4,_,b6⟩:=g.It hn hy u1 u2;have:=b6 (g.reg hd);rcases h4 with ⟨k1,k2⟩|⟨_,_,_,k4,_⟩
    .rw[k2,k1];exact this
    .rw[k4];exact this
   .exact h7
  .by_cases hdx:d'.v=x
   .exact s.XD hdx h k
   .have tt:∀{i:Int}{d1 d2:Nd},N i=some d1->d1.v=x->(MU N y d1.lo∨MU N y d1.hi)->Ri M x (sp N y d1.lo).1 (sp N y d1.hi).1 d2.lo->Ri M x (sp N y d1.lo).2 (sp N y d1.hi).2 d2.hi->Ok N d2.lo->lv y<el n lv N d2.lo->Ok N d2.hi->lv y<el n lv N d2.hi->False:=λ{i d1 d2}hd hv hc h3 h4 ol ll oh lh=>by
     obtain⟨l1,l2⟩:=four hd hv _ (.inl rfl);obtain⟨u1,u2⟩:=four hd hv _ (.inr rfl);obtain⟨a1,a2,a3,a4,a5,_⟩:=g.It hn hy l1 l2;obtain⟨b1,b2,b3,b4,b5,_⟩:=g.It hn hy u1 u2;have e1:(sp N y d1.lo).1=(sp N y d1.hi).1:=by
      rcases h3 with ⟨k1,_⟩|⟨_,_,_,_,k5⟩
      .exact k1
      .exact(RM ol ll k5 rfl).elim
     have e2:(sp N y d1.lo).2=(sp N y d1.hi).2:=by
      rcases h4 with ⟨k1,_⟩|⟨_,_,_,_,k5⟩
      .exact k1
      .exact(RM oh lh k5 rfl).elim
     exact g.ne hd (g.eq hn l1 u1 (by funext a;rw[a5,b5,e1,e2]))
    rcases back h with ⟨d,hd,(⟨rfl,hc⟩|⟨hv,hc,h2,h3,h4⟩)⟩|⟨h0,h1,_⟩<;>rcases back k with ⟨c,hc',(⟨rfl,kc⟩|⟨kv,kc,k2,k3,k4⟩)⟩|⟨k0,k1,_⟩
    .exact g.XD hd hc'
    .refine(tt hc' kv kc k3 k4 (g.lo hd).1 ?_ (g.hi hd).1 ?_).elim
     .rw[<-k2];exact(g.lo hd).2
     .rw[<-k2];exact(g.hi hd).2
    .exact(hdx k1).elim
    .refine(tt hd hv hc h3 h4 (g.lo hc').1 ?_ (g.hi hc').1 ?_).elim
     .rw[<-h2];exact(g.lo hc').2
     .rw[<-h2];exact(g.hi hc').2
    .obtain⟨l1,l2⟩:=four hd hv _ (.inl rfl);obtain⟨u1,u2⟩:=four hd hv _ (.inr rfl);obtain⟨a1,a2,a3,a4,a5,_⟩:=g.It hn hy l1 l2;obtain⟨b1,b2,b3,b4,b5,_⟩:=g.It hn hy u1 u2;obtain⟨m1,m2⟩:=four hc' kv _ (.inl rfl);obtain⟨w1,w2⟩:=four hc' kv _ (.inr rfl);obtain⟨c1,c2,c3,c4,c5,_⟩:=g.It hn hy m1 m2;obtain⟨e1,e2,e3,e4,e5,_⟩:=g.It hn hy w1 w2;obtain⟨q1,q2⟩:=h3.inj k3 (λ_=>RM a1 a3) (λ_=>RM c1 c3);obtain⟨q3,q4⟩:=h4.inj k4 (λ_=>RM a2 a4) (λ_=>RM c2 c4);have f1:d.lo=c.lo:=g.eq hn l1 m1 (by funext a;rw[a5,c5,q1,q3]);have f2:d.hi=c.hi:=g.eq hn u1 w1 (by funext a;rw[b5,e5,q2,q4]);have:d=c:=by cases d;cases c;simp_all
     subst this;exact g.XD hd hc'
    .exact(hdx k1).elim
    .exact(hdx h1).elim
    .exact(hdx h1).elim
    .exact(hdx h1).elim
 refine⟨hlev,ok,?_⟩;have key:∀(k:Nat)(e:Int),Ok N e->n-el n lv N e<k->den M e=den N e:=by
  intro k;induction k with
  |zero=>intro e he hk;have:=g.Wf he hn;omega
  |succ k ih=>
   intro e he hk;by_cases h0:e/2=0
   .rw[MM h0,MM h0]
   .obtain⟨d,hd⟩:=he.2.resolve_left h0;rw[Bl h0 hd]at hk;obtain⟨l1,l2⟩:=g.lo hd;obtain⟨u1,u2⟩:=g.hi hd;funext a;by_cases hc:d.v=x/\(MU N y d.lo∨MU N y d.hi)
    .obtain⟨lo,hi,h1,h2,h3⟩:=s.SY hd hc.1 hc.2;obtain⟨l3,l4⟩:=four hd hc.1 _ (.inl rfl);obtain⟨u3,u4⟩:=four hd hc.1 _ (.inr rfl);obtain⟨a1,a2,a3,a4,a5,_⟩:=g.It hn hy l3 l4;obtain⟨b1,b2,b3,b4,b5,_⟩:=g.It hn hy u3 u4;have hk':lv d.v<lv y:=by rw[hc.1];omega
     have bd:∀{p q e},Ok N p->Ok N q->lv y<el n lv N p->lv y<el n lv N q->Ri M x p q e->den M e a=if a x=true then den N q a else den N p a:=λ{p q e}op oq lp lq h=>by
      rcases h with ⟨k1,rfl⟩|⟨k1,k2,k3,k4,k5⟩
      .rw[ih _ op (by omega)];subst k1;split<;>rfl
      .rw[hlev.IK hn k3 k5];simp only;rw[IL (ok _ oq),IL (ok _ op),ih _ op (by omega),ih _ oq (by omega),k4];split<;>(rcases Int.emod_two_eq q with hq|hq<;>simp [hq])
     rw[hlev.IK hn h0 h1,g.IK hn h0 hd];simp only;rw[bd a1 b1 a3 b3 h2,bd a2 b2 a4 b4 h3,a5,b5,hc.1];congr 1;split<;>split<;>rfl
    .rw[hlev.IK hn h0 (s.stay hd hc),g.IK hn h0 hd,ih _ l1 (by omega),ih _ u1 (by omega)]
 exact λe he=>key 66 e he (by have:=g.fuel hn he;omega)
end
end
section
theorem W1:∀(L:Nat)(l:List (List Bool)),l.Nodup->(∀x∈l,x.length=L)->l.length<=2^L
 |0,[],_,_|0,[_],_,_=>by simp
 |0,x::y::l,hn,h=>by
  have h1:=h x (by simp);have h2:=h y (by simp);have:x=y:=by rw[List.length_eq_zero_iff.1 h1,List.length_eq_zero_iff.1 h2]
  simp [this]at hn
 |L+1,l,hn,h=>by
  have half:∀b:Bool,((l.filter λx=>x.head?==some b).map List.tail).length<=2^L:=λb=>by
   refine W1 L _ ?_ ?_
   .rw[List.Nodup,List.pairwise_map];refine(hn.filter _).imp_of_mem λ{x y}hx hy hne e=>hne ?_;have hx1:=(List.mem_filter.1 hx).2;have hy1:=(List.mem_filter.1 hy).2;cases x with
    |nil=>simp at hx1
    |cons p x=>cases y with
     |nil=>simp at hy1
     |cons q y=>
      simp at hx1 hy1 e;rw[hx1,hy1,e]
   .intro y hy;obtain⟨x,hx,rfl⟩:=List.mem_map.1 hy;have:=h x (List.mem_filter.1 hx).1;simp [this]
  have hs:∀(l:List (List Bool)),(∀x∈l,x.length=L+1)->l.length=(l.filter λx=>x.head?==some true).length+(l.filter λx=>x.head?==some false).length:=by
   intro l;induction l with
   |nil=>simp
   |cons x l ih=>
    intro h;have h1:=ih λy hy=>h y (by simp [hy]);have h2:=h x (by simp);cases x with
    |nil=>simp at h2
    |cons b x=>cases b<;>simp [h1]<;>omega
  have h1:=half true;have h2:=half false;rw[List.length_map]at h1 h2;rw[hs l h,Nat.pow_succ];omega
theorem Aib{α:Type}(p:α->Bool)(l:List α):l.length=(l.filter p).length+(l.filter λx=>!p x).length:=by
 induction l with
 |nil=>rfl
 |cons x l ih=>cases h:p x<;>simp [h,ih]<;>omega
theorem XX{l:List (Nat×List Bool)}(hn:l.Nodup){t:Nat}(h:∀x∈l,x.1=t):(l.map (·.2)).Nodup:=by rw[List.Nodup,List.pairwise_map];exact hn.imp_of_mem λ{x y}hx hy hne e=>hne (Prod.ext ((h x hx).trans (h y hy).symm) e)
theorem Aie{l:List (List Bool)}(hn:l.Nodup)(h:∀x∈l,x.length<4):l.length<=15:=by
 have part:∀k,(l.filter λx=>x.length==k).length<=2^k:=λk=>W1 k _ (hn.filter _) λx hx=>by simpa using (List.mem_filter.1 hx).2
 have hs:∀(l:List (List Bool)),(∀x∈l,x.length<4)->l.length=(l.filter λx=>x.length==0).length+(l.filter λx=>x.length==1).length+(l.filter λx=>x.length==2).length+(l.filter λx=>x.length==3).length:=by
  intro l;induction l with
  |nil=>simp
  |cons x l ih=>
   intro h;have h1:=ih λy hy=>h y (by simp [hy]);have h2:=h x (by simp);have:x.length=0∨x.length=1∨x.length=2∨x.length=3:=by omega
   rcases this with e|e|e|e<;>simp only[List.filter_cons,e,List.length_cons]<;>simp<;>omega
 have h0:=part 0;have h1:=part 1;have h2:=part 2;have h3:=part 3;rw[hs l h];simp at h0 h1 h2 h3 ⊢;omega
theorem Yv:∀(K:Nat)(l:List (Nat×List Bool)),l.Nodup->(∀x∈l,x.1<=K/\(x.1=0->x.2.length=16)/\(x.1≠0->x.2.length<4))->l.length<=65536+15*K
 |0,l,hn,h=>by
  have h1:∀x∈l,x.1=0:=λx hx=>by have:=(h x hx).1;omega
  have:=W1 16 (l.map (·.2)) (XX hn h1) λx hx=>by obtain⟨y,hy,rfl⟩:=List.mem_map.1 hx;exact(h y hy).2.1 (h1 y hy)
  simpa using this
 |K+1,l,hn,h=>by
  have h1:=Aib (λx:Nat×List Bool=>x.1 == K+1) l;have h2:=Yv K (l.filter λx=>!(x.1 == K+1)) (hn.filter _) λx hx=>by obtain⟨hx1,hx2⟩:=List.mem_filter.1 hx;have:=h x hx1;simp at hx2;exact⟨by omega,this.2⟩
  have h3:=Aie (XX (hn.filter (λx:Nat×List Bool=>x.1 == K+1)) (t:=K+1) λx hx=>by simpa using (List.mem_filter.1 hx).2) (λx hx=>by obtain⟨y,hy,rfl⟩:=List.mem_map.1 hx;obtain⟨hy1,hy2⟩:=List.mem_filter.1 hy;simp at hy2;exact(h y hy1).2.2 (by omega))
  rw[List.length_map]at h3;omega
def mix(lv:Int->Int)(k:Int)(b a:As):As:=λv=>if lv v<k then b v else a v
def SO(lv:Int->Int)(k:Int)(f r:Fn):Prop:=∃(s:Bool)(b:As),∀a,r a=(s ^^ f (mix lv k b a))
def Dep(n:Int)(lv:Int->Int)(k:Int)(r:Fn):Prop:=∀a b:As,(∀v,0<=v->v<n->k<=lv v->a v=b v)->r a=r b
section
variable {n:Int} {lv:Int->Int} {N:Tb}
variable {k:Int}
theorem Good.dep(g:Good n lv N){e:Int}(h:Ok N e)(hk:k<=el n lv N e):Dep n lv k (den N e):=λa b hab=>g.Sz h λv h0 h1 h2=>hab v h0 h1 (by omega)
variable {r:Fn}
theorem SO.refl(h:Dep n lv k r):SO lv k r r:=⟨false,λ_=>false,λa=>by rw[Bool.false_xor];exact h _ _ λv _ _ h2=>(if_neg (by omega)).symm⟩
variable {f:Fn}
theorem SO.not(h:SO lv k f r):SO lv k f (λa=>!r a):=by obtain⟨s,b,h⟩:=h;exact⟨!s,b,λa=>by show (!r a)=_;rw[h];cases s<;>cases f _<;>rfl⟩
theorem SO.sign(s:Bool)(h:SO lv k f r):SO lv k f (λa=>s ^^ r a):=by
 cases s
 .simpa using h
 .simpa using h.not
theorem SO.set{r':Fn}{k' v:Int}{c:Bool}(h:SO lv k f r)(hv:lv v<k')(hkv:k<=lv v)(hr:∀a,r' a=r (Aat a v c))(hd:Dep n lv k' r'):SO lv k' f r':=by
 obtain⟨s,b,h⟩:=h;refine⟨s,mix lv k b (Aat (λ_=>false) v c),λa=>?_⟩;rw[hd a (mix lv k' (λ_=>false) a) λw _ _ h2=>(if_neg (by omega)).symm,hr,h];congr 2;funext w;unfold mix Aat;by_cases h1:lv w<k
 .simp only[h1,if_true,show lv w<k' by omega]
 .by_cases h2:w=v
  .subst h2;simp only[h1,hv,if_true,if_false]
  .by_cases h3:lv w<k'<;>simp only[h1,h2,h3,if_true,if_false]
theorem SO.Aw2{k':Int}(h:SO lv k f r)(hk:k<=k')(hd:Dep n lv k' r):SO lv k' f r:=by
 obtain⟨s,b,h⟩:=h;refine⟨s,mix lv k b (λ_=>false),λa=>?_⟩;rw[hd a (mix lv k' (λ_=>false) a) λw _ _ h2=>(if_neg (by omega)).symm,h];congr 2;funext w;unfold mix;by_cases h1:lv w<k
 .simp only[h1,if_true,show lv w<k' by omega]
 .by_cases h3:lv w<k'<;>simp only[h1,h3,if_true,if_false]
def Rh(n:Int)(lv:Int->Int)(N:Tb)(R:List Fn):Prop:=∀i d,N i=some d->n-4<=lv d.v∨∃f∈R,SO lv (lv d.v) f (den N (2*i))
theorem Rh.mono{R R':List Fn}(h:Rh n lv N R)(hR:∀f∈R,f∈R'):Rh n lv N R':=λi d hd=>(h i d hd).imp id λ⟨f,hf,hc⟩=>⟨f,hR f hf,hc⟩
def asg(lv:Int->Int)(k:Int)(l:List Bool):As:=λv=>l.getD (lv v-k).toNat false
def X5:Nat->List (List Bool)
 |0=>[[]]
 |L+1=>(X5 L).map (false::·)++(X5 L).map (true::·)
theorem Ac5:∀L,(X5 L).length=2^L
 |0=>rfl
 |L+1=>by simp [X5,Ac5 L,Nat.pow_succ];omega
theorem Ac4:∀(L:Nat)(l:List Bool),l.length=L->l∈X5 L
 |0,[],_=>by simp [X5]
 |0,_::_,h|L+1,[],h=>by simp at h
 |L+1,b::l,h=>by have:=Ac4 L l (by simpa using h);cases b<;>simp [X5,this]
theorem Agn(g:Good n lv N)(hn:0<=n){i j:Int}{d d':Nd}(hd:N i=some d)(hd':N j=some d')(s:Bool)(h:∀a,den N (2*i) a=(s ^^ den N (2*j) a)):i=j:=by
 have o1:Ok N (2*i):=⟨by have:=g.var hd;omega,.inr ⟨d,by rw[show 2*i/2=i by omega];exact hd⟩⟩
 have o2:Ok N (2*j):=⟨by have:=g.var hd';omega,.inr ⟨d',by rw[show 2*j/2=j by omega];exact hd'⟩⟩
 have h1:=h (λ_=>true);rw[g.UF hn o1,g.UF hn o2]at h1;have hs:s=false:=by
  rw[show 2*i%2=0 by omega,show 2*j%2=0 by omega]at h1;cases s
  .rfl
  .simp at h1
 subst hs;have:=g.eq hn o1 o2 (by funext a;rw[h a,Bool.false_xor]);omega
def RD(n:Int)(f:Fn):Prop:=∀a b:As,(∀v,0<=v->v<n->a v=b v)->f a=f b
theorem Good.rd(g:Good n lv N){e:Int}(h:Ok N e):RD n (den N e):=λa b hab=>g.Sz h λv h0 h1 _=>hab v h0 h1
theorem Rh.few(g:Good n lv N)(hn:0<=n)(h8:n<=8){R:List Fn}(hR:∀f∈R,RD n f)(h:Rh n lv N R)(l:List Int)(hl:l.Nodup)(hm:∀i∈l,∃d,N i=some d):l.length<=65536+15*R.length:=by
 have code:∀i,∃c:Nat×List Bool,i∈l->(c.1<=R.length/\(c.1=0->c.2.length=16)/\(c.1≠0->c.2.length<4))/\
   ∃d,N i=some d/\((c.1=0/\n-4<=lv d.v/\c.2=(X5 4).map λt=>den N (2*i) (asg lv (n-4) t)) ∨
    (∃f,c.1≠0/\R[c.1-1]?=some f/\(c.2.length:Int)=lv d.v/\∃s:Bool,∀a,den N (2*i) a=(s ^^ f (mix lv (lv d.v) (asg lv 0 c.2) a)))):=by
  intro i
  by_cases hi:i∈l
  .obtain⟨d,hd⟩:=hm i hi
   have hv:=g.var hd
   have hr:=g.od.MT _ hv.2.1 hv.2.2
   by_cases hdeep:n-4<=lv d.v
   .exact⟨⟨0,(X5 4).map λt=>den N (2*i) (asg lv (n-4) t)⟩,λ_=>⟨⟨Nat.zero_le _,λ_=>by rw[List.length_map,Ac5],λh=>absurd rfl h⟩,d,hd,.inl ⟨rfl,hdeep,rfl⟩⟩⟩
   .obtain⟨f,hf,s,b,hc⟩:=(h i d hd).resolve_left hdeep
    obtain⟨q,hq,hqf⟩:=List.getElem_of_mem hf
    let vr:Nat->Int:=λk=>Classical.epsilon λv=>0<=v/\v<n/\lv v=k
    let t:List Bool:=(List.range (lv d.v).toNat).map λk=>b (vr k)
    refine⟨⟨q+1,t⟩,λ_=>⟨⟨by simp;omega,λh=>by simp at h,λ_=>by simp [t];omega⟩,d,hd,.inr ⟨f,by simp,by simp [hq,hqf],by simp [t];omega,s,λa=>?_⟩⟩⟩
    rw[hc a]
    congr 1
    refine hR f hf _ _ λv h0 h1=>?_
    unfold mix
    by_cases h2:lv v<lv d.v
    .rw[if_pos h2,if_pos h2]
     have hrv:=g.od.MT v h0 h1
     have hvr:vr (lv v).toNat=v:=by have:=Classical.epsilon_spec (p:=λu=>0<=u/\u<n/\lv u=((lv v).toNat:Int)) ⟨v,h0,h1,by omega⟩;exact g.od.inj _ _ this.1 this.2.1 h0 h1 (by rw[this.2.2];omega)
     show b v=t.getD (lv v-0).toNat false
     rw[Int.sub_zero,List.getD_eq_getElem?_getD,List.getElem?_map,List.getElem?_range (by omega)]
     simp [hvr]
    .rw[if_neg h2,if_neg h2]
  .exact⟨⟨0,[]⟩,λh=>(hi h).elim⟩
 obtain⟨c,hc⟩:=Classical.axiomOfChoice code;have inj:∀i∈l,∀j∈l,c i=c j->i=j:=by
  intro i hi j hj e;obtain⟨_,d,hd,h1⟩:=hc i hi;obtain⟨_,d',hd',h2⟩:=hc j hj;rw[e]at h1;rcases h1 with ⟨k1,k2,k3⟩|⟨f,k1,k2,k3,s,k4⟩<;>rcases h2 with ⟨m1,m2,m3⟩|⟨f',m1,m2,m3,s',m4⟩
  .refine Agn g hn hd hd' false λa=>?_;rw[Bool.false_xor];rw[k3]at m3;have o1:Ok N (2*i):=⟨by have:=g.var hd;omega,.inr ⟨d,by rw[show 2*i/2=i by omega];exact hd⟩⟩
   have o2:Ok N (2*j):=⟨by have:=g.var hd';omega,.inr ⟨d',by rw[show 2*j/2=j by omega];exact hd'⟩⟩
   have l1:el n lv N (2*i)=lv d.v:=Bl (by have:=g.var hd;omega) (by rw[show 2*i/2=i by omega];exact hd);have l2:el n lv N (2*j)=lv d'.v:=Bl (by have:=g.var hd';omega) (by rw[show 2*j/2=j by omega];exact hd');let vr:Nat->Int:=λk=>Classical.epsilon λv=>0<=v/\v<n/\lv v=n-4+k;let t:List Bool:=(List.range 4).map λk=>a (vr k);have ht:t∈X5 4:=Ac4 4 t (by simp [t]);have ha:∀v,0<=v->v<n->n-4<=lv v->a v=asg lv (n-4) t v:=λv h0 h1 h2=>by
    have hrv:=g.od.MT v h0 h1;have hvr:vr (lv v-(n-4)).toNat=v:=by have:=Classical.epsilon_spec (p:=λu=>0<=u/\u<n/\lv u=n-4+((lv v-(n-4)).toNat:Int)) ⟨v,h0,h1,by omega⟩;exact g.od.inj _ _ this.1 this.2.1 h0 h1 (by rw[this.2.2];omega)
    show a v=t.getD (lv v-(n-4)).toNat false;rw[List.getD_eq_getElem?_getD,List.getElem?_map,List.getElem?_range (by omega)];simp [hvr]
   rw[g.Sz o1 (b:=asg lv (n-4) t) λv h0 h1 h2=>ha v h0 h1 (by omega),g.Sz o2 (b:=asg lv (n-4) t) λv h0 h1 h2=>ha v h0 h1 (by omega)];exact List.map_inj_left.1 m3 t ht
  .exact(m1 k1).elim
  .exact(k1 m1).elim
  .rw[k2]at m2;cases m2;have hl:lv d.v=lv d'.v:=by omega
   refine Agn g hn hd hd' (s ^^ s') λa=>?_;rw[k4 a,m4 a,hl];cases s<;>cases s'<;>simp
 have hnd:(l.map c).Nodup:=by rw[List.Nodup,List.pairwise_map];exact hl.imp_of_mem λ{x y}hx hy hne e=>hne (inj x hx y hy e)
 have:=Yv R.length (l.map c) hnd λx hx=>by obtain⟨i,hi,rfl⟩:=List.mem_map.1 hx;exact(hc i hi).1
 simpa using this
end
end
end Go.B
namespace Go.Proofs.YtcbkbpjlbmalmaaGreatDoor
open Go Go.X Go.Y
section
abbrev Gd:Ty:=.int .i64
theorem AG{n:Int}:Ag .i64 n↔-9223372036854775808<=n/\n<=9223372036854775807:=by
 have h1:IntKind.i64.min=-9223372036854775808:=by decide
 have h2:IntKind.i64.max=9223372036854775807:=by decide
 unfold Ag;rw[h1,h2]
theorem A1v(n:Nat):n ^^^ 1=if n%2=0 then n+1 else n-1:=by
 have h1:(n ^^^ 1)/2=n/2:=by
  apply Nat.eq_of_testBit_eq;intro i;rw[Nat.testBit_div_two,Nat.testBit_div_two,Nat.testBit_xor];have:Nat.testBit 1 (i+1)=false:=by rw[Nat.testBit_succ];simp
  rw[this,Bool.xor_false]
 have h2:(n ^^^ 1)%2=1-n%2:=by have h3:=Nat.testBit_xor n 1 0;simp only[Nat.testBit_zero]at h3;rcases Nat.mod_two_eq_zero_or_one n with h|h<;>rcases Nat.mod_two_eq_zero_or_one (n ^^^ 1) with h'|h'<;>simp [h,h']at h3 ⊢
 split<;>omega
variable {e:Int}
theorem Acz(h:Ag .i64 e):C5 .xor .i64 e 1=B.flip e:=by
 have he:=AG.1 h;have h1:(BitVec.ofInt 64 e ^^^ BitVec.ofInt 64 1).toNat=if (e%18446744073709551616)%2=0 then (e%18446744073709551616).toNat+1 else (e%18446744073709551616).toNat-1:=by
  rw[BitVec.toNat_xor,BitVec.toNat_ofInt,BitVec.toNat_ofInt];have e1:((1:Int)%((2^64:Nat):Int)).toNat=1:=by decide
  have e2:((2^64:Nat):Int)=18446744073709551616:=by decide
  rw[e1,e2,A1v];split<;>split<;>omega
 show IntKind.i64.wrap ((BitVec.ofInt 64 e ^^^ BitVec.ofInt 64 1).toNat:Int)=_;rw[h1];have hw:∀m:Int,IntKind.i64.wrap m=if 9223372036854775808<=m%18446744073709551616 then m%18446744073709551616-18446744073709551616 else m%18446744073709551616:=λm=>by simp only[IntKind.wrap,IntKind.bits,IntKind.signed];simp
 rw[hw];unfold B.flip;split<;>split<;>split<;>omega
def Ax(e:Int):Int:=max e 0/2
def Bc(e:Int):Bool:=decide (0<e/\e%2=1)
theorem J3(h:0<=e):Ax e=e/2:=by unfold Ax;omega
theorem Aei(h:0<=e):Bc e=decide (e%2=1):=by unfold Bc;congr 1;exact propext ⟨λh=>h.2,λh=>⟨by omega,h⟩⟩
def A8(e:Int)(b:Bool):Int:=if b=true then B.flip e else e
theorem J4{s:Int}(h:0<=s):A8 e (Bc s)=B.fl e s:=by rw[Aei h];unfold A8 B.fl;by_cases h1:s%2=1<;>simp [h1]
noncomputable def pf0:(q:FuncId)->Option (PF Y0 q):=λ_=>none
variable {a1:Iq Y0 [Gd]}
theorem Avi(a:Iq Y0 [Gd])(F:Iq Y0 [Gd]):(Ag .i64 (Je true a.1 [(.i64,0)])->¬(2:Int)=0/\Ag .i64 ((Je true a.1 [(.i64,0)]).tdiv 2)/\((Je true a.1 [(.i64,0)]).tdiv 2,PUnit.unit)=F)=pfP (Y:=Y0) pf0 Tryz.f182 [Gd] [Gd] a F:=by kernel_rfl
noncomputable def Aeb:PF Y0 182 where
 ta:=[Gd]
 tr:=[Gd]
 KB:=none
 F a:=(Ax a.1,())
 pa:=rfl
 pr:=rfl
 can:=by kernel_rfl
 ok a hr _ I w hG:=KQ (pf:=pf0) (fn:=Tryz.f182) (by kernel_rfl) rfl rfl hr (Eq.mp (Avi a _) (by have he:=AG.1 hr.1;have hm:Je true a.1 [(.i64,0)]=max a.1 0:=rfl;rw[hm];intro h;have ht:(max a.1 0).tdiv 2=max a.1 0/2:=Int.tdiv_eq_ediv_of_nonneg (by omega);rw[ht];exact⟨by decide,AG.2 (by omega),rfl⟩)) I w hG
theorem Azo(a:Iq Y0 [Gd])(F:Iq Y0 [.bool]):((0<a.1->Ag .i64 a.1->¬(2:Int)=0/\Ag .i64 (a.1.tmod 2)/\(decide (a.1.tmod 2=1),PUnit.unit)=F)/\(¬0<a.1->(false,PUnit.unit)=F))=pfP (Y:=Y0) pf0 Tryz.f185 [Gd] [.bool] a F:=by kernel_rfl
noncomputable def Als:PF Y0 185 where
 ta:=[Gd]
 tr:=[.bool]
 KB:=none
 F a:=(Bc a.1,())
 pa:=rfl
 pr:=rfl
 can:=by kernel_rfl
 ok a hr _ I w hG:=KQ (pf:=pf0) (fn:=Tryz.f185) (by kernel_rfl) rfl rfl hr (Eq.mp (Azo a _) (by
  have he:=AG.1 hr.1;refine⟨λh _=>?_,λh=>?_⟩
  .have ht:a.1.tmod 2=a.1%2:=Int.tmod_eq_emod_of_nonneg (Int.le_of_lt h);rw[ht];refine⟨by decide,AG.2 (by omega),?_⟩;show (_,())=(_,());congr 1;unfold Bc;simp [h]
  .show (_,())=(_,());congr 1;unfold Bc;simp [h])) I w hG
theorem Azk(a:Iq Y0 [Gd])(F:Iq Y0 [Gd]):(Ag .i64 a.1->(C5 .xor .i64 a.1 1,PUnit.unit)=F)=pfP (Y:=Y0) pf0 Tryz.f169 [Gd] [Gd] a F:=by kernel_rfl
noncomputable def Alr:PF Y0 169 where
 ta:=[Gd]
 tr:=[Gd]
 KB:=none
 F a:=(B.flip a.1,())
 pa:=rfl
 pr:=rfl
 can:=by kernel_rfl
 ok a hr _ I w hG:=KQ (pf:=pf0) (fn:=Tryz.f169) (by kernel_rfl) rfl rfl hr (Eq.mp (Azk a _) (λh=>by rw[Acz h];rfl)) I w hG
noncomputable def pf1:(q:FuncId)->Option (PF Y0 q)
 |182=>some Aeb
 |185=>some Als
 |169=>some Alr
 |_=>none
theorem Awt(a:Iq Y0 [Gd,.bool])(F:Iq Y0 [Gd]):((a.2.1=true->(B.flip a.1,PUnit.unit)=F)/\(¬a.2.1=true->(a.1,PUnit.unit)=F))=pfP (Y:=Y0) pf1 Tryz.f184 [Gd,.bool] [Gd] a F:=by kernel_rfl
noncomputable def Alv:PF Y0 184 where
 ta:=[Gd,.bool]
 tr:=[Gd]
 KB:=none
 F a:=(A8 a.1 a.2.1,())
 pa:=rfl
 pr:=rfl
 can:=by kernel_rfl
 ok a hr _ I w hG:=KQ (pf:=pf1) (fn:=Tryz.f184) (by kernel_rfl) rfl rfl hr (Eq.mp (Awt a _) ⟨λh=>by show (_,())=(_,());rw[A8,if_pos h],λh=>by show (_,())=(_,());rw[A8,if_neg h]⟩) I w hG
theorem Ars(a:Iq Y0 [Gd])(F:Iq Y0 [.bool]):((decide (Ax a.1=0),PUnit.unit)=F)=pfP (Y:=Y0) pf1 Tryz.f121 [Gd] [.bool] a F:=by kernel_rfl
noncomputable def Agb:PF Y0 121 where
 ta:=[Gd]
 tr:=[.bool]
 KB:=none
 F a:=(decide (Ax a.1=0),())
 pa:=rfl
 pr:=rfl
 can:=by kernel_rfl
 ok a hr _ I w hG:=KQ (pf:=pf1) (fn:=Tryz.f121) (by kernel_rfl) rfl rfl hr (Eq.mp (Ars a _) rfl) I w hG
noncomputable def ZU:(q:FuncId)->Option (PF Y0 q)
 |182=>some Aeb
 |185=>some Als
 |169=>some Alr
 |184=>some Alv
 |121=>some Agb
 |_=>none
theorem Avh(a:Iq Y0 [Gd,Gd])(F:Iq Y0 [Gd,Gd,.bool]):((A8 a.1 (Bc a.2.1),A8 a.2.1 (Bc a.2.1),Bc a.2.1,PUnit.unit)=F)=pfP (Y:=Y0) ZU Tryz.f231 [Gd,Gd] [Gd,Gd,.bool] a F:=by kernel_rfl
noncomputable def Auy:PF Y0 231 where
 ta:=[Gd,Gd]
 tr:=[Gd,Gd,.bool]
 KB:=none
 F a:=(A8 a.1 (Bc a.2.1),A8 a.2.1 (Bc a.2.1),Bc a.2.1,())
 pa:=rfl
 pr:=rfl
 can:=by kernel_rfl
 ok a hr hd I w hG:=KQ (pf:=ZU) (fn:=Tryz.f231) (by kernel_rfl) rfl rfl hr (Eq.mp (Avh a _) (rfl)) I w hG
theorem A2m(c:Int)(h:c<=4611686018427387903):Ag .i64 (2*max c 0):=AG.2 (by omega)
theorem A2n(a:Iq Y0 [Gd,.bool])(F:Iq Y0 [Gd]):(Ag .i64 (Je true a.1 [(.i64,0)])->Ag .i64 (2*Je true a.1 [(.i64,0)])/\(A8 (2*Je true a.1 [(.i64,0)]) a.2.1,PUnit.unit)=F)=pfP (Y:=Y0) ZU Tryz.f234 [Gd,.bool] [Gd] a F:=by kernel_rfl
noncomputable def A2k:PF Y0 234 where
 ta:=[Gd,.bool]
 tr:=[Gd]
 KB:=some λa=>((a.1:Int)<=4611686018427387903)
 F a:=(A8 (2*max a.1 0) a.2.1,())
 pa:=rfl
 pr:=rfl
 can:=by kernel_rfl
 ok a hr hd I w hG:=KQ (pf:=ZU) (fn:=Tryz.f234) (by kernel_rfl) rfl rfl hr (Eq.mp (A2n a _) (by have h:(a.1:Int)<=4611686018427387903:=hd _ rfl;exact λ_=>⟨A2m _ h,rfl⟩)) I w hG
theorem R0{α:Type}{x y:Bool}{z:α}(h:x=y):(x,z)=(y,z):=by rw[h]
def Ci(c:Int):Bool:=decide ((97<=c/\c<=122)∨(65<=c/\c<=90))
theorem Hv(c:Int):(97<=c->(c<=122->true=Ci c)/\(¬c<=122->(65<=c->decide (c<=90)=Ci c)/\(¬65<=c->false=Ci c)))/\(¬97<=c->(65<=c->decide (c<=90)=Ci c)/\(¬65<=c->false=Ci c)):=by unfold Ci;refine⟨λh1=>⟨λh2=>?_,λh2=>⟨λh3=>?_,λh3=>?_⟩⟩,λh1=>⟨λh3=>?_,λh3=>?_⟩⟩<;>first|exact(decide_eq_true (by omega)).symm|exact(decide_eq_false (by omega)).symm|exact decide_eq_decide.2 (by omega)
def isDigit(c:Int):Bool:=decide (48<=c/\c<=57)
theorem Amy(a:Iq Y0 [.int .u8])(F:Iq Y0 [.bool]):((97<=a.1->(a.1<=122->(true,PUnit.unit)=F)/\(¬a.1<=122->(65<=a.1->(decide (a.1<=90),PUnit.unit)=F)/\(¬65<=a.1->(false,PUnit.unit)=F)))/\(¬97<=a.1->(65<=a.1->(decide (a.1<=90),PUnit.unit)=F)/\(¬65<=a.1->(false,PUnit.unit)=F)))=pfP (Y:=Y0) ZU Tryz.f202 [.int .u8] [.bool] a F:=by kernel_rfl
noncomputable def Alu:PF Y0 202 where
 ta:=[.int .u8]
 tr:=[.bool]
 KB:=none
 F a:=(Ci a.1,())
 pa:=rfl
 pr:=rfl
 can:=by kernel_rfl
 ok a hr hd I w hG:=KQ (pf:=ZU) (fn:=Tryz.f202) (by kernel_rfl) rfl rfl hr (Eq.mp (Amy a _) (⟨λh1=>⟨λh2=>R0 (((Hv _).1 h1).1 h2),λh2=>⟨λh3=>R0 ((((Hv _).1 h1).2 h2).1 h3),λh3=>R0 ((((Hv _).1 h1).2 h2).2 h3)⟩⟩,λh1=>⟨λh3=>R0 (((Hv _).2 h1).1 h3),λh3=>R0 (((Hv _).2 h1).2 h3)⟩⟩)) I w hG
theorem Ai7(a:Iq Y0 [.int .u8])(F:Iq Y0 [.bool]):((97<=a.1->(a.1<=122->(true,PUnit.unit)=F)/\(¬a.1<=122->(65<=a.1->(decide (a.1<=90),PUnit.unit)=F)/\(¬65<=a.1->(false,PUnit.unit)=F)))/\(¬97<=a.1->(65<=a.1->(decide (a.1<=90),PUnit.unit)=F)/\(¬65<=a.1->(false,PUnit.unit)=F)))=pfP (Y:=Y0) ZU Tryz.f154 [.int .u8] [.bool] a F:=by kernel_rfl
noncomputable def Ain:PF Y0 154 where
 ta:=[.int .u8]
 tr:=[.bool]
 KB:=none
 F a:=(Ci a.1,())
 pa:=rfl
 pr:=rfl
 can:=by kernel_rfl
 ok a hr hd I w hG:=KQ (pf:=ZU) (fn:=Tryz.f154) (by kernel_rfl) rfl rfl hr (Eq.mp (Ai7 a _) (⟨λh1=>⟨λh2=>R0 (((Hv _).1 h1).1 h2),λh2=>⟨λh3=>R0 ((((Hv _).1 h1).2 h2).1 h3),λh3=>R0 ((((Hv _).1 h1).2 h2).2 h3)⟩⟩,λh1=>⟨λh3=>R0 (((Hv _).2 h1).1 h3),λh3=>R0 (((Hv _).2 h1).2 h3)⟩⟩)) I w hG
theorem Arp(a:Iq Y0 [.int .u8])(F:Iq Y0 [.bool]):((48<=a.1->(decide (a.1<=57),PUnit.unit)=F)/\(¬48<=a.1->(false,PUnit.unit)=F))=pfP (Y:=Y0) ZU Tryz.f248 [.int .u8] [.bool] a F:=by kernel_rfl
noncomputable def Aqc:PF Y0 248 where
 ta:=[.int .u8]
 tr:=[.bool]
 KB:=none
 F a:=(isDigit a.1,())
 pa:=rfl
 pr:=rfl
 can:=by kernel_rfl
 ok a hr hd I w hG:=KQ (pf:=ZU) (fn:=Tryz.f248) (by kernel_rfl) rfl rfl hr (Eq.mp (Arp a _) (by refine⟨λh1=>R0 ?_,λh1=>R0 ?_⟩<;>(unfold isDigit;first|exact(decide_eq_false (λh=>h1 h.1)).symm|exact decide_eq_decide.2 ⟨λh=>⟨h1,h⟩,λh=>h.2⟩))) I w hG
theorem An1(a:Iq Y0 [.int .u8])(F:Iq Y0 [.bool]):((48<=a.1->(decide (a.1<=57),PUnit.unit)=F)/\(¬48<=a.1->(false,PUnit.unit)=F))=pfP (Y:=Y0) ZU Tryz.f201 [.int .u8] [.bool] a F:=by kernel_rfl
noncomputable def Alw:PF Y0 201 where
 ta:=[.int .u8]
 tr:=[.bool]
 KB:=none
 F a:=(isDigit a.1,())
 pa:=rfl
 pr:=rfl
 can:=by kernel_rfl
 ok a hr hd I w hG:=KQ (pf:=ZU) (fn:=Tryz.f201) (by kernel_rfl) rfl rfl hr (Eq.mp (An1 a _) (by refine⟨λh1=>R0 ?_,λh1=>R0 ?_⟩<;>(unfold isDigit;first|exact(decide_eq_false (λh=>h1 h.1)).symm|exact decide_eq_decide.2 ⟨λh=>⟨h1,h⟩,λh=>h.2⟩))) I w hG
noncomputable def pfT:(q:FuncId)->Option (PF Y0 q)
 |182=>some Aeb
 |185=>some Als
 |169=>some Alr
 |184=>some Alv
 |121=>some Agb
 |231=>some Auy
 |234=>some A2k
 |202=>some Alu
 |154=>some Ain
 |248=>some Aqc
 |201=>some Alw
 |_=>none
end
end Go.Proofs.YtcbkbpjlbmalmaaGreatDoor
