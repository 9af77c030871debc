/-
  The values of a term are few; values of pairs. (Merged by program out of 19 texts.)
-/
import Derived.Shelf.SortM.Plain
import Derived.Shelf.SortM.SortNone
import Derived.Shelf.SlLaysM
import Derived.Test.YtcbkbpjlbmalmaaGreatDoorpam
namespace Go.Proofs.YtcbkbpjlbmalmaaGreatDoor
open Go Go.X Go.Y Go.RowKit Go.Shelf
section
set_option maxRecDepth 100000
set_option maxHeartbeats 1000000
def Aid:Go.Shelf.Ren:=⟨fun|5=>138|8=>195|7=>194|19=>245|20=>246|10=>236|11=>237|12=>238|13=>239|14=>240|15=>241|16=>242|17=>243|18=>244|30=>260|31=>261|32=>262|33=>263|34=>264|35=>265|40=>277|n=>n,fun|23=>23|25=>3|3=>3|32=>237|22=>23|0=>0|44=>285|46=>183|4=>4|36=>279|35=>278|41=>47|5=>5|9=>9|53=>310|57=>314|63=>325|64=>82|n=>n,fun|n=>n⟩
theorem Asw:Go.Proofs.SlLaysM.n5 Tryz.prog Aid:={
 mixed:=by kernel_rfl,
 f5:=⟨Tryz.f138.name,by decide,Tryz.func138.trans (congrArg some (by kernel_rfl))⟩,
 f7:=⟨Tryz.f194.name,by decide,Tryz.func194.trans (congrArg some (by kernel_rfl))⟩,
 f8:=Tryz.func195.trans (congrArg some (by kernel_rfl)),
 f10:=⟨Tryz.f236.name,by decide,Tryz.func236.trans (congrArg some (by kernel_rfl))⟩,
 f11:=⟨Tryz.f237.name,by decide,Tryz.func237.trans (congrArg some (by kernel_rfl))⟩,
 f12:=⟨Tryz.f238.name,by decide,Tryz.func238.trans (congrArg some (by kernel_rfl))⟩,
 f13:=⟨Tryz.f239.name,by decide,Tryz.func239.trans (congrArg some (by kernel_rfl))⟩,
 f14:=⟨Tryz.f240.name,by decide,Tryz.func240.trans (congrArg some (by kernel_rfl))⟩,
 f15:=⟨Tryz.f241.name,by decide,Tryz.func241.trans (congrArg some (by kernel_rfl))⟩,
 f16:=⟨Tryz.f242.name,by decide,Tryz.func242.trans (congrArg some (by kernel_rfl))⟩,
 f17:=⟨Tryz.f243.name,by decide,Tryz.func243.trans (congrArg some (by kernel_rfl))⟩,
 f18:=⟨Tryz.f244.name,by decide,Tryz.func244.trans (congrArg some (by kernel_rfl))⟩,
 f19:=Tryz.func245.trans (congrArg some (by kernel_rfl)),
 f20:=Tryz.func246.trans (congrArg some (by kernel_rfl)),
 f30:=⟨Tryz.f260.name,by decide,Tryz.func260.trans (congrArg some (by kernel_rfl))⟩,
 f31:=Tryz.func261.trans (congrArg some (by kernel_rfl)),
 f32:=Tryz.func262.trans (congrArg some (by kernel_rfl)),
 f33:=⟨Tryz.f263.name,by decide,Tryz.func263.trans (congrArg some (by kernel_rfl))⟩,
 f34:=⟨Tryz.f264.name,by decide,Tryz.func264.trans (congrArg some (by kernel_rfl))⟩,
 f35:=⟨Tryz.f265.name,by decide,Tryz.func265.trans (congrArg some (by kernel_rfl))⟩,
 f40:=⟨Tryz.f277.name,by decide,Tryz.func277.trans (congrArg some (by kernel_rfl))⟩,
 t0:=Tryz.underlying0,
 a0:=Tryz.isAgg0,
 z0:=Tryz.sizeOf0,
 v0:=Tryz.zeroValue0,
 t3:=Tryz.underlying3,
 a3:=Tryz.isAgg3,
 z3:=Tryz.sizeOf3,
 v3:=Tryz.zeroValue3,
 t4:=Tryz.underlying4,
 a4:=Tryz.isAgg4,
 z4:=Tryz.sizeOf4,
 v4:=Tryz.zeroValue4,
 t5:=Tryz.underlying5,
 a5:=Tryz.isAgg5,
 z5:=Tryz.sizeOf5,
 v5:=Tryz.zeroValue5,
 t9:=Tryz.underlying9,
 a9:=Tryz.isAgg9,
 z9:=Tryz.sizeOf9,
 v9:=Tryz.zeroValue9,
 t22:=Tryz.underlying23,
 a22:=Tryz.isAgg23,
 z22:=Tryz.sizeOf23,
 v22:=Tryz.zeroValue23,
 t23:=Tryz.underlying23,
 a23:=Tryz.isAgg23,
 z23:=Tryz.sizeOf23,
 v23:=Tryz.zeroValue23,
 t25:=Tryz.underlying3,
 a25:=Tryz.isAgg3,
 z25:=Tryz.sizeOf3,
 v25:=Tryz.zeroValue3,
 t32:=Tryz.underlying237,
 a32:=Tryz.isAgg237,
 z32:=Tryz.sizeOf237,
 v32:=Tryz.zeroValue237,
 t35:=Tryz.underlying278,
 a35:=Tryz.isAgg278,
 z35:=Tryz.sizeOf278,
 v35:=Tryz.zeroValue278,
 t36:=Tryz.underlying279,
 a36:=Tryz.isAgg279,
 z36:=Tryz.sizeOf279,
 v36:=Tryz.zeroValue279,
 t41:=Tryz.underlying47,
 a41:=Tryz.isAgg47,
 z41:=Tryz.sizeOf47,
 v41:=Tryz.zeroValue47,
 t44:=Tryz.underlying285,
 a44:=Tryz.isAgg285,
 z44:=Tryz.sizeOf285,
 v44:=Tryz.zeroValue285,
 t46:=Tryz.underlying183,
 a46:=Tryz.isAgg183,
 z46:=Tryz.sizeOf183,
 v46:=Tryz.zeroValue183,
 t53:=Tryz.underlying310,
 a53:=Tryz.isAgg310,
 z53:=Tryz.sizeOf310,
 v53:=Tryz.zeroValue310,
 t57:=Tryz.underlying314,
 a57:=Tryz.isAgg314,
 z57:=Tryz.sizeOf314,
 v57:=Tryz.zeroValue314,
 t63:=Tryz.underlying325,
 a63:=Tryz.isAgg325,
 z63:=Tryz.sizeOf325,
 v63:=Tryz.zeroValue325,
 t64:=Tryz.underlying82,
 a64:=Tryz.isAgg82,
 z64:=Tryz.sizeOf82,
 v64:=Tryz.zeroValue82}
theorem Aap{I:BY}{W:World}{A T:Bh}{v:Value}{xs:List Int}(ho:ND Y0 I6 I W A v xs)(hs:St I W (A++T))(hmax:xs.length<4611686018427387904):Calls Y0.P 138 #[v] W λe w'=>e=.returned (.tuple #[])/\∃A',Ext I W I w'/\St I w' (A'++T)/\ND Y0 I6 I w' A' v (xs.mergeSort λx y=>decide (x<=y)):=by
 rcases @Bw.ex _ (RT Y0.toUS I6) _ _ _ _ _ ho with ⟨rfl,rfl,rfl⟩|⟨b,arr,cap,e0,off,rfl,rfl,h3,h4,h5,h6⟩
 .have key:=Go.Proofs.AnyM.slices_Sort_int_none (P:=Y0.P) Asw none 0 W;change Calls Y0.P 138 _ _ _ at key;refine Calls.mono key λe w'⟨he,hw⟩=>⟨he,[],?_⟩
  subst hw;exact⟨Ext.refl _ _,hs,by simpa using ho⟩
 .letI:AT (den Y0.D I6):=RT Y0.toUS I6
  have hsz:AT.size (den Y0.D I6)=1:=rfl;have cell:∀j(hj:j<xs.length),arr[off+j]?=some (.int .i64 xs[j])/\Ag .i64 xs[j]:=λj hj=>by
   obtain⟨u,hu,hc⟩:=h6 j hj;have hu':=AX.1 (show rp Y0.toUS I6 I W u xs[j] from hu);have:=hc 0 (by rw[hu'.1];exact Nat.one_pos);rw[hsz,hu'.1]at this;refine⟨?_,hu'.2⟩;have e:off+(j*1+0)=off+j:=by omega
   rw[<-e];exact this
  have hb:=hs.heap;have hblk:b<W.heap.size:=(Array.getElem?_eq_some_iff.1 hb).1;have hH:Go.Sort.Holds (Value.int .i64) W b off xs.toArray:=by
   intro j hj;have hj':j<xs.length:=by simpa using hj
   refine⟨?_,by simp [World.frozen?,hb]⟩;rw[Bp hb,getElem!_pos xs.toArray j hj];exact(cell j hj').1
  have key:=Go.Proofs.AnyM.slices_Sort_int (P:=Y0.P) Asw b off cap xs W hH hblk hmax;change Calls Y0.P 138 _ _ _ at key;refine key.mono λe w'⟨he,n,os,hw⟩=>⟨he,?_⟩
  have hperm:(xs.mergeSort λx y=>decide (x<=y)).Perm xs:=List.mergeSort_perm _ _;generalize hys:(xs.mergeSort λx y=>decide (x<=y))=ys at hperm hw;have hl:ys.length=xs.length:=hperm.length_eq;let arr':Array Value:=Go.Sort.putCells (Value.int .i64) off ys.toArray arr;have harr':arr'.size=arr.size:=by simp [arr',Go.Sort.putCells]
  refine⟨[(b,.cells arr' e0 (0,0))],?_⟩;obtain⟨x1,s1⟩:=hs.write (w':=Go.Sort.putRow (Value.int .i64) (Go.Sort.ahead W n) b off ys.toArray) (o':=.cells arr' e0 (0,0)) rfl rfl rfl (by simp [Go.Sort.putRow,Go.Sort.mapBlock,Go.Sort.ahead]) (by
   show (W.heap.modify b _)[b]?=_;rw[Array.getElem?_modify,if_pos rfl,hb];rfl) (λc hc=>by
   show (W.heap.modify b _)[c]?=_;rw[Array.getElem?_modify,if_neg (Ne.symm hc)])
  obtain⟨x2,s2⟩:=Ak4 os s1;subst hw;refine⟨x1.trans x2,s2,⟨.inr ⟨b,arr',cap,e0,off,rfl,congrArg (λn=>Value.slice (some ⟨b,off,none⟩) n cap) hl.symm,Nat.le_trans (Nat.le_of_eq hl) h3,h4,by rw[harr'];exact h5,λj hj=>?_⟩⟩⟩;have hin:Ag .i64 ys[j]:=by obtain⟨i,hi,e⟩:=List.mem_iff_getElem.1 (hperm.mem_iff.1 (List.getElem_mem hj));rw[<-e];exact(cell i hi).2
  refine⟨.int .i64 ys[j],AX.2 ⟨rfl,hin⟩,λi hi=>?_⟩;have hi2:i=0:=by have:i<1:=hi;omega
  subst hi2;show arr'[off+(j*1+0)]?=some (Value.int .i64 ys[j]);have hlt:off+(j*1+0)<arr.size:=by have h5':off+cap*1<=arr.size:=h5;omega
  simp only[arr',Go.Sort.putCells,Array.getElem?_mapIdx,Array.getElem?_eq_getElem hlt,Option.map_some];have hr:off<=off+(j*1+0)/\off+(j*1+0)<off+ys.toArray.size:=by
   refine⟨by omega,?_⟩;have:ys.toArray.size=ys.length:=by simp
   omega
  rw[if_pos hr];have e1:off+(j*1+0)-off=j:=by omega
  rw[e1,getElem!_pos ys.toArray j (by simpa using hj)];simp
theorem Uj{x:List Int}{H:HY}{X:PX}{Q:Unit->List Int×Unit->HP}(hmax:x.length<4611686018427387904)(h:Q () (x.mergeSort λa b=>decide (a<=b),()) H):Wp Y0 CA Ca (x,()) H Q X:=by intro I w T A AH vs hA hH hs;obtain⟨v,vs',A1,A2,rfl,rfl,ho,rfl,rfl⟩:=hA;have key:=Aap (T:=AH++T) ho (hs.perm (by simpa using List.perm_append_comm_assoc AH A1 T)) hmax;refine Calls.mono key λe w'⟨he,A',he1,he2,he3⟩=>.inl ⟨_,I,he,he1,AH,A',H,?_,hH.mono he1,(),(x.mergeSort λa b=>decide (a<=b),()),[],[],A',rfl,rfl,⟨rfl,rfl⟩,⟨v,[],A',[],rfl,by simp,he3,rfl⟩,h⟩;exact he2.perm (List.perm_append_comm_assoc A' AH T)
end
end Go.Proofs.YtcbkbpjlbmalmaaGreatDoor
namespace Go.Proofs.YtcbkbpjlbmalmaaGreatDoor
open Go Go.X Go.Y
section
abbrev YL(l c:Nat)(r:Loop):FT Y0 [.int .i64] [.bool]:=λ(a:Int×Unit)(H:HY)(Q:Bool×Unit->HP)(X:Nat->Lf Y0.D->HP)=>H l=some (Ob.lp r)/\H l=some (Ob.lp r)/\∃(x:List Int),Ac H l (Ob.lp (CE r)) c=some (Ob.st Al x)/\(x.length+[a.1].length)*8<=140737488355328/\Ac (Ac H l (Ob.lp (CE r))) c (Ob.st Al (x++[a.1])) l=some (Ob.lp (CE r))/\Q (true,()) (Ac (Ac (Ac H l (Ob.lp (CE r))) c (Ob.st Al (x++[a.1]))) l (Ob.lp r))
variable {b l c:Nat} {r:Loop} {m:List (Int×Int)} {H0:HY} {X:PX} {Q:Unit->UU}
theorem Yi{g:Int×Int->Int}(hb:H0 b=some (.mp I6 I6 m))(hc:H0 c=none)(hl:H0 l=none)(hlc:l≠c)(hm:m.length<=1000000)(h:∀x:List Int,x.Perm (m.map g)->Q () () (Ac (Ac H0 c (Ob.st Al x)) l (Ob.lp r))):∃(V:List (Int×Int)->UU),(True/\V m () (Cs (Ac (Ac H0 c (Ob.st Al [])) l (Ob.lp r)) b))/\∀(left:List (Int×Int))(x:Unit)(H:HY),V left x H->(left=[]->Q () () (Ac H b (Ob.mp (Ty.int .i64) (Ty.int .i64) m)))/\∀(l1:List (Int×Int))(p:Int×Int)(l2:List (Int×Int)),left=l1++p::l2->YL l c r (g p,()) H (λ(b_1:Bool×Unit)(H':HY)=>(¬b_1.1=true->Q () () (Ac H' b (Ob.mp (Ty.int .i64) (Ty.int .i64) m)))/\(¬¬b_1.1=true->True/\V (l1++l2) () H')) X:=by
 have hbc:b≠c:=λe=>by subst e;rw[hb]at hc;cases hc
 have hbl:b≠l:=λe=>by subst e;rw[hb]at hl;cases hl
 refine⟨λleft _ H=>∃x:List Int,H=Cs (Ac (Ac H0 c (Ob.st Al x)) l (Ob.lp r)) b/\(x++left.map g).Perm (m.map g),⟨trivial,[],rfl,by simp⟩,?_⟩;rintro left u H ⟨x,rfl,hp⟩;refine⟨λe=>?_,λl1 p l2 e=>?_⟩
 .subst e;have e1:Ac (Cs (Ac (Ac H0 c (Ob.st Al x)) l (Ob.lp r)) b) b (Ob.mp (Ty.int .i64) (Ty.int .i64) m)=Ac (Ac H0 c (Ob.st Al x)) l (Ob.lp r):=by
   funext k;by_cases e:k=b
   .subst e;simp [Ac,Cs,hbc,hbl,hb]
   .simp [Ac,Cs,e]
  rw[e1];exact h x (by simpa using hp)
 .subst e;have hlen:x.length<=1000000:=by have:=hp.length_eq;simp only[List.length_append,List.length_map]at this;omega
  refine⟨by simp [Ac,Cs,Ne.symm hbl],by simp [Ac,Cs,Ne.symm hbl],x,by simp [Ac,Cs,Ne.symm hbc,Ne.symm hlc],by simp;omega,by simp [Ac,hlc],λhn=>absurd rfl hn,λ_=>⟨trivial,x++[g p],?_,?_⟩⟩
  .funext k;by_cases e1:k=l
   .subst e1;simp [Ac,Cs,Ne.symm hbl]
   .by_cases e2:k=c
    .subst e2;simp [Ac,Cs,e1,Ne.symm hbc]
    .simp [Ac,Cs,e1,e2]
  .refine List.Perm.trans ?_ hp;simp only[List.map_append,List.map_cons,List.append_assoc,List.singleton_append,List.cons_append,List.nil_append];exact List.Perm.append_left x List.perm_middle.symm
theorem Am2(hb:H0 b=some (.mp I6 I6 m))(hc:H0 c=none)(hl:H0 l=none)(hlc:l≠c)(hm:m.length<=1000000)(h:∀x:List Int,x.Perm (m.map (·.1))->Q () () (Ac (Ac H0 c (Ob.st Al x)) l (Ob.lp r))):Wp Y0 Bb AO (YL l c r,some b,()) (Ac (Ac H0 c (Ob.st Al [])) l (Ob.lp r)) Q X:=by
 have hbc:b≠c:=λe=>by subst e;rw[hb]at hc;cases hc
 have hbl:b≠l:=λe=>by subst e;rw[hb]at hl;cases hl
 apply Im;unfold Es;exact⟨b,rfl,m,by simp [Ac,hbc,hbl,hb],trivial,Yi hb hc hl hlc hm h⟩
theorem Adx(hb:H0 b=some (.mp I6 I6 m))(hc:H0 c=none)(hl:H0 l=none)(hlc:l≠c)(hm:m.length<=1000000)(h:∀x:List Int,x.Perm (m.map (·.2))->Q () () (Ac (Ac H0 c (Ob.st Al x)) l (Ob.lp r))):Wp Y0 Bi AW (YL l c r,some b,()) (Ac (Ac H0 c (Ob.st Al [])) l (Ob.lp r)) Q X:=by
 have hbc:b≠c:=λe=>by subst e;rw[hb]at hc;cases hc
 have hbl:b≠l:=λe=>by subst e;rw[hb]at hl;cases hl
 apply Ht;unfold DY;exact⟨b,rfl,m,by simp [Ac,hbc,hbl,hb],trivial,Yi hb hc hl hlc hm h⟩
def Bd(m:List (Int×Int)):List Int:=(m.map (·.1)).mergeSort λa b=>decide (a<=b)
theorem RS{x y:List Int}(h:x.Perm y):(x.mergeSort λa b=>decide (a<=b))=y.mergeSort λa b=>decide (a<=b):=by
 refine List.Perm.eq_of_pairwise (le:=λa b=>a<=b) (λa b _ _ h1 h2=>by omega) ?_ ?_ ((List.mergeSort_perm x _).trans (h.trans (List.mergeSort_perm y _).symm))
 .exact(List.pairwise_mergeSort (by intro a b c;simp;omega) (by intro a b;simp;omega) x).imp (by simp)
 .exact(List.pairwise_mergeSort (by intro a b c;simp;omega) (by intro a b;simp;omega) y).imp (by simp)
theorem HC(m:List (Int×Int)):(Bd m).Perm (m.map (·.1)):=List.mergeSort_perm _ _
theorem Tc(m:List (Int×Int)):(Bd m).length=m.length:=by rw[(HC m).length_eq,List.length_map]
theorem LO{H:HY}{D:Nat->Nat->Loop->HP}{P:Nat->Nat->Loop->Unit->List Int×Unit->HP}(hb:H b=some (.mp I6 I6 m))(hm:m.length<=1000000)(h:∀c l r r',H l=none->P c l r () (Bd m,()) (Ac H l (Ob.lp r'))):∀(c:Nat),H c=none->∀(l:Nat)(r:Loop),Ac H c (Ob.st Al []) l=none->Wp Y0 Bb AO (YL l c r,some b,()) (Ac (Ac H c (Ob.st Al [])) l (Ob.lp r)) (λ(b_3 io:Unit)(H':HY)=>(H' l=some (Ob.lp r)/\∀(r':Loop),∃(x:List Int),Ac H' l (Ob.lp r') c=some (Ob.st Al x)/\Wp Y0 CA Ca (x,()) (Cs (Ac H' l (Ob.lp r')) c) (P c l r) X)∨D c l r H') X:=by
 intro c hc l r hl;have hlc:l≠c:=λe=>by subst e;simp [Ac]at hl
 have hl':H l=none:=by rw[Ac,if_neg hlc]at hl;exact hl
 refine Am2 hb hc hl' hlc hm λx hx=>.inl ⟨by simp [Ac],λr'=>⟨x,by simp [Ac,Ne.symm hlc],?_⟩⟩;have e1:Cs (Ac (Ac (Ac H c (Ob.st Al x)) l (Ob.lp r)) l (Ob.lp r')) c=Ac H l (Ob.lp r'):=by
  funext k;by_cases e:k=c
  .subst e;simp [Ac,Cs,Ne.symm hlc,hc]
  .simp only[Ac,Cs,e,if_false];split<;>rfl
 rw[e1];refine Uj (by have:=hx.length_eq;rw[List.length_map]at this;omega) ?_;rw[RS hx];exact h c l r r' hl'
end
section
set_option maxRecDepth 100000
set_option maxHeartbeats 2000000
def MP(w:Option Nat)(BA:List Int)(H:HY)(Q:Int×Unit->UU)(X:PX):=
 ∃(b:Nat),w=some b/\∃(x:Ar),H b=some (Ob.st BO x)/\((if 0=0 then some (C6.blk (Y:=Y0) [AV.dat Ty.ptr x.m,AV.dat (Ty.u 0).sl x.l.Ab,AV.dat (Ty.int .i64).sl x.l.Bits,AV.dat (Ty.int .i64).sl x.l.At,AV.own (1),AV.dat
 (Ty.int .i64) x.e]) else none)=some (C6.blk (Y:=Y0) [AV.dat Ty.ptr x.m,AV.dat (Ty.u 0).sl x.l.Ab,AV.dat (Ty.int .i64).sl x.l.Bits,AV.dat (Ty.int .i64).sl x.l.At,AV.own (1),AV.dat (Ty.int .i64) x.e])/\True)/\∃(V:List (Int×Bool)->UU),
 ({i:=0,b:=b,n:=1,x:=none:WM Y0}={i:=0,b:=b,n:=1,x:=none:WM Y0}/\((if 0=0 then some (C6.blk (Y:=Y0) [AV.dat Ty.ptr x.m,AV.dat (Ty.u 0).sl x.l.Ab,AV.dat (Ty.int .i64).sl x.l.Bits,AV.dat (Ty.int .i64).sl x.l.At,AV.own
 (1),AV.dat (Ty.int .i64) x.e]) else none)=some (C6.blk (Y:=Y0) [AV.dat Ty.ptr x.m,AV.dat (Ty.u 0).sl x.l.Ab,AV.dat (Ty.int .i64).sl x.l.Bits,AV.dat (Ty.int .i64).sl x.l.At,AV.own (1),AV.dat (Ty.int .i64) x.e])/\True)/\V x.live () H)/\∀(left :
 List (Int×Bool)) (x_1:Unit) (H_1:HY),V left x_1 H_1->(left=[]->Q (x.e,()) () (Ac H_1 b (Ob.st BO x)))/\∀(l1:List (Int×Bool))(p:Int×Bool)(l2:List (Int×Bool)),left=l1++p::l2->(¬x.e=(0:Int)->Wp Y0 EK DW (x.m,
 [p.1],()) (Cs H_1 b) (λ(b_1:Int×Unit)io H'=>H' b=none->{i:=0,b:=b,n:=1,x:=none:WM Y0}={i:=0,b:=b,n:=1,x:=none:WM Y0}/\((if 2=0 then some (C6.tp (Y:=Y0) [AV.dat (Ty.int .i64) p.1,
 AV.dat Ty.bool p.2]) else if 0=0 then some (C6.blk (Y:=Y0) [AV.dat Ty.ptr x.m,AV.dat (Ty.u 0).sl x.l.Ab,AV.dat (Ty.int .i64).sl x.l.Bits,AV.dat (Ty.int .i64).sl x.l.At,if 1=4 then AV.dat (Ty.int .i64).sl [p.1] else AV.own (nat_lit
 1),AV.dat (Ty.int .i64) x.e]) else none)=some (C6.blk (Y:=Y0) [AV.dat Ty.ptr x.m,AV.dat (Ty.u 0).sl x.l.Ab,AV.dat (Ty.int .i64).sl x.l.Bits,AV.dat (Ty.int .i64).sl x.l.At,AV.own (1),AV.dat (Ty.int .i64) x.e])/\True)/\V (l1++l2) () (G0 H' b (H_1 b))) X)
 /\(¬¬x.e=(0:Int)->Wp Y0 Ex Dm (BA,p.1,()) (Cs H_1 b) (λ(b_1:Bool×Unit)io H'=>H' b=none->(¬b_1.1=true->Wp Y0 EK DW (x.m,[p.1],()) (Cs (G0 H' b (H_1 b))
 b) (λ(b_2:Int×Unit)(io_1:Unit)(H'_1:HY)=>H'_1 b=none->{i:=0,b:=b,n:=1,x:=none:WM Y0}={i:=0,b:=b,n:=1,x:=none:WM Y0}/\((if 2=0 then some (C6.tp (Y:=Y0) [AV.dat (Ty.int .i64) p.1,AV.dat Ty.bool p.2])
 else if 0=0 then some (C6.blk (Y:=Y0) [AV.dat Ty.ptr x.m,AV.dat (Ty.u 0).sl x.l.Ab,AV.dat (Ty.int .i64).sl x.l.Bits,AV.dat (Ty.int .i64).sl x.l.At,if 1=4 then AV.dat (Ty.int .i64).sl [p.1] else AV.own (1),AV.dat (Ty.int
 .i64) x.e]) else none)=some (C6.blk (Y:=Y0) [AV.dat Ty.ptr x.m,AV.dat (Ty.u 0).sl x.l.Ab,AV.dat (Ty.int .i64).sl x.l.Bits,AV.dat (Ty.int .i64).sl x.l.At,AV.own (1),AV.dat (Ty.int .i64) x.e])/\True)/\V (l1++l2) () (G0 H'_1 b (G0 H' b (H_1 b) b))) X)/\
 (¬¬b_1.1=true->{i:=0,b:=b,n:=1,x:=none:WM Y0}={i:=0,b:=b,n:=1,x:=none:WM Y0}/\((if 2=0 then some (C6.tp (Y:=Y0) [AV.dat (Ty.int .i64) p.1,AV.dat Ty.bool p.2]) else if 0=0 then some (C6.blk (Y
 :=Y0) [AV.dat Ty.ptr x.m,AV.dat (Ty.u 0).sl x.l.Ab,AV.dat (Ty.int .i64).sl x.l.Bits,AV.dat (Ty.int .i64).sl x.l.At,AV.own (1),AV.dat (Ty.int .i64) x.e]) else none)=some (C6.blk (Y:=Y0) [AV.dat Ty.ptr x.m,AV.dat (Ty.u 0).sl x.l.Ab,AV.dat (Ty.int .i64).sl
 x.l.Bits,AV.dat (Ty.int .i64).sl x.l.At,AV.own (1),AV.dat (Ty.int .i64) x.e])/\True)/\V (l1++l2) () (G0 H' b (H_1 b)))) X)
theorem TA w BA H Q X(h_:MP w BA H Q X):Wp Y0 GS Fj (w,BA,()) H Q X:=wFS Tryz.f43 {lp:=[(2,⟨[],[0,1,10],true⟩)],oc:=[32,23]} h_
def GX(s:List Int)(v:Int)(H:HY)(Q:Bool×Unit->UU)(X:PX):=Wp Y0 C0 DS (s,v,()) H (λ(b:Int×Unit)_ G=>Q (decide (0<=b.1),()) () G) X
theorem Ls s v H Q X(h_:GX s v H Q X):Wp Y0 Ex Dm (s,v,()) H Q X:=wF Tryz.f109 {} h_
def Iu(s:List Int)(v:Int)(H:HY)(Q:Int×Unit->UU)(X:PX):=s.length<=9223372036854775807->∃(V:Nat->Int×Unit->Prop),(∃(n:Nat),H=H/\V n (0,()))/\∀n x,V n x->(x.1<(↑s.length:Int)->Ag .i64 x.1->(Ag .i64 x.1->0<=x.1)/\∃(h:x.1.toNat<s.length),(v=s[x.1.toNat]->Q (x.1,()) () H)/\(¬v=s[x.1.toNat]->Ag .i64 x.1->Ag .i64 (x.1+1)/\∃m,m<n/\H=H/\V m (x.1+1,())))/\(¬x.1<(↑s.length:Int)->Q (-1,()) () H)
theorem Nc s v H Q X(h_:Iu s v H Q X):Wp Y0 C0 DS (s,v,()) H Q X:=wF Tryz.f173 {lp:=[(2,⟨[(8,.one (.dat I6))],[0,1,7],false⟩)]} h_
end
section
variable {H:HY} {X:PX}
theorem Ajc{s:List Int}{v:Int}{Q:Int×Unit->UU}(hs:s.length<=1000000)(h:∀i:Int,(0<=i↔v∈s)->Q (i,()) () H):Wp Y0 C0 DS (s,v,()) H Q X:=by
 apply Nc;unfold Iu;refine λ_=>⟨λn z=>∃k:Nat,z.1=(k:Int)/\k<=s.length/\n=s.length-k/\v∉s.take k,⟨s.length,rfl,0,rfl,Nat.zero_le _,rfl,by simp⟩,?_⟩
 rintro n ⟨i,u⟩ ⟨k,hi0,hk,hn,hv⟩;have hi:i=(k:Int):=hi0;subst hi;clear hi0;have t0:((k:Int)).toNat=k:=by omega
 refine⟨λhlt hin=>?_,λhlt=>?_⟩
 .have hlt:(k:Int)<(s.length:Int):=hlt;have hks:k<s.length:=by omega
  have ge:∀(hh:((k:Int)).toNat<s.length),s[((k:Int)).toNat]=s[k]:=λhh=>by congr 1
  refine⟨λ_=>by show 0<=(k:Int);omega,by show ((k:Int)).toNat<_;omega,λe=>?_,λe _=>?_⟩
  .refine h _ ⟨λ_=>?_,λ_=>by omega⟩;have e:v=s[((k:Int)).toNat]:=e;rw[e];exact List.getElem_mem _
  .have e:¬v=s[((k:Int)).toNat]'(by omega):=e;refine⟨AG.2 (by show _<=(k:Int)+1/\(k:Int)+1<=_;omega),s.length-(k+1),by omega,rfl,k+1,by show (k:Int)+1=_;omega,hks,rfl,?_⟩;rw[List.take_succ_eq_append_getElem hks,List.mem_append,List.mem_singleton];rintro(h1|h1)
   .exact hv h1
   .exact e (h1.trans (ge _).symm)
 .have hlt:¬(k:Int)<(s.length:Int):=hlt;refine h _ ⟨λh=>absurd h (by decide),λhm=>absurd ?_ hv⟩;rw[List.take_of_length_le (by omega)];exact hm
theorem ZK{s:List Int}{v:Int}{Q:Bool×Unit->UU}(hs:s.length<=1000000)(h:Q (decide (v∈s),()) () H):Wp Y0 Ex Dm (s,v,()) H Q X:=by apply Ls;unfold GX;refine Ajc hs λi hi=>?_;have:decide ((0:Int)<=i)=decide (v∈s):=decide_eq_decide.2 hi;show Q (decide ((0:Int)<=i),()) () H;rw[this];exact h
theorem MG.at_{H':HY}{b c:Nat}{M:Mn}(h:MG H b M)(n:GD b M c)(e:∀d,d≠c->H' d=H d):MG H' b M:=by
 refine⟨⟨?_,⟨?_,?_,?_,h.h.st.nd,λv hv=>?_⟩,?_⟩,h.i,h.v,h.e,h.n8,h.rm⟩
 .rw[e _ n.b.symm];exact h.h.ob
 .rw[e _ n.sb.symm];exact h.h.st.st
 .rw[e _ n.bl.symm];exact h.h.st.lv
 .rw[e _ n.bp.symm];exact h.h.st.po
 .rw[e _ λe=>n.tb (by rw[<-e];exact List.getElem_mem hv)];exact h.h.st.ta v hv
 .rw[e _ n.mb.symm];exact h.h.me
structure Ao3(M0 M M':Mn)(lv:List (Int×Bool))(BA:List Int):Prop where
 bs:DN M M'
 nx:M'.nx=M.nx
 A9:∀k,M'.A9 k=if (Ae lv k).isSome=true/\k∉BA then none else M.A9 k
 ln:M'.hs.length=M0.hs.length+(lv.filter λp=>decide (p.1∈BA)).length
theorem TK{wb b:Nat}{M0 M:Mn}{L:Ad}{lv:List (Int×Bool)}{BA:List Int}{Q:Int×Unit->UU}(w:WK H wb b M0 M L lv)(hn:M.nx<576460752303423486)(hk:BA.length<=1000000)(h:∀M' H',MG H' b M'->Ao3 M0 M M' lv BA->SN wb b M H H'->Q (0,()) () H'):Wp Y0 GS Fj (some wb,BA,()) H Q X:=by
 apply TA;unfold MP;let V:List (Int×Bool)->HP:=λleft H'=>∃M',H' wb=H wb/\MG H' b M'/\DN M M'/\M'.nx=M.nx/\(left.map (·.1)).Nodup/\(∀p∈left,p∈lv)/\(∀k,M'.A9 k=if (Ae lv k).isSome=true/\k∉BA/\k∉left.map (·.1) then none else M.A9 k)/\M'.hs.length+(left.filter λp=>decide (p.1∈BA)).length=M0.hs.length+left.length+(lv.filter λp=>decide (p.1∈BA)).length/\SN wb b M H H';have hsome:∀p∈lv,(Ae lv p.1).isSome=true:=λp hp=>by rw[Hr w.nd hp];rfl
 have hmean0:∀k,M.A9 k=if (Ae lv k).isSome=true/\k∉BA/\k∉lv.map (·.1) then none else M.A9 k:=λk=>by rw[if_neg];rintro⟨h1,_,h3⟩;rw[Ii.2 h3]at h1;cases h1
 have hV0:V lv H:=⟨M,rfl,w.mg,⟨rfl,rfl,rfl,rfl,rfl⟩,rfl,w.nd,λ_ h=>h,hmean0,by have:=w.ln;omega,.refl⟩
 refine⟨wb,rfl,_,w.ob,⟨rfl,trivial⟩,λleft _ H'=>V left H',⟨rfl,⟨rfl,trivial⟩,hV0⟩,?_⟩;rintro left u H1 ⟨M',hob,g,bs,nx,nd,sub,A9,ln,fr⟩;have hob1:H1 wb=some (.st BO ({m:=some b,l:=L,live:=lv,e:=0}:Ar)):=hob.trans w.ob;have hset1:Ac H1 wb (.st BO ({m:=some b,l:=L,live:=lv,e:=0}:Ar))=H1:=by
  funext c;unfold Ac;split
  .rename_i e;rw[e,hob1]
  .rfl
 have wn:GD b M' wb:=w.wn.same bs;refine⟨λe=>?_,λl1 p l2 e=>⟨λhe=>absurd rfl he,λ_=>?_⟩⟩
 .subst e;show Q (0,()) () (Ac H1 wb _);rw[hset1];refine h M' H1 g ⟨bs,nx,λk=>?_,by simpa using ln⟩ fr;rw[A9];simp
 .subst e;have hpm:p∈lv:=sub p (by simp);have nd':p.1∉(l1++l2).map (·.1)/\((l1++l2).map (·.1)).Nodup:=by have h1:((p::(l1++l2)).map (·.1)).Nodup:=((List.perm_middle (l₁:=l1) (a:=p) (l₂:=l2)).map λx=>x.1).nodup_iff.1 nd;rw[List.map_cons,List.nodup_cons]at h1;exact h1
  have hkeys:∀k,k∈(l1++p::l2).map (·.1)↔k=p.1∨k∈(l1++l2).map (·.1):=λk=>by
   simp only[List.map_append,List.map_cons,List.mem_append,List.mem_cons];constructor
   .rintro(a|a|a)
    .exact .inr (.inl a)
    .exact .inl a
    .exact .inr (.inr a)
   .rintro(a|a|a)
    .exact .inr (.inl a)
    .exact .inl a
    .exact .inr (.inr a)
  have hfl:((l1++p::l2).filter λp=>decide (p.1∈BA)).length=((l1++l2).filter λp=>decide (p.1∈BA)).length+if p.1∈BA then 1 else 0:=by
   simp only[List.filter_append,List.length_append,List.filter_cons];by_cases hp:p.1∈BA
   .simp [hp];omega
   .simp [hp]
  have hll:(l1++p::l2).length=(l1++l2).length+1:=by simp;omega
  have sub':∀q∈l1++l2,q∈lv:=λq hq=>sub q (by
   rcases List.mem_append.1 hq with a|a
   .exact List.mem_append_left _ a
   .exact List.mem_append_right _ (List.mem_cons_of_mem _ a))
  have res:∀{H':HY}{o:Option (Ob Y0)},G0 H' wb o wb=o:=λ{H' o}=>if_pos rfl;have gd:MG (Cs H1 wb) b M':=g.at_ wn λd hd=>by unfold Cs;rw[if_neg hd]
  refine ZK hk λhd0=>⟨λhc=>?_,λhc=>?_⟩
  .have hnk:p.1∉BA:=λhm=>hc (decide_eq_true hm);have hlv:=w.live (hsome p hpm);obtain⟨g1,g2,g3,F,hF⟩:=hlv;have hF':M'.A9 p.1=some F:=by rw[A9,if_neg λhh=>hh.2.2 ((hkeys p.1).2 (.inl rfl))];exact hF
   have e1:Cs (G0 (Cs H1 wb) wb (H1 wb)) wb=Cs H1 wb:=by
    funext c;by_cases e:c=wb
    .simp [Cs,G0,e]
    .simp [Cs,G0,e]
   rw[e1];refine RY (M:=M') gd (by omega) g3 hF' λM2 H2 e g2' gn f2 hnone=>⟨rfl,⟨rfl,trivial⟩,M2,?_,?_,bs.trans gn.bs,gn.nx.trans nx,nd'.2,sub',λk=>?_,?_,?_⟩
   .show G0 H2 wb (G0 (Cs H1 wb) wb (H1 wb) wb) wb=_;rw[res,res];exact hob
   .exact g2'.at_ (wn.same gn.bs) λd hd=>by unfold G0;rw[if_neg hd]
   .rw[gn.A9,A9];by_cases hkp:k=p.1
    .subst hkp;rw[if_pos rfl,if_pos ⟨hsome p hpm,hnk,nd'.1⟩]
    .rw[if_neg hkp];refine ite_congr (propext ⟨λhh=>⟨hh.1,hh.2.1,λhm=>hh.2.2 ((hkeys k).2 (.inr hm))⟩,λhh=>⟨hh.1,hh.2.1,λhm=>((hkeys k).1 hm).elim hkp hh.2.2⟩⟩) (λ_=>rfl) (λ_=>rfl)
   .have:=gn.ln;rw[if_neg hnk]at hfl;omega
   .refine fr.trans λc a0 a1 a2=>?_;show G0 H2 wb _ c=H1 c;unfold G0;rw[if_neg a1];have:=f2.at (c:=c) (by unfold Cs;rw[if_neg a1];exact a0) (a2.same bs);rw[this];unfold Cs;rw[if_neg a1]
  .have hnk:p.1∈BA:=Classical.byContradiction λhm=>hc λhh=>hm (of_decide_eq_true hh);have e1:G0 (Cs H1 wb) wb (H1 wb)=H1:=by
    funext c;by_cases e:c=wb
    .simp [Cs,G0,e]
    .simp [Cs,G0,e]
   refine⟨rfl,⟨rfl,trivial⟩,M',?_,?_,bs,nx,nd'.2,sub',λk=>?_,?_,?_⟩
   .show G0 (Cs H1 wb) wb (H1 wb) wb=_;rw[e1];exact hob
   .show MG (G0 (Cs H1 wb) wb (H1 wb)) b M';rw[e1];exact g
   .rw[A9];refine ite_congr (propext ⟨λhh=>⟨hh.1,hh.2.1,λhm=>hh.2.2 ((hkeys k).2 (.inr hm))⟩,λhh=>⟨hh.1,hh.2.1,λhm=>((hkeys k).1 hm).elim (λe=>hh.2.1 (e▸hnk)) hh.2.2⟩⟩) (λ_=>rfl) (λ_=>rfl)
   .rw[if_pos hnk]at hfl;omega
   .show SN wb b M H (G0 (Cs H1 wb) wb (H1 wb));rw[e1];exact fr
end
section
variable {L:Ad} {H:HY} {X:PX}
theorem Ln{b:Nat}{M:Mn}{Q:Option Nat×Int×Unit->UU}(hM:MG H b M)(hL:Kc L)(h9:M.S.n<2*DP L->Q (none,9,()) () H)(h0:2*DP L<=M.S.n->∀wb H',H wb=none->WK H' wb b M M L []->(∀c,c≠wb->H' c=H c)->Q (some wb,0,()) () H'):Wp Y0 Hy FP (some b,L,()) H Q X:=by
 apply Xz;unfold Qt;have h1:=hL.sum (Nat.le_refl _);have hln:=hL.ln;have hlb:=hL.lb;refine⟨λhn=>absurd hn (by simp),λ_=>L5 hM.h hM.i (Sv hL λ_=>⟨AG.2 ?_,λhlt=>h9 hlt,λhlt wb hwb=>?_⟩)⟩
 .show _<=2*DP L/\2*DP L<=_;unfold DP;omega
 .have hlt:¬(M.S.n:Int)<2*DP L:=hlt;have hnn:GD b M wb:=hM.h.notM hwb;have none_:∀k,M.nx<=k->M.A9 k=none:=λk hk=>by
   cases e:M.A9 k with
   |none=>rfl
   |some F=>
    obtain⟨x,hx,_⟩:=Mn.Fm e;have:=(hM.i.ok k x hx).2.2;omega
  refine h0 (by omega) wb _ hwb ⟨Ai _ _ _,hM.at_ hnn λd hd=>Af _ _ hd,⟨rfl,rfl,rfl,rfl,rfl⟩,?_,Int.le_refl _,by simp [Pq],by simp,λk _=>⟨rfl,rfl⟩,λk hk=>⟨λhs=>absurd hs (by simp [Ae]),λhs=>absurd (none_ k hk) hs⟩,by simp⟩ λc hc=>Af _ _ hc;obtain⟨x,hx,_⟩:=Mn.Fm hM.i.As9;have:=(hM.i.ok 1 x hx).2.2;omega
theorem NC{v:A7}{Q:Int×Int×Unit->UU}(h:Q (if v.Bool=true then 0 else v.Lo,if v.Bool=true then 1 else v.Hi,()) () H):Wp Y0 G6 Fk (v,()) H Q X:=by
 apply Wy;unfold OX;refine⟨λhb=>?_,λhb=>?_⟩
 .rw[if_pos hb,if_pos hb]at h;exact h
 .rw[if_neg hb,if_neg hb]at h;exact h
def X4(n:Int)(k:Nat):Bool:=decide (C5 BinOp.and .i64 (n.fdiv (2^min ((k:Int)).toNat 64)) (1:Int)=(1:Int))
def Iv(vars:List Int)(n:Int):List B0:=(List.range vars.length).map λ(k:Nat)=>{Var:=vars.getD k 0,Rg:=X4 n k}
theorem Mq(vars:List Int)(n:Int):(Iv vars n).length=vars.length:=by unfold Iv;simp
variable {n:Int}
theorem Mr{vars:List Int}{k:Nat}(h:k<vars.length):(Iv vars n)[k]?=some {Var:=vars[k],Rg:=X4 n k}:=by unfold Iv;rw[List.getElem?_map,List.getElem?_range h];simp [List.getD_eq_getElem?_getD,List.getElem?_eq_getElem h]
theorem Vd{vars:List Int}:(Iv vars n).map (·.Var)=vars:=by
 apply List.ext_getElem?;intro k;rw[List.getElem?_map];by_cases h:k<vars.length
 .rw[Mr h,List.getElem?_eq_getElem h];rfl
 .rw[List.getElem?_eq_none (by rw[Mq];omega),List.getElem?_eq_none (by omega)];rfl
def Co(L:Ad)(i:Nat)(next:Bool):List Int:=if next=true then (Ns L i).map (·+1) else Ns L i
def FF(L:Ad)(i:Nat)(n:Int):Int:=match L.Ab[i]? with
 |some v=>if v.Bool=true then n else n-v.Lo
 |none=>n
variable {i:Nat}
theorem Agm:(Ns L i).Nodup:=by unfold Ns;refine List.Pairwise.map _ ?_ (List.nodup_range (n:=((L.Bits[i]?).getD 0).toNat));intro a c hac h;have h:2*((L.At[i]?).getD 0+(a:Int))=2*((L.At[i]?).getD 0+(c:Int)):=h;omega
theorem Vb(hL:Kc L)(hi:i<L.Ab.length){next:Bool}:(Co L i next).length<=30/\(Co L i next).Nodup/\∀v∈Co L i next,0<=v/\v<2*DP L:=by
 unfold Co;split
 .refine⟨by rw[List.length_map];exact V0 hL hi,List.Pairwise.map _ (λa c hac h=>by have h:a+1=c+1:=h;exact hac (by omega)) (Agm (L:=L) (i:=i)),λv hv=>?_⟩;obtain⟨u,hu,rfl⟩:=List.mem_map.1 hv;have:=Vz hL hi hu;show 0<=u+1/\u+1<_;omega
 .refine⟨V0 hL hi,Agm,λv hv=>?_⟩;have:=Vz hL hi hv;omega
theorem YA{wb b:Nat}{M0 M:Mn}{lv:List (Int×Bool)}{next:Bool}{Q:Int×Unit->UU}(w:WK H wb b M0 M L lv)(hn:M.nx<576460752303423487)(hl:M.hs.length<=60000)(hL:Kc L)(hi:i<L.Ab.length)(hfit:2*DP L<=M.S.n)(hN:Ag .i64 (FF L i n))(h:∀M' lv' H',WK H' wb b M0 M' L lv'->DN M M'->Used M M' lv lv' [] (Et (Iv (Co L i next) (FF L i n)))->SN wb b M H H'->Q (M.nx,()) () H'):Wp Y0 Cl BJ (some wb,(i:Int),n,next,()) H Q X:=by
 apply SD;unfold LG;have t0:((i:Int)).toNat=i:=by omega
 obtain⟨v1,v2,v3⟩:=Vb hL hi (next:=next);have hgo:∀vars:List Int,vars=Co L i next->∀(M_:List Int×Unit->HP),(M_=λx H1=>x.1=vars/\H1=H)->M_ (vars,()) H:=λvars _ M_ hM=>by subst hM;exact⟨rfl,rfl⟩
 refine⟨wb,rfl,_,w.ob,rfl,Ra hL hi ⟨λx H1=>x.1=Co L i next/\H1=H,?_,λhx=>⟨_,w.ob,rfl,TY hL hi ⟨by unfold Co;rw[if_pos hx],rfl⟩⟩,λhx=>⟨by unfold Co;rw[if_neg hx],rfl⟩⟩⟩;rintro⟨vars,u⟩ H1 ⟨hv,rfl⟩;have hv:vars=Co L i next:=hv;subst hv;refine⟨_,w.ob,λ_=>⟨λ_=>by omega,by show ((i:Int)).toNat<L.Ab.length;omega,rfl,λx H2=>x.1=FF L i n/\H2=H1,?_,λhb=>?_,λhb=>?_⟩⟩
 .rintro⟨N,u2⟩ H2 ⟨hNn,rfl⟩;have hNn:N=FF L i n:=hNn;subst hNn;generalize Co L i next=vars at *;generalize FF L i n=N at *;refine λ_ _ _=>⟨by omega,rfl,by show ((vars.length:Int)).toNat*16<=_;omega,λ_=>⟨λm z H3=>m=vars.length-z.2.1/\z.2.1<=vars.length/\H3=H2/\z.1.length=vars.length/\∀j,j<z.2.1->z.1[j]?=(Iv vars N)[j]?,⟨_,rfl,Nat.zero_le _,rfl,by simp,λj hj=>absurd hj (Nat.not_lt_zero _)⟩,?_⟩⟩
  rintro m ⟨s,k,u3⟩ H3 ⟨hm0,hk0,rfl,hs0,hj0⟩;have hm:m=vars.length-k:=hm0;have hk:k<=vars.length:=hk0;have hs:s.length=vars.length:=hs0;have hj:∀j,j<k->s[j]?=(Iv vars N)[j]?:=hj0;clear hm0 hk0 hs0 hj0;refine⟨λhkl _=>?_,λhkl=>?_⟩
  .have hkl:k<vars.length:=hkl;refine⟨hkl,λ_ _=>⟨λ_=>hN,by show (0:Int)<=(k:Int);omega,λ_ _=>⟨by show k<s.length;omega,by show k<s.length;omega,by show k+1<=_;omega,vars.length-(k+1),by omega,rfl,by show k+1<=_;omega,rfl,by show (s.set k _).length=_;rw[List.length_set];exact hs,λj hj2=>?_⟩⟩⟩;have hj2:j<k+1:=hj2;show (s.set k _)[j]?=_;rw[List.getElem?_set];by_cases e:k=j
   .subst e;rw[if_pos rfl,if_pos (by omega),Mr hkl];rfl
   .rw[if_neg e];exact hj j (by omega)
  .have hkl:¬k<vars.length:=hkl;have hk2:k=vars.length:=by omega
   have hs2:s=Iv vars N:=by
    apply List.ext_getElem?;intro j;by_cases e:j<vars.length
    .exact hj j (by omega)
    .rw[List.getElem?_eq_none (by omega),List.getElem?_eq_none (by rw[Mq];omega)]
   refine⟨_,w.ob,rfl,?_⟩;show Wp Y0 HW Gv (some b,s,()) H3 _ X;rw[hs2];refine Ub w.mg hn hl (by rw[Mq];omega) (λt ht=>?_) (by rw[Vd];exact v2) λM' H' g nw f=>Oa w g nw f λlv' H'' w2 bs us fr=>h M' lv' H'' w2 bs us fr;have hm:t.Var∈(Iv vars N).map (·.Var):=List.mem_map_of_mem ht;rw[Vd]at hm;have:=v3 _ hm;omega
 .have hb:¬(L.Ab[((i:Int)).toNat]'(by omega)).Bool=true:=hb;refine⟨_,w.ob,λ_=>⟨λ_=>by omega,by show ((i:Int)).toNat<L.Ab.length;omega,λ_ _=>?_⟩⟩;have e:FF L i n=n-(L.Ab[((i:Int)).toNat]'(by omega)).Lo:=by unfold FF;simp only[t0]at hb ⊢;rw[List.getElem?_eq_getElem hi];simp only;rw[if_neg hb]
  exact⟨by rw[<-e];exact hN,rfl,e.symm,rfl⟩
 .have hb:¬¬(L.Ab[((i:Int)).toNat]'(by omega)).Bool=true:=hb;have e:FF L i n=n:=by unfold FF;simp only[t0]at hb;rw[List.getElem?_eq_getElem hi];simp only;rw[if_pos (Classical.not_not.1 hb)]
  exact⟨e.symm,rfl⟩
end
section
structure Has(Mb M:Mn)(lvb lv:List (Int×Bool))(hs:List (Int×B.Fn)):Prop where
 nb:∀k,Mb.nx<=k->Ae lvb k=none/\Mb.A9 k=none
 nd:(hs.map (·.1)).Nodup
 ge:∀p∈hs,Mb.nx<=p.1/\p.1<M.nx
 get:∀k,Ae lv k=if k∈hs.map (·.1) then some true else Ae lvb k
 A9:∀p∈hs,M.A9 p.1=some p.2
 KR:∀k,k∉hs.map (·.1)->M.A9 k=Mb.A9 k
 len:lv.length=lvb.length+hs.length
 nx:Mb.nx<=M.nx
variable {M:Mn} {lv:List (Int×Bool)}
theorem WK.has{H:HY}{wb b:Nat}{M0:Mn}{L:Ad}(w:WK H wb b M0 M L lv):Has M M lv lv []:=⟨λ_ hk=>w.nl hk,by simp,by simp,by simp,by simp,λ_ _=>rfl,rfl,Int.le_refl _⟩
variable {l:List Int}
theorem Aex{ks:List Int}(hk:ks.Nodup)(hl:l.Nodup)(hs:∀k∈l,k∈ks):(ks.filter λk=>decide (k∉l)).length+l.length=ks.length:=by
 have h1:(ks.filter λk=>decide (k∈l)).Perm l:=by refine(List.perm_ext_iff_of_nodup (hk.filter _) hl).2 λa=>?_;rw[List.mem_filter];exact⟨λh=>of_decide_eq_true h.2,λh=>⟨hs a h,decide_eq_true h⟩⟩
 have h2:=List.length_eq_countP_add_countP (λk=>decide (k∈l)) (l:=ks);rw[List.countP_eq_length_filter,List.countP_eq_length_filter,h1.length_eq]at h2;have h3:(ks.filter λa=>decide ¬(λk=>decide (k∈l)) a=true)=ks.filter λk=>decide (k∉l):=by congr 1;funext a;simp
 rw[h3]at h2;omega
variable {hs:List (Int×B.Fn)}
theorem JZ:(hs.filter λp=>decide (p.1∉l)).map (·.1)=(hs.map (·.1)).filter λk=>decide (k∉l):=by rw[List.filter_map];rfl
variable {Mb:Mn} {lvb:List (Int×Bool)}
theorem Has.use{M':Mn}{lv':List (Int×Bool)}{F:B.Fn}(h:Has Mb M lvb lv hs)(u:Used M M' lv lv' l F)(hl:l.Nodup)(hsub:∀k∈l,k∈hs.map (·.1)):Has Mb M' lvb lv' ((M.nx,F)::hs.filter λp=>decide (p.1∉l)):=by
 have key:∀k,k∈((M.nx,F)::hs.filter λp=>decide (p.1∉l)).map (·.1)↔k=M.nx∨(k∈hs.map (·.1)/\k∉l):=λk=>by rw[List.map_cons,List.mem_cons,JZ,List.mem_filter];simp
 have lt:∀k∈hs.map (·.1),Mb.nx<=k/\k<M.nx:=λk hk=>by obtain⟨p,hp,rfl⟩:=List.mem_map.1 hk;exact h.ge p hp
 have nx:=u.nx;refine⟨h.nb,?_,λp hp=>?_,λk=>?_,λp hp=>?_,λk hk=>?_,?_,by have:=h.nx;omega⟩
 .rw[List.map_cons,List.nodup_cons,JZ];refine⟨λhm=>?_,h.nd.filter _⟩;have:=(lt _ (List.mem_filter.1 hm).1).2;have:M.nx<M.nx:=this;omega
 .rcases List.mem_cons.1 hp with e|e
  .subst e;have:=h.nx;exact⟨this,by show M.nx<_;omega⟩
  .have:=h.ge p (List.mem_filter.1 e).1;omega
 .rw[u.get];by_cases e:k=M.nx
  .rw[if_pos e,if_pos ((key k).2 (.inl e))]
  .rw[if_neg e];by_cases e2:k∈l
   .rw[if_pos e2,if_neg λhm=>((key k).1 hm).elim e λhh=>hh.2 e2];exact((h.nb k (lt k (hsub k e2)).1).1).symm
   .rw[if_neg e2,h.get];by_cases e3:k∈hs.map (·.1)
    .rw[if_pos e3,if_pos ((key k).2 (.inr ⟨e3,e2⟩))]
    .rw[if_neg e3,if_neg λhm=>((key k).1 hm).elim e λhh=>e3 hh.1]
 .rcases List.mem_cons.1 hp with e|e
  .subst e;show M'.A9 M.nx=_;rw[u.A9,if_pos rfl]
  .obtain⟨e1,e2⟩:=List.mem_filter.1 e;have e2:p.1∉l:=of_decide_eq_true e2;have:=(h.ge p e1).2;rw[u.A9,if_neg (by omega),if_neg λhh=>e2 hh.1];exact h.A9 p e1
 .have hk':=λhh=>hk ((key k).2 hh);rw[u.A9,if_neg λe=>hk' (.inl e)];by_cases e2:k∈l
  .have hm:=hsub k e2;rw[if_pos ⟨e2,by rw[h.get,if_pos hm];rfl⟩];exact((h.nb k (lt k hm).1).2).symm
  .rw[if_neg λhh=>e2 hh.1];exact h.KR k λhm=>hk' (.inr ⟨hm,e2⟩)
 .have h1:=u.len hl λk hk=>by rw[h.get,if_pos (hsub k hk)];rfl
  have h2:=Aex h.nd hl hsub;rw[<-JZ,List.length_map,List.length_map]at h2;have h3:=h.len;rw[List.length_cons];omega
theorem Has.perm{hs':List (Int×B.Fn)}(h:Has Mb M lvb lv hs)(p:hs'.Perm hs):Has Mb M lvb lv hs':=by have pk:∀k,k∈hs'.map (·.1)↔k∈hs.map (·.1):=λk=>(p.map _).mem_iff;refine⟨h.nb,((p.map _).nodup_iff).2 h.nd,λq hq=>h.ge q (p.mem_iff.1 hq),λk=>?_,λq hq=>h.A9 q (p.mem_iff.1 hq),λk hk=>h.KR k λhm=>hk ((pk k).2 hm),by rw[p.length_eq];exact h.len,h.nx⟩;rw[h.get];exact ite_congr (propext (pk k).symm) (λ_=>rfl) (λ_=>rfl)
theorem Has.push{M':Mn}{lv':List (Int×Bool)}{F:B.Fn}(h:Has Mb M lvb lv hs)(u:Used M M' lv lv' [] F):Has Mb M' lvb lv' ((M.nx,F)::hs):=by have:=h.use u List.nodup_nil (by simp);have e:(hs.filter λp=>decide (p.1∉([]:List Int)))=hs:=List.filter_eq_self.2 (by simp);rw[e]at this;exact this
theorem Has.two{Mb M M':Mn}{lvb lv lv':List (Int×Bool)}{hs:List (Int×B.Fn)}{a c:Int}{Fa Fc F:B.Fn}(h:Has Mb M lvb lv ((a,Fa)::(c,Fc)::hs))(u:Used M M' lv lv' [a,c] F):Has Mb M' lvb lv' ((M.nx,F)::hs):=by
 have nd:=h.nd;simp only[List.map_cons,List.nodup_cons,List.mem_cons,not_or]at nd;have:=h.use u (by simp [nd.1.1]) (by simp);have e:(((a,Fa)::(c,Fc)::hs).filter λp=>decide (p.1∉[a,c]))=hs:=by
  rw[List.filter_cons_of_neg (by simp),List.filter_cons_of_neg (by simp)];refine List.filter_eq_self.2 λp hp=>decide_eq_true λhm=>?_;have hk:p.1∈hs.map (·.1):=List.mem_map_of_mem hp;rcases List.mem_cons.1 hm with e|e
  .exact nd.1.2 (e▸hk)
  .rw[List.mem_singleton]at e;exact nd.2.1 (e▸hk)
 rw[e]at this;exact this
end
section
structure Wk(Hb H:HY)(wb b:Nat)(M0 Mb M:Mn)(L:Ad)(lvb lv:List (Int×Bool))(hs:List (Int×B.Fn)):Prop where
 w:WK H wb b M0 M L lv
 h:Has Mb M lvb lv hs
 f:SN wb b M0 Hb H
variable {H:HY} {wb b:Nat} {M0 M:Mn} {L:Ad} {lv:List (Int×Bool)}
theorem Wk.of(w:WK H wb b M0 M L lv):Wk H H wb b M0 M M L lv lv []:=⟨w,w.has,.refl⟩
variable {Hb:HY} {Mb:Mn} {lvb:List (Int×Bool)} {hs:List (Int×B.Fn)}
theorem Wk.ln(k:Wk Hb H wb b M0 Mb M L lvb lv hs):M.hs.length=M0.hs.length+lvb.length+hs.length:=by have:=k.w.ln;have:=k.h.len;omega
theorem Wk.step{H':HY}{M':Mn}{lv':List (Int×Bool)}{hs':List (Int×B.Fn)}(k:Wk Hb H wb b M0 Mb M L lvb lv hs)(w:WK H' wb b M0 M' L lv')(h:Has Mb M' lvb lv' hs')(f:SN wb b M H H'):Wk Hb H' wb b M0 Mb M' L lvb lv' hs':=⟨w,h,k.f.trans (f.same k.w.bs)⟩
theorem Wk.perm{hs':List (Int×B.Fn)}(k:Wk Hb H wb b M0 Mb M L lvb lv hs)(p:hs'.Perm hs):Wk Hb H wb b M0 Mb M L lvb lv hs':=⟨k.w,k.h.perm p,k.f⟩
theorem Wk.const{yes:Bool}{X:PX}{Q:Int×Unit->UU}(k:Wk Hb H wb b M0 Mb M L lvb lv hs)(hn:M.nx<576460752303423486)(h:∀M' lv' H',Wk Hb H' wb b M0 Mb M' L lvb lv' ((M.nx,λ_=>yes)::hs)->M'.nx=M.nx+1->Q (M.nx,()) () H'):Wp Y0 Ce BF (some wb,yes,()) H Q X:=SQ k.w hn λM' lv' H' w2 _ u f=>h M' lv' H' (k.step w2 (k.h.push u) f) u.nx
variable {next:Bool}
theorem Wk.Aif{i:Nat}{n:Int}{X:PX}{Q:Int×Unit->UU}(k:Wk Hb H wb b M0 Mb M L lvb lv hs)(hn:M.nx<576460752303423486)(hl:M.hs.length<=60000)(hL:Kc L)(hi:i<L.Ab.length)(hfit:2*DP L<=M.S.n)(hN:Ag .i64 (FF L i n))(h:∀M' lv' H',Wk Hb H' wb b M0 Mb M' L lvb lv' ((M.nx,Et (Iv (Co L i next) (FF L i n)))::hs)->M'.nx=M.nx+1->Q (M.nx,()) () H'):Wp Y0 Cl BJ (some wb,(i:Int),n,next,()) H Q X:=
 YA k.w (by omega) hl hL hi hfit hN λM' lv' H' w2 _ u f=>h M' lv' H' (k.step w2 (k.h.push u) f) u.nx
theorem Wk.two{Hb H:HY}{wb b:Nat}{M0 Mb M:Mn}{L:Ad}{lvb lv:List (Int×Bool)}{hs:List (Int×B.Fn)}{a c:Int}{Fa Fc F:B.Fn}{Li:FT Y0 [.ptr,.sl I6] [.int .i64,.int .i64]}{X:PX}{Q:Int×Unit->UU}(k:Wk Hb H wb b M0 Mb M L lvb lv ((a,Fa)::(c,Fc)::hs))(hn:M.nx<576460752303423486)(hdo:MG H b M->M.A9 a=some Fa->M.A9 c=some Fc->DoS b M H [a,c] F Li)(h:∀M' lv' H',Wk Hb H' wb b M0 Mb M' L lvb lv' ((M.nx,F)::hs)->M'.nx=M.nx+1->Q (M.nx,()) () H'):Wp Y0 Dz CQ (some wb,Li,[a,c],()) H Q X:=by
 have g1:=k.h.ge (a,Fa) (by simp);have g2:=k.h.ge (c,Fc) (by simp);refine Aae k.w (by omega) (by simp) (λj hj=>?_) (hdo k.w.mg (k.h.A9 (a,Fa) (by simp)) (k.h.A9 (c,Fc) (by simp))) λM' lv' H' w2 _ u f=>h M' lv' H' (k.step w2 (k.h.two u) f) u.nx;rcases List.mem_cons.1 hj with e|e
 .rw[e];exact g1.2
 .rw[List.mem_singleton]at e;rw[e];exact g2.2
theorem Atj{a c:Int}{Fa Fc:B.Fn}(hM:MG H b M)(hn:M.nx<576460752303423487)(hl:M.hs.length<=60000)(ha:M.A9 a=some Fa)(hc:M.A9 c=some Fc):DoS b M H [a,c] (Zl Fa Fc) (λ(a:Option Nat×List Int×Unit)(H:HY)(Q:Int×Int×Unit->HP)(X:Nat->Lf Y0.D->HP)=>Wp Y0 OI Mt (a.1,a.2.1,()) H (λ(b:Int×Int×Unit)(x:Unit)(H':HY)=>Q (b.1,b.2.1,()) H') X):=λQ X h=>
 Ait hM hn hl (by simp) (Gs:=[Fa,Fc]) (by simp [ha,hc]) λM' H' g nw f=>h M' H' g (by
  have e:[Fa,Fc].foldl Zl (λ_=>false)=Zl Fa Fc:=by funext x;simp [Zl]
  rw[e]at nw;exact nw) f
theorem Anz{a c:Int}{Fa Fc:B.Fn}(hM:MG H b M)(hn:M.nx<576460752303423487)(hl:M.hs.length<=60000)(ha:M.A9 a=some Fa)(hc:M.A9 c=some Fc):DoS b M H [a,c] (EM Fa Fc) (λ(a:Option Nat×List Int×Unit)(H:HY)(Q:Int×Int×Unit->HP)(X:Nat->Lf Y0.D->HP)=>Wp Y0 De CN (a.1,a.2.1,()) H (λ(b:Int×Int×Unit)(x:Unit)(H':HY)=>Q (b.1,b.2.1,()) H') X):=λQ X h=>
 Vr hM hn hl (by simp) (Gs:=[Fa,Fc]) (by simp [ha,hc]) λM' H' g nw f=>h M' H' g (by
  have e:[Fa,Fc].foldl EM (λ_=>true)=EM Fa Fc:=by funext x;simp [EM]
  rw[e]at nw;exact nw) f
def Eg(v:A7):Int:=if v.Bool=true then 0 else v.Lo
def MD(v:A7):Int:=if v.Bool=true then 1 else v.Hi
structure Ml(L:Ad):Prop extends Kc L where
 fit:∀i(h:i<L.Ab.length)(h':i<L.Bits.length),Eg L.Ab[i]<=MD L.Ab[i]/\MD L.Ab[i]-Eg L.Ab[i]<2^L.Bits[i].toNat/\-1152921504606846976<=Eg L.Ab[i]/\MD L.Ab[i]<=1152921504606846976
def isF(L:Ad)(next:Bool)(i:Nat)(n:Int):B.Fn:=Et (Iv (Co L i next) (FF L i n))
def Alz(l:List B.Fn):B.Fn:=λa=>l.any λF=>F a
def Ac2(l:List B.Fn):B.Fn:=λa=>l.all λF=>F a
theorem Aip{l:List B.Fn}{F:B.Fn}:Zl (Alz l) F=Alz (l++[F]):=by funext a;simp [Zl,Alz]
theorem Afb{l:List B.Fn}{F:B.Fn}:EM (Ac2 l) F=Ac2 (l++[F]):=by funext a;simp [EM,Ac2]
def PT(L:Ad)(next:Bool)(i k:Nat):B.Fn:=Alz ((List.range k).map λ(j:Nat)=>isF L next i ((L.Ab[i]?.map Eg).getD 0+(j:Int)))
def Nu(v:A7):Nat:=(MD v-Eg v+1).toNat
def Ia(L:Ad)(next:Bool)(k:Nat):B.Fn:=Ac2 ((List.range k).map λ(i:Nat)=>PT L next i ((L.Ab[i]?.map Nu).getD 0))
theorem Ad0{i k:Nat}:Zl (PT L next i k) (isF L next i ((L.Ab[i]?.map Eg).getD 0+(k:Int)))=PT L next i (k+1):=by unfold PT;rw[Aip,List.range_succ,List.map_append];rfl
theorem Aju{k:Nat}:EM (Ia L next k) (PT L next k ((L.Ab[k]?.map Nu).getD 0))=Ia L next (k+1):=by unfold Ia;rw[Afb,List.range_succ,List.map_append];rfl
end
section
variable {L:Ad} {i:Nat}
theorem Kc.Axm(h:Kc L)(hi:i<L.Bits.length):0<=L.Bits[i]/\L.Bits[i]<=DP L:=by have h1:=h.b0 i hi;have h2:=h.sum (k:=i) (by omega);have h4:=h.Mp (j:=i+1) (k:=L.Bits.length) (by omega) (Nat.le_refl _);rw[Ez hi]at h4;unfold DP;omega
theorem DN.n{M M':Mn}(h:DN M M'):M'.S.n=M.S.n:=by unfold B4.n;rw[h.tb]
theorem Ml.cnt(h:Ml L)(h8:2*DP L<=8)(hi:i<L.Ab.length):Eg L.Ab[i]<=MD L.Ab[i]/\MD L.Ab[i]-Eg L.Ab[i]<16/\-1152921504606846976<=Eg L.Ab[i]/\MD L.Ab[i]<=1152921504606846976/\(Nu L.Ab[i]:Int)=MD L.Ab[i]-Eg L.Ab[i]+1:=by
 have hib:i<L.Bits.length:=by rw[h.lb];exact hi
 obtain⟨f1,f2,f3,f4⟩:=h.fit i hi hib;have hb:=h.toKc.Axm hib;have h16:(2:Int)^L.Bits[i].toNat<=16:=by
  have:L.Bits[i].toNat=0∨L.Bits[i].toNat=1∨L.Bits[i].toNat=2∨L.Bits[i].toNat=3∨L.Bits[i].toNat=4:=by omega
  rcases this with e|e|e|e|e<;>rw[e]<;>decide
 unfold Nu;omega
theorem Ml.Aif(h:Ml L)(h8:2*DP L<=8)(hi:i<L.Ab.length){n:Int}(h1:Eg L.Ab[i]<=n)(h2:n<=MD L.Ab[i]):Ag .i64 (FF L i n):=by
 have hc:=h.cnt h8 hi;unfold FF;rw[List.getElem?_eq_getElem hi];simp only;split
 .exact AG.2 (by show _<=n/\n<=_;omega)
 .rename_i hb;have e1:Eg L.Ab[i]=L.Ab[i].Lo:=if_neg hb;exact AG.2 (by show _<=n-L.Ab[i].Lo/\n-L.Ab[i].Lo<=_;omega)
theorem LI{wb b:Nat}{M0 M:Mn}{lv:List (Int×Bool)}{next:Bool}{H:HY}{X:PX}{Q:Int×Unit->UU}(w:WK H wb b M0 M L lv)(hn:M.nx<576460752303420000)(hl:M.hs.length<=59900)(hL:Ml L)(hfit:2*DP L<=M.S.n)(h:∀M' lv' H'(r:Int),Wk H H' wb b M0 M M' L lv lv' [(r,Ia L next L.Ab.length)]->M'.nx<=M.nx+3000->Q (r,()) () H'):Wp Y0 Ej Du (some wb,next,()) H Q X:=by
 apply Re;unfold Ll;have h8:2*DP L<=8:=by have:=w.mg.n8;omega
 have hln:=hL.ln;have hwl:=w.ln;have hS:∀{M':Mn},DN M0 M'->M'.S.n=M.S.n:=λe=>e.n.trans w.bs.n.symm;refine(Wk.of w).const (by omega) λM1 lv1 H1 k1 nx1=>?_;refine⟨wb,rfl,_,k1.w.ob,λ_=>⟨rfl,λn z H2=>n=L.Ab.length-z.2.1/\z.2.1<=L.Ab.length/\∃M2 lv2,Wk H H2 wb b M0 M M2 L lv lv2 [(z.1,Ia L next z.2.1)]/\M2.nx<=M.nx+1+40*(z.2.1:Int),⟨_,rfl,Nat.zero_le _,M1,lv1,k1,by show M1.nx<=M.nx+1+40*((0:Nat):Int);omega⟩,?_⟩⟩;rintro n ⟨all,i,u⟩ H2 ⟨hn0,hi0,M2,lv2,k2,nx2⟩;have hn':n=L.Ab.length-i:=hn0;have hi:i<=L.Ab.length:=hi0;have k2:Wk H H2 wb b M0 M M2 L lv lv2 [(all,Ia L next i)]:=k2;have nx2:M2.nx<=M.nx+1+40*(i:Int):=nx2;clear hn0 hi0;refine⟨λhil _=>?_,λhil=>?_⟩
 .have hil:i<L.Ab.length:=hil;obtain⟨c1,c2,c3,c4,c5⟩:=hL.cnt h8 hil;have elo:(L.Ab[i]?.map Eg).getD 0=Eg L.Ab[i]:=by rw[List.getElem?_eq_getElem hil];rfl
  have ecn:(L.Ab[i]?.map Nu).getD 0=Nu L.Ab[i]:=by rw[List.getElem?_eq_getElem hil];rfl
  refine⟨hil,k2.const (by omega) λM3 lv3 H3 k3 nx3=>NC ⟨λn z H4=>∃j:Nat,z.2.1=Eg L.Ab[i]+(j:Int)/\j<=Nu L.Ab[i]/\n=Nu L.Ab[i]-j/\∃M4 lv4,Wk H H4 wb b M0 M M4 L lv lv4 [(z.1,PT L next i j),(all,Ia L next i)]/\M4.nx<=M.nx+2+40*(i:Int)+2*(j:Int),⟨_,0,?_,Nat.zero_le _,rfl,M3,lv3,k3,by omega⟩,?_⟩⟩
  .show Eg L.Ab[i]=Eg L.Ab[i]+((0:Nat):Int);omega
  rintro n1 ⟨so,x,u2⟩ H4 ⟨j,hx0,hj,hn1,M4,lv4,k4,nx4⟩;have hx:x=Eg L.Ab[i]+(j:Int):=hx0;subst hx;have k4:Wk H H4 wb b M0 M M4 L lv lv4 [(so,PT L next i j),(all,Ia L next i)]:=k4;have l4:=k4.ln;simp only[List.length_cons,List.length_nil]at l4;refine⟨λhle=>?_,λhle=>?_⟩
  .have hle:Eg L.Ab[i]+(j:Int)<=MD L.Ab[i]:=hle;refine k4.Aif (by omega) (by omega) hL.toKc hil (by rw[hS k4.w.bs];exact hfit) (hL.Aif h8 hil (by omega) hle) λM5 lv5 H5 k5 nx5=>?_;have l5:=k5.ln;simp only[List.length_cons,List.length_nil]at l5;refine(k5.perm (.swap _ _ _)).two (by omega) (λhM ha hc=>Atj hM (by omega) (by omega) ha hc) λM6 lv6 H6 k6 nx6 _=>⟨AG.2 ?_,Nu L.Ab[i]-(j+1),by omega,j+1,?_,by omega,rfl,M6,lv6,?_,by omega⟩
   .show _<=Eg L.Ab[i]+(j:Int)+1/\Eg L.Ab[i]+(j:Int)+1<=_;omega
   .show Eg L.Ab[i]+(j:Int)+1=Eg L.Ab[i]+((j+1:Nat):Int);omega
   .have e:=Ad0 (L:=L) (next:=next) (i:=i) (k:=j);rw[elo]at e;show Wk H H6 wb b M0 M M6 L lv lv6 [(M5.nx,PT L next i (j+1)),(all,Ia L next i)];rw[<-e];exact k6
  .have hle:¬Eg L.Ab[i]+(j:Int)<=MD L.Ab[i]:=hle;have hjc:j=Nu L.Ab[i]:=by omega
   subst hjc;refine(k4.perm (.swap _ _ _)).two (by omega) (λhM ha hc=>Anz hM (by omega) (by omega) ha hc) λM5 lv5 H5 k5 nx5=>⟨by show i+1<=_;omega,L.Ab.length-(i+1),by omega,rfl,by show i+1<=_;omega,M5,lv5,?_,?_⟩
   .have e:=Aju (L:=L) (next:=next) (k:=i);rw[ecn]at e;show Wk H H5 wb b M0 M M5 L lv lv5 [(M4.nx,Ia L next (i+1))];rw[<-e];exact k5
   .show M5.nx<=M.nx+1+40*((i+1:Nat):Int);omega
 .have hil:¬i<L.Ab.length:=hil;have:i=L.Ab.length:=by omega
  subst this;exact h M2 lv2 H2 all k2 (by omega)
end
structure Got(M M':Mn)(r:Int)(F:B.Fn):Prop where
 bs:DN M M'
 ge:M.nx<=r
 nx:M.nx<=M'.nx
 ln:M'.hs.length=M.hs.length+1
 A9:∀k,M'.A9 k=if k=r then some F else M.A9 k
def FrO(b:Nat)(M:Mn)(H H':HY):Prop:=∀c,H c≠none->GD b M c->H' c=H c
theorem Got.Au9{Hb H:HY}{wb b:Nat}{M Mx M':Mn}{L:Ad}{lv:List (Int×Bool)}{r:Int}{F:B.Fn}(k:Wk Hb H wb b M M Mx L [] lv [(r,F)])(e:Ao3 M Mx M' lv [r]):Got M M' r F:=by
 have g:=k.h.ge (r,F) (by simp);have hln:=k.h.len;have get:∀j,Ae lv j=if j=r then some true else none:=λj=>by rw[k.h.get];simp [Ae]
 refine⟨k.w.bs.trans e.bs,g.1,by rw[e.nx];exact k.h.nx,?_,λj=>?_⟩
 .rw[e.ln];have:lv=[(r,true)]:=by
   match lv,hln,get with
   | [(a,t)],_,get=>
    have h1:=get r
    rw[if_pos rfl]at h1
    unfold Ae at h1
    split at h1
    .rename_i ha
     cases h1;subst ha;rfl
    .simp [Ae]at h1
  rw[this];simp
 .rw[e.A9,get];by_cases hj:j=r
  .subst hj;rw[if_pos rfl,if_pos rfl,if_neg (by simp)];exact k.h.A9 (j,F) (by simp)
  .rw[if_neg hj,if_neg hj,if_neg (by simp)];exact k.h.KR j (by simp [hj])
theorem OY{b:Nat}{M:Mn}{L:Ad}{next:Bool}{H:HY}{X:PX}{Q:Int×Int×Unit->UU}(hM:MG H b M)(hn:M.nx<576460752303420000)(hl:M.hs.length<=59900)(hL:Ml L)(h9:M.S.n<2*DP L->Q (0,9,()) () H)(h0:2*DP L<=M.S.n->∀M' H' r,MG H' b M'->Got M M' r (Ia L next L.Ab.length)->M'.nx<=M.nx+3000->FrO b M H H'->Q (r,0,()) () H'):Wp Y0 J9 Ho (some b,L,next,()) H Q X:=by
 apply X0;unfold Qu;refine Ln hM hL.toKc (λhlt=>⟨λ_=>h9 hlt,λhh=>absurd (show ¬(9:Int)=0 by decide) hh⟩) λhfit wb H1 hwb w f1=>⟨λhh=>absurd rfl hh,λ_=>?_⟩
 refine LI w hn hl hL hfit λM2 lv2 H2 r k2 nx2=>?_;refine TK k2.w (by omega) (by simp) λM3 H3 g3 e3 f3=>?_;refine h0 hfit M3 H3 r g3 (Got.Au9 k2 e3) (by rw[e3.nx];exact nx2) λc hc nc=>?_;have hcw:c≠wb:=λe=>hc (by rw[e];exact hwb);have e1:=f1 c hcw;have e2:=k2.f c (by rw[e1];exact hc) hcw nc;rw[f3 c (by rw[e2,e1];exact hc) hcw (nc.same k2.w.bs),e2,e1]
section
section
variable {κ β:Type} [DecidableEq κ]
theorem Pp{k:κ}{v:β}:∀{m:List (κ×β)},(BL m k v).Perm ((k,v)::Df m k)
 | []=>.refl _
 |p::m=>by
  unfold BL Df;split
  .rename_i e;subst e;exact .refl _
  .exact(List.Perm.cons p Pp).trans (.swap _ _ _)
theorem Ab8{k:κ}{v:β}:∀{m:List (κ×β)},Ae m k=some v->m.Perm ((k,v)::Df m k)
 |p::m,h=>by
  unfold Ae at h;unfold Df;split
  .rename_i e;rw[if_pos e]at h;cases h;subst e;exact .refl _
  .rename_i e;rw[if_neg e]at h;exact(List.Perm.cons p (Ab8 h)).trans (.swap _ _ _)
theorem Tx{k:κ}:∀{m:List (κ×β)},Ae m k=none->Df m k=m
 | [],_=>rfl
 |p::m,h=>by
  unfold Ae at h;unfold Df;split at h
  .cases h
  .rename_i e;rw[if_neg e,Tx h]
end
def Lu(m:List (Int×Int))(G:Int->B.Fn):List (Int×B.Fn):=m.map λp=>(p.2,G p.1)
def Ug(G:Int->B.Fn)(n:Int)(F:B.Fn):Int->B.Fn:=λj=>if j=n then Zl (G n) F else G j
theorem Ab7{m:List (Int×Int)}{G:Int->B.Fn}{n:Int}{F:B.Fn}(h:Pq m):Lu (Df m n) (Ug G n F)=Lu (Df m n) G:=by
 refine List.map_congr_left λp hp=>?_;have hn:p.1≠n:=λe=>by have h1:=Hr (RW h n) hp;rw[Ij h,if_pos e]at h1;cases h1
 show (p.2,Ug G n F p.1)=_;unfold Ug;rw[if_neg hn]
variable {H:HY} {wb b r:Nat} {M0 M:Mn} {L:Ad} {lv:List (Int×Bool)}
theorem WK.Ad3{y:Ob Y0}(w:WK H wb b M0 M L lv)(hr:r≠wb)(n:GD b M r):WK (Ac H r y) wb b M0 M L lv:=
 ⟨by rw[Af _ _ (Ne.symm hr)];exact w.ob,w.mg.at_ n λd hd=>Af _ _ hd,w.bs,w.n0,w.nx,w.nd,w.tr,w.lo,w.hi,w.ln⟩
theorem Wk.Ad3{Hb:HY}{Mb:Mn}{lvb:List (Int×Bool)}{hs:List (Int×B.Fn)}{y:Ob Y0}(k:Wk Hb H wb b M0 Mb M L lvb lv hs)(hr:r≠wb)(n:GD b M0 r)(hb:Hb r=none):Wk Hb (Ac H r y) wb b M0 Mb M L lvb lv hs:=
 ⟨k.w.Ad3 hr (n.same k.w.bs),k.h,λc a0 a1 a2=>by rw[Af _ _ λe=>a0 (by rw[e];exact hb)];exact k.f c a0 a1 a2⟩
theorem Aaf{Hb:HY}{Mb:Mn}{lvb:List (Int×Bool)}{hs:List (Int×B.Fn)}{m:List (Int×Int)}{G:Int->B.Fn}{n h:Int}{F:B.Fn}{X:PX}{Q:Unit->UU}(k:Wk Hb H wb b M0 Mb M L lvb lv ((h,F)::(Lu m G++hs)))(hn:M.nx<576460752303423486)(hl:M.hs.length<=60000)(hr:H r=some (.mp I6 I6 m))(hrw:r≠wb)(hrm:GD b M0 r)(hrb:Hb r=none)(hm:Pq m)(hz:∀j,Ae m j=none->G j=λ_=>false)(post:∀M' lv' H' m',Wk Hb H' wb b M0 Mb M' L lvb lv' (Lu m' (Ug G n F)++hs)->M'.nx<=M.nx+1->H' r=some (.mp I6 I6 m')->Pq m'->(∀j,Ae m' j=none↔(Ae m j=none/\j≠n))->(∀c,H c≠none->c≠r->c≠wb->GD b M0 c->H' c=H c)->Q () () H'):Wp Y0 BI B9 (some wb,some r,n,h,()) H Q X:=by
 apply TB;unfold MQ;have keys:∀v j,Ae (BL m n v) j=none↔(Ae m j=none/\j≠n):=λv j=>by
  rw[C9];by_cases e:j=n
  .rw[if_pos e];simp [e]
  .rw[if_neg e];simp [e]
 refine⟨r,rfl,m,hr,λhs_=>?_,λhs_=>?_⟩
 .have hs_:(Ae m n).isSome=true:=hs_;obtain⟨ho,he⟩:=Option.isSome_iff_exists.1 hs_;rw[he,Option.getD_some];have k1:Wk H H wb b M0 Mb M L lvb lv ((ho,G n)::(h,F)::(Lu (Df m n) G++hs)):=by refine⟨k.w,k.h.perm ?_,.refl⟩;refine(List.Perm.swap _ _ _).trans (List.Perm.cons _ ?_);exact(((Ab8 he).map λp=>(p.2,G p.1)).append_right hs).symm
  refine k1.two hn (λhM ha hc=>Atj hM (by omega) hl ha hc) λM' lv' H' k2 nx2=>?_;have hr2:H' r=some (.mp I6 I6 m):=by rw[k2.f r (by rw[hr];simp) hrw hrm];exact hr
  refine⟨r,rfl,m,hr2,post M' lv' _ (BL m n M.nx) ?_ (by omega) (Ai _ _ _) (J5 hm _ _) (keys _) λc a0 a1 a2 a3=>by rw[Af _ _ a1];exact k2.f c a0 a2 a3⟩;refine Wk.Ad3 (Hb:=Hb) ⟨k2.w,k2.h.perm ?_,k.f.trans k2.f⟩ hrw hrm hrb;have p1:(Lu (BL m n M.nx) (Ug G n F)).Perm ((M.nx,Zl (G n) F)::Lu (Df m n) G):=by
   have p2:=(Pp (k:=n) (v:=M.nx) (m:=m)).map λp=>(p.2,Ug G n F p.1)
   rw[List.map_cons]at p2;have e1:Ug G n F n=Zl (G n) F:=if_pos rfl;have e2:=Ab7 (G:=G) (n:=n) (F:=F) hm;unfold Lu at e2 ⊢;rw[e2]at p2;rw[<-e1];exact p2
  exact p1.append_right hs
 .have hs_:¬(Ae m n).isSome=true:=hs_;have he:Ae m n=none:=by
   cases e:Ae m n with
   |none=>rfl
   |some v=>exact absurd (by rw[e];rfl) hs_
  refine⟨r,rfl,m,hr,post M lv _ (BL m n h) ?_ (by omega) (Ai _ _ _) (J5 hm _ _) (keys _) λc a0 a1 a2 a3=>Af _ _ a1⟩;refine(k.perm ?_).Ad3 hrw hrm hrb;have e0:Zl (G n) F=F:=by rw[hz n he];funext a;simp [Zl]
  have p2:=(Pp (k:=n) (v:=h) (m:=m)).map λp=>(p.2,Ug G n F p.1)
  rw[List.map_cons]at p2;have e1:Ug G n F n=F:=(if_pos rfl).trans e0;have e2:=Ab7 (G:=G) (n:=n) (F:=F) hm;unfold Lu at e2 ⊢;rw[e2,e1,Tx he]at p2;exact p2.append_right hs
end
section
variable {Mb M:Mn} {lvb lv:List (Int×Bool)} {hs1:List (Int×B.Fn)}
theorem Has.trans{Ma:Mn}{lva:List (Int×Bool)}{hs2:List (Int×B.Fn)}(h:Has Ma Mb lva lvb hs1)(k:Has Mb M lvb lv hs2):Has Ma M lva lv (hs2++hs1):=by
 have l1:∀j∈hs1.map (·.1),Ma.nx<=j/\j<Mb.nx:=λj hj=>by obtain⟨p,hp,rfl⟩:=List.mem_map.1 hj;exact h.ge p hp
 have l2:∀j∈hs2.map (·.1),Mb.nx<=j/\j<M.nx:=λj hj=>by obtain⟨p,hp,rfl⟩:=List.mem_map.1 hj;exact k.ge p hp
 have n1:=h.nx;have n2:=k.nx;refine⟨h.nb,?_,λp hp=>?_,λj=>?_,λp hp=>?_,λj hj=>?_,?_,by omega⟩
 .rw[List.map_append,List.nodup_append];exact⟨k.nd,h.nd,λa ha c hc e=>by have:=l1 c hc;have:=l2 a ha;omega⟩
 .rcases List.mem_append.1 hp with e|e
  .have:=k.ge p e;omega
  .have:=h.ge p e;omega
 .rw[k.get,h.get,List.map_append];by_cases e:j∈hs2.map (·.1)
  .rw[if_pos e,if_pos (List.mem_append_left _ e)]
  .rw[if_neg e];by_cases e2:j∈hs1.map (·.1)
   .rw[if_pos e2,if_pos (List.mem_append_right _ e2)]
   .rw[if_neg e2,if_neg λhm=>(List.mem_append.1 hm).elim e e2]
 .rcases List.mem_append.1 hp with e|e
  .exact k.A9 p e
  .rw[k.KR _ λhm=>by have:=(l2 _ hm).1;have:=(h.ge p e).2;omega];exact h.A9 p e
 .rw[List.map_append]at hj;rw[k.KR j λhm=>hj (List.mem_append_left _ hm),h.KR j λhm=>hj (List.mem_append_right _ hm)]
 .rw[k.len,h.len,List.length_append];omega
theorem Wk.trans{Ha Hb H:HY}{wb b:Nat}{M0 Ma:Mn}{L:Ad}{lva:List (Int×Bool)}{hs2:List (Int×B.Fn)}(k:Wk Ha Hb wb b M0 Ma Mb L lva lvb hs1)(k2:Wk Hb H wb b M0 Mb M L lvb lv hs2):Wk Ha H wb b M0 Ma M L lva lv (hs2++hs1):=⟨k2.w,k.h.trans k2.h,k.f.trans k2.f⟩
theorem Wk.drop{Hb H:HY}{wb b:Nat}{M0:Mn}{L:Ad}{hs:List (Int×B.Fn)}{l:List Int}{X:PX}{Q:Unit->UU}(k:Wk Hb H wb b M0 Mb M L lvb lv (hs1++hs))(hn:M.nx<576460752303423486)(hl:l.length<=1000000)(hp:l.Perm (hs1.map (·.1)))(h:∀M' lv' H',Wk Hb H' wb b M0 Mb M' L lvb lv' hs->M'.nx=M.nx->SN wb b M0 H H'->Q () () H'):Wp Y0 Ao Am (some wb,l,()) H Q X:=by
 have nd:=k.h.nd;rw[List.map_append,List.nodup_append]at nd;have hm:∀j,j∈l↔j∈hs1.map (·.1):=λj=>hp.mem_iff;have lt:∀j∈(hs1++hs).map (·.1),Mb.nx<=j/\j<M.nx:=λj hj=>by obtain⟨p,hp,rfl⟩:=List.mem_map.1 hj;exact k.h.ge p hp
 have live:∀j∈l,(Ae lv j).isSome=true:=λj hj=>by rw[k.h.get,if_pos (by rw[List.map_append];exact List.mem_append_left _ ((hm j).1 hj))];rfl
 refine Rs k.w (by omega) hl λM' lv' H' w2 nx2 e1 e2 le0 le1 f=>h M' lv' H' ⟨w2,?_,k.f.trans (f.same k.w.bs)⟩ nx2 (f.same k.w.bs);refine⟨k.h.nb,nd.2.1,λp hp=>?_,λj=>?_,λp hp=>?_,λj hj=>?_,?_,by have:=k.h.nx;omega⟩
 .have:=k.h.ge p (List.mem_append_right _ hp);omega
 .rw[e1,k.h.get,List.map_append];by_cases e:j∈l
  .have hj1:=(hm j).1 e;rw[if_pos e,if_neg λhj2=>nd.2.2 j hj1 j hj2 rfl];exact((k.h.nb j (lt j (by rw[List.map_append];exact List.mem_append_left _ hj1)).1).1).symm
  .rw[if_neg e];by_cases e3:j∈hs.map (·.1)
   .rw[if_pos e3,if_pos (List.mem_append_right _ e3)]
   .rw[if_neg e3,if_neg λhh=>(List.mem_append.1 hh).elim (λa=>e ((hm j).2 a)) e3]
 .have hk:p.1∈hs.map (·.1):=List.mem_map_of_mem hp;rw[e2,if_neg λhh=>nd.2.2 p.1 ((hm _).1 hh.1) p.1 hk rfl];exact k.h.A9 p (List.mem_append_right _ hp)
 .rw[e2];by_cases e:j∈l
  .rw[if_pos ⟨e,live j e⟩];exact((k.h.nb j (lt j (by rw[List.map_append];exact List.mem_append_left _ ((hm j).1 e))).1).2).symm
  .rw[if_neg λhh=>e hh.1];refine k.h.KR j λhh=>?_;rw[List.map_append]at hh;exact(List.mem_append.1 hh).elim (λa=>e ((hm j).2 a)) hj
 .have h1:=le1 ((hp.nodup_iff).2 nd.1) live;have h2:=k.h.len;have h3:=hp.length_eq;rw[List.length_map]at h3;rw[List.length_append]at h2;omega
end
section
variable {H:HY} {b:Nat}
theorem Wk.fresh{Hb:HY}{wb r:Nat}{M0 Mb M:Mn}{L:Ad}{lvb lv:List (Int×Bool)}{hs:List (Int×B.Fn)}{y:Ob Y0}(k:Wk Hb H wb b M0 Mb M L lvb lv hs)(hr:H r=none):Wk Hb (Ac H r y) wb b M0 Mb M L lvb lv hs:=by
 have hrw:r≠wb:=λe=>by rw[e,k.w.ob]at hr;cases hr
 have hnm:GD b M r:=k.w.mg.h.notM hr;refine⟨k.w.Ad3 hrw hnm,k.h,λc a0 a1 a2=>?_⟩;by_cases e:c=r
 .subst e;have:=k.f c a0 a1 a2;rw[hr]at this;exact absurd this.symm a0
 .rw[Af _ _ e];exact k.f c a0 a1 a2
theorem Wk.Axu{Hb:HY}{wb:Nat}{M0 Mb M:Mn}{L:Ad}{lvb lv:List (Int×Bool)}{hs:List (Int×B.Fn)}{p q:Int}{Fa Fc:B.Fn}{X:PX}{R:Int×Unit->UU}(k:Wk Hb H wb b M0 Mb M L lvb lv hs)(hn:M.nx<576460752303423486)(hl:M.hs.length<=60000)(ha:M.A9 p=some Fa)(hc:M.A9 q=some Fc)(h:∀M' lv' H',Wk Hb H' wb b M0 Mb M' L lvb lv' ((M.nx,EM Fa Fc)::hs)->M'.nx=M.nx+1->SN wb b M0 H H'->R (M.nx,()) () H'):Wp Y0 De CN (some b,[p,q],()) H (λ(bb:Int×Int×Unit)_ H'=>Wp Y0 AN AJ (some wb,bb.1,bb.2.1,()) H' R X) X:=by
 refine Vr k.w.mg (by omega) hl (by simp) (Gs:=[Fa,Fc]) (by simp [ha,hc]) λM' H' g nw f=>?_;have e:[Fa,Fc].foldl EM (λ_=>true)=EM Fa Fc:=by funext x;simp [EM]
 rw[e]at nw;exact Oa k.w g nw f λlv' H'' w2 _ u f2=>h M' lv' H'' (k.step w2 (k.h.push u) f2) u.nx (f2.same k.w.bs)
theorem Uc{m:List (Int×Int)}{X:PX}{D:Nat->Nat->Loop->HP}{w:Option Nat}{P:Nat->Nat->Loop->Unit->UU}(hb:H b=some (.mp I6 I6 m))(hm:m.length<=1000000)(h:∀c l r r' x,H l=none->x.Perm (m.map (·.2))->Wp Y0 Ao Am (w,x,()) (Ac H l (Ob.lp r')) (P c l r) X):∀(c:Nat),H c=none->∀(l:Nat)(r:Loop),Ac H c (Ob.st Al []) l=none->Wp Y0 Bi AW (YL l c r,some b,()) (Ac (Ac H c (Ob.st Al [])) l (Ob.lp r)) (λ(b_3 io:Unit)(H':HY)=>(H' l=some (Ob.lp r)/\∀(r':Loop),∃(x:List Int),Ac H' l (Ob.lp r') c=some (Ob.st Al x)/\Wp Y0 Ao Am (w,x,()) (Cs (Ac H' l (Ob.lp r')) c) (P c l r) X)∨D c l r H') X:=by
 intro c hc l r hl;have hlc:l≠c:=λe=>by subst e;simp [Ac]at hl
 have hl':H l=none:=by rw[Ac,if_neg hlc]at hl;exact hl
 refine Adx hb hc hl' hlc hm λx hx=>.inl ⟨by simp [Ac],λr'=>⟨x,by simp [Ac,Ne.symm hlc],?_⟩⟩;have e1:Cs (Ac (Ac (Ac H c (Ob.st Al x)) l (Ob.lp r)) l (Ob.lp r')) c=Ac H l (Ob.lp r'):=by
  funext k;by_cases e:k=c
  .subst e;simp [Ac,Cs,Ne.symm hlc,hc]
  .simp only[Ac,Cs,e,if_false];split<;>rfl
 rw[e1];exact h c l r r' x hl' hx
def X8(L:Ad)(n0:Int)(t:AL)(G:Int->B.Fn)(bd c pk:Nat):Prop:=∀{wb b:Nat}{M0 M:Mn}{lv:List (Int×Bool)}{H:HY}{X:PX}{Q:Option Nat×Unit->UU},WK H wb b M0 M L lv->M.nx+(c:Int)<576460752303420000->M.hs.length+pk<=59900->M.S.n=n0->(∀M' lv' H' r m,Wk H H' wb b M0 M M' L lv lv' (Lu m G)->H r=none->H' r=some (.mp I6 I6 m)->Pq m->(∀j,Ae m j=none->G j=λ_=>false)->m.length<=bd->M'.nx<=M.nx+(c:Int)->Q (some r,()) () H')->Wp Y0 CS Cr (some wb,t,()) H Q X
end
theorem Aio{Hb H:HY}{wb b:Nat}{M0 Mb M:Mn}{L:Ad}{lvb lv:List (Int×Bool)}{hs:List (Int×B.Fn)}{hp hq x y:Int}{Fa Fc:B.Fn}{Li:Int×Int×Int×Unit->HY->(Unit->HP)->PX->Prop}{X:PX}{N:HP}(k:Wk Hb H wb b M0 Mb M L lvb lv hs)(hn:M.nx<576460752303423480)(hl:M.hs.length<=60000)(ha:M.A9 hp=some Fa)(hc:M.A9 hq=some Fc)(hskip:(∀a,EM Fa Fc a=false)->∀M' lv' H',Wk Hb H' wb b M0 Mb M' L lvb lv' hs->M'.nx=M.nx+1->SN wb b M0 H H'->N H')(hdo:(∃a,EM Fa Fc a=true)->∀M' lv' H',Wk Hb H' wb b M0 Mb M' L lvb lv' ((M.nx,EM Fa Fc)::hs)->M'.nx=M.nx+1->SN wb b M0 H H'->Li (x,y,M.nx,()) H' (λ(_:Unit)(H'':HY)=>N H'') X):Wp Y0 De CN (some b,[hp,hq],()) H (λ(b:Int×Int×Unit)_ H'=>Wp Y0 AN AJ (some wb,b.1,b.2.1,()) H' (λ(b:Int×Unit)_ H'=>∃(x_4:Ar),H' wb=some (Ob.st BO x_4)/\x_4=x_4/\Wp Y0 CW CC (x_4.m,b.1,(0:Int),()) H' (λ(b_9:Bool×Int×Unit)_ H'=>(b_9.1=true->Wp Y0 Ao Am (some wb,[b.1],()) H' (λ(_ _:Unit)(H':HY)=>N H') X)/\(¬b_9.1=true->(¬b_9.2.1=(0:Int)->Wp Y0 Ao Am (some wb,[b.1],()) H' (λ(_ _:Unit)(H':HY)=>N H') X)/\(¬¬b_9.2.1=(0:Int)->Li (x,y,b.1,()) H' (λ_ H'=>N H') X))) X) X) X:=by
 refine k.Axu (by omega) hl ha hc λM' lv' H' k1 nx1 f1=>⟨_,k1.w.ob,rfl,?_⟩
 have hm:=k1.h.A9 (M.nx,EM Fa Fc) (by simp);have hm:M'.A9 M.nx=some (EM Fa Fc):=hm;refine Abs k1.w.mg.h k1.w.mg.i (λhh=>?_) λF G hF hG t ht=>?_
 .rcases hh with e|e
  .have e:M'.A9 M.nx=none:=e;rw[hm]at e;cases e
  .rw[k1.w.mg.i.Amt]at e;cases e
 .have hF:M'.A9 M.nx=some F:=hF;rw[hm]at hF;cases hF;rw[k1.w.mg.i.Amt]at hG;cases hG;refine⟨λhtt=>?_,λhtn=>⟨λh0=>absurd rfl h0,λ_=>?_⟩⟩
  .have hz:=ht.1 htt;refine Wk.drop (hs1:=[(M.nx,EM Fa Fc)]) (hs:=hs) k1 (by omega) (by simp) (.refl _) λM2 lv2 H2 k2 nx2 f2=>?_;exact hskip (λa=>congrFun hz a) M2 lv2 H2 k2 (by omega) (f1.trans f2)
  .have htn:¬t=true:=htn;refine hdo (Classical.byContradiction λhne=>htn (ht.2 (funext λa=>?_))) M' lv' H' k1 nx1 f1;cases e:EM Fa Fc a with
   |false=>rfl
   |true=>exact absurd ⟨a,e⟩ hne
theorem UC{m:List (Int×Int)}{G:Int->B.Fn}{j:Int}{h:Int}(e:Ae m j=some h):(h,G j)∈Lu m G:=List.mem_map.2 ⟨(j,h),I9 e,rfl⟩
theorem Pk{m:List (Int×Int)}(hm:Pq m){j:Int}(hj:j∈Bd m):∃h,Ae m j=some h/\(Ae m j).getD 0=h:=by
 have h1:=(HC m).mem_iff.1 hj;cases e:Ae m j with
 |none=>exact absurd h1 (Ii.1 e)
 |some h=>exact⟨h,rfl,rfl⟩
structure PrS(Hb H:HY)(wb b:Nat)(M0 Mb M:Mn)(L:Ad)(lvb lv:List (Int×Bool))(hsU ctx:List (Int×B.Fn))(Ga Gc:Int->B.Fn)(mp mq:List (Int×Int))(rp rq:Nat)(U:List (Int×Int)->HY->List (Int×B.Fn)->Prop)(ds:List (Int×Int)):Prop where
 k:Wk Hb H wb b M0 Mb M L lvb lv (hsU++(Lu mq Gc++(Lu mp Ga++ctx)))
 u:U ds H hsU
 p:H rp=some (.mp I6 I6 mp)
 q:H rq=some (.mp I6 I6 mq)
structure DoU(Hb:HY)(wb b:Nat)(M0 Mb:Mn)(L:Ad)(lvb:List (Int×Bool))(Ga Gc:Int->B.Fn)(U:List (Int×Int)->HY->List (Int×B.Fn)->Prop)(ub bu cu:Nat)(Li:Int×Int×Int×Unit->HY->(Unit->HP)->PX->Prop):Prop where
 le:∀ds H hs,U ds H hs->hs.length<=bu
 st:∀ds H H' hs,U ds H hs->SN wb b M0 H H'->U ds H' hs
 skip:∀ds H hs x y,U ds H hs->(∀a,EM (Ga x) (Gc y) a=false)->U (ds++[(x,y)]) H hs
 Li:∀(ds:List (Int×Int))(H:HY)(hs:List (Int×B.Fn))(M:Mn)(lv:List (Int×Bool))(x y h:Int)(ctx:List (Int×B.Fn))(N:HP)(X:PX),U ds H hs->(∃a,EM (Ga x) (Gc y) a=true)->Wk Hb H wb b M0 Mb M L lvb lv ((h,EM (Ga x) (Gc y))::(hs++ctx))->M.nx+(cu:Int)<576460752303423470->M.hs.length<=59990->
  (∀M' lv' H' hs',Wk Hb H' wb b M0 Mb M' L lvb lv' (hs'++ctx)->U (ds++[(x,y)]) H' hs'->M'.nx<=M.nx+(cu:Int)->(∀c,H c≠none->c≠ub->c≠wb->GD b M0 c->H' c=H c)->N H')->Li (x,y,h,()) H (λ_ H'=>N H') X
theorem Aqe{Hb H:HY}{wb b rp rq ub bu cu:Nat}{M0 Mb M:Mn}{L:Ad}{lvb lv:List (Int×Bool)}{hsU ctx:List (Int×B.Fn)}{Ga Gc:Int->B.Fn}{mp mq:List (Int×Int)}{U:List (Int×Int)->HY->List (Int×B.Fn)->Prop}{ds:List (Int×Int)}{x y:Int}{Li:Int×Int×Int×Unit->HY->(Unit->HP)->PX->Prop}{X:PX}{N:HP}(s:PrS Hb H wb b M0 Mb M L lvb lv hsU ctx Ga Gc mp mq rp rq U ds)(d:DoU Hb wb b M0 Mb L lvb Ga Gc U ub bu cu Li)(hn:M.nx+(cu:Int)<576460752303423460)(hl:M.hs.length<=59900)(hx:(Ae mp x).isSome=true)(hy:(Ae mq y).isSome=true)(hrp:rp≠ub/\rp≠wb/\GD b M0 rp)(hrq:rq≠ub/\rq≠wb/\GD b M0 rq)(h:∀M' lv' H' hsU',PrS Hb H' wb b M0 Mb M' L lvb lv' hsU' ctx Ga Gc mp mq rp rq U (ds++[(x,y)])->M'.nx<=M.nx+(cu:Int)+1->N H'):Wp Y0 De CN (some b,[(Ae mp x).getD (0:Int),(Ae mq y).getD (0:Int)],()) H (λ(b:Int×Int×Unit)_ H'=>Wp Y0 AN AJ (some wb,b.1,b.2.1,()) H' (λ(b:Int×Unit)_ H'=>∃(x_4:Ar),H' wb=some (Ob.st BO x_4)/\x_4=x_4/\Wp Y0 CW CC (x_4.m,b.1,(0:Int),()) H' (λ(b_9:Bool×Int×Unit)_ H'=>(b_9.1=true->Wp Y0 Ao Am (some wb,[b.1],()) H' (λ(_ _:Unit)(H':HY)=>N H') X)/\(¬b_9.1=true->(¬b_9.2.1=(0:Int)->Wp Y0 Ao Am (some wb,[b.1],()) H' (λ(_ _:Unit)(H':HY)=>N H') X)/\(¬¬b_9.2.1=(0:Int)->Li (x,y,b.1,()) H' (λ_ H'=>N H') X))) X) X) X:=by
 obtain⟨hp,ep⟩:=Option.isSome_iff_exists.1 hx;obtain⟨hq,eq⟩:=Option.isSome_iff_exists.1 hy;rw[ep,eq,Option.getD_some,Option.getD_some];have ma:=s.k.h.A9 (hp,Ga x) (List.mem_append_right _ (List.mem_append_right _ (List.mem_append_left _ (UC ep))));have mc:=s.k.h.A9 (hq,Gc y) (List.mem_append_right _ (List.mem_append_left _ (UC eq)));have hp1:H rp≠none:=by rw[s.p];simp
 have hq1:H rq≠none:=by rw[s.q];simp
 refine Aio s.k (by omega) (by omega) ma mc (λhz M' lv' H' k' nx' f'=>?_) λhe M' lv' H' k' nx' f'=>?_
 .exact h M' lv' H' hsU ⟨k',d.skip _ _ _ _ _ (d.st _ _ _ _ s.u f') hz,by rw[f' rp hp1 hrp.2.1 hrp.2.2];exact s.p,by rw[f' rq hq1 hrq.2.1 hrq.2.2];exact s.q⟩ (by omega)
 .have e1:H' rp=some (.mp I6 I6 mp):=by rw[f' rp hp1 hrp.2.1 hrp.2.2];exact s.p
  have e2:H' rq=some (.mp I6 I6 mq):=by rw[f' rq hq1 hrq.2.1 hrq.2.2];exact s.q
  have l1:=s.k.ln;have l2:=k'.ln;rw[List.length_cons]at l2;refine d.Li ds H' hsU M' lv' x y M.nx _ N X (d.st _ _ _ _ s.u f') he k' (by omega) (by omega) λM2 lv2 H2 hs2 k2 u2 nx2 f2=>?_;exact h M2 lv2 H2 hs2 ⟨k2,u2,by rw[f2 rp (by rw[e1];simp) hrp.1 hrp.2.1 hrp.2.2];exact e1,by rw[f2 rq (by rw[e2];simp) hrq.1 hrq.2.1 hrq.2.2];exact e2⟩ (by omega)
theorem PrS.fresh{Hb H:HY}{wb b rp rq ub bu cu l:Nat}{M0 Mb M:Mn}{L:Ad}{lvb lv:List (Int×Bool)}{hsU ctx:List (Int×B.Fn)}{Ga Gc:Int->B.Fn}{mp mq:List (Int×Int)}{U:List (Int×Int)->HY->List (Int×B.Fn)->Prop}{ds:List (Int×Int)}{y:Ob Y0}{Li:Int×Int×Int×Unit->HY->(Unit->HP)->PX->Prop}(s:PrS Hb H wb b M0 Mb M L lvb lv hsU ctx Ga Gc mp mq rp rq U ds)(d:DoU Hb wb b M0 Mb L lvb Ga Gc U ub bu cu Li)(hl:H l=none):PrS Hb (Ac H l y) wb b M0 Mb M L lvb lv hsU ctx Ga Gc mp mq rp rq U ds:=by have ne:∀{c},H c≠none->c≠l:=λh e=>h (by rw[e];exact hl);exact⟨s.k.fresh hl,d.st _ _ _ _ s.u λc a0 _ _=>Af _ _ (ne a0),by rw[Af _ _ (ne (by rw[s.p];simp))];exact s.p,by rw[Af _ _ (ne (by rw[s.q];simp))];exact s.q⟩
theorem WQ{Hb H:HY}{wb b ub bu cu W Z:Nat}{M0 Mb M:Mn}{L:Ad}{lvb lv:List (Int×Bool)}{hsU ctx:List (Int×B.Fn)}{ta tb:AL}{Ga Gc:Int->B.Fn}{bda ca pka bdc cc pkc:Nat}{n0:Int}{U:List (Int×Int)->HY->List (Int×B.Fn)->Prop}{Li:Int×Int×Int×Unit->HY->(Unit->HP)->PX->Prop}{X:PX}{Q:Unit->UU}(k:Wk Hb H wb b M0 Mb M L lvb lv (hsU++ctx))(u:U [] H hsU)(d:DoU Hb wb b M0 Mb L lvb Ga Gc U ub bu cu Li)(na:X8 L n0 ta Ga bda ca pka)(nc:X8 L n0 tb Gc bdc cc pkc)(hS:M.S.n=n0)(hub:H ub≠none)(hubw:ub≠wb)(hubm:GD b M0 ub)(hb1:bda<=100000)(hb2:bdc<=100000)(hW:W=bdc*(cu+1))(hZ:Z=bda*W)(hn:M.nx+(ca:Int)+(cc:Int)+(Z:Int)+(cu:Int)<576460752303419000)(hl1:M.hs.length+pka<=59900)(hl2:M.hs.length+bda+pkc<=59900)(hl3:M0.hs.length+lvb.length+ctx.length+bu+bda+bdc<=59900)(post:∀M' lv' H' hsU' ds,Wk Hb H' wb b M0 Mb M' L lvb lv' (hsU'++ctx)->U ds H' hsU'->(∀x y a,Ga x a=true->Gc y a=true->(x,y)∈ds)->M'.nx<=M.nx+(ca:Int)+(cc:Int)+(Z:Int)->Q () () H'):Wp Y0 HX F9 (some wb,ta,tb,Li,()) H Q X:=by
 apply Rf;unfold Lm;have wln:=k.w.ln;refine na k.w (by omega) hl1 hS λM1 lv1 H1 rp mp k1 hrp0 hrp1 mndp zp lp nx1=>?_;have k1l:=k1.ln;have lhp:(Lu mp Ga).length=mp.length:=List.length_map _;refine nc k1.w (by omega) (by omega) (k1.w.bs.n.trans (k.w.bs.n.symm.trans hS)) λM2 lv2 H2 rq mq k2 hrq0 hrq1 mndq zq lq nx2=>?_;have lhq:(Lu mq Gc).length=mq.length:=List.length_map _;have hrpw:rp≠wb:=λe=>by rw[e,k.w.ob]at hrp0;cases hrp0
 have hrqw:rq≠wb:=λe=>by rw[e,k1.w.ob]at hrq0;cases hrq0
 have hrpm:GD b M0 rp:=(k.w.mg.h.notM hrp0).back k.w.bs;have hrqm:GD b M0 rq:=(k1.w.mg.h.notM hrq0).back k1.w.bs;have hrpu:rp≠ub:=λe=>hub (e▸hrp0);have hrqu:rq≠ub:=λe=>by have:=k1.f ub hub hubw hubm;rw[<-this,<-e]at hub;exact hub hrq0
 have e1:H2 rp=some (.mp I6 I6 mp):=by rw[k2.f rp (by rw[hrp1];simp) hrpw hrpm];exact hrp1
 have S0:PrS Hb H2 wb b M0 Mb M2 L lvb lv2 hsU ctx Ga Gc mp mq rp rq U []:=by refine⟨((k.trans k1).trans k2).perm ?_,d.st _ _ _ _ u (k1.f.trans k2.f),e1,hrq1⟩;refine(List.perm_append_comm_assoc hsU (Lu mq Gc) _).trans (List.Perm.append_left _ ?_);exact List.perm_append_comm_assoc hsU (Lu mp Ga) ctx
 have hkp:=Tc mp;have hkq:=Tc mq;have bound:∀{M':Mn}{H':HY}{lv' hs' ds},PrS Hb H' wb b M0 Mb M' L lvb lv' hs' ctx Ga Gc mp mq rp rq U ds->M'.hs.length<=59900:=λ{M' H' lv' hs' ds}s=>by have h1:=s.k.ln;have h2:=d.le _ _ _ s.u;simp only[List.length_append]at h1;omega
 refine LO (b:=rp) e1 (by omega) λc l r r' hl=>?_;have S1:=S0.fresh (y:=.lp r') d hl;generalize Ac H2 l (Ob.lp r')=H3 at S1;refine λ_=>⟨λn z H'=>n=mp.length-z.2.1/\z.2.1<=mp.length/\z.1=Bd mp/\∃M' lv' hs' ds,PrS Hb H' wb b M0 Mb M' L lvb lv' hs' ctx Ga Gc mp mq rp rq U ds/\(∀x∈(Bd mp).take z.2.1,∀y∈Bd mq,(x,y)∈ds)/\M'.nx+((n*W:Nat):Int)<=M.nx+(ca:Int)+(cc:Int)+(Z:Int),⟨_,rfl,Nat.zero_le _,rfl,M2,lv2,hsU,[],S1,by simp,?_⟩,?_⟩
 .have:mp.length*W<=Z:=by rw[hZ];exact Nat.mul_le_mul_right _ lp
  show M2.nx+(((mp.length-0)*W:Nat):Int)<=_;rw[Nat.sub_zero];omega
 rintro n ⟨kp,i,_⟩ H4 ⟨hn0,hi0,hkp0,M4,lv4,hs4,ds4,S4,cov4,nx4⟩;have hn1:n=mp.length-i:=hn0;have hi:i<=mp.length:=hi0;have hkp1:kp=Bd mp:=hkp0;subst hkp1;replace cov4:∀x∈(Bd mp).take i,∀y∈Bd mq,(x,y)∈ds4:=cov4;clear hn0 hi0 hkp0;refine⟨λhil _=>?_,λhil=>?_⟩
 .have hil:i<(Bd mp).length:=hil;refine⟨hil,hil,LO (b:=rq) S4.q (by omega) λc2 l2 r2 r2' hl2'=>?_⟩;have S5:=S4.fresh (y:=.lp r2') d hl2';generalize Ac H4 l2 (Ob.lp r2')=H5 at S5;obtain⟨n',hn'⟩:∃n',n=n'+1:=⟨n-1,by omega⟩
  have hsplit:n*W=n'*W+W:=by rw[hn',Nat.succ_mul]
  have hxs:∀(hh:i<(Bd mp).length),(Ae mp ((Bd mp)[i]'hh)).isSome=true:=λhh=>by obtain⟨h,e,_⟩:=Pk mndp (List.getElem_mem hh);rw[e];rfl
  refine λ_=>⟨λn1 z H'=>n1=mq.length-z.2.2.1/\z.2.2.1<=mq.length/\z.1=Bd mp/\z.2.1=Bd mq/\∃M' lv' hs' ds,PrS Hb H' wb b M0 Mb M' L lvb lv' hs' ctx Ga Gc mp mq rp rq U ds/\(∀x∈(Bd mp).take i,∀y∈Bd mq,(x,y)∈ds)/\(∀y∈(Bd mq).take z.2.2.1,((Bd mp)[i],y)∈ds)/\M'.nx+((n1*(cu+1):Nat):Int)+((n'*W:Nat):Int)<=M.nx+(ca:Int)+(cc:Int)+(Z:Int),⟨_,rfl,Nat.zero_le _,rfl,rfl,M4,lv4,hs4,ds4,S5,cov4,by simp,?_⟩,?_⟩
  .have:mq.length*(cu+1)<=W:=by rw[hW];exact Nat.mul_le_mul_right _ lq
   show M4.nx+(((mq.length-0)*(cu+1):Nat):Int)+_<=_;rw[Nat.sub_zero];omega
  rintro n1 ⟨kp2,kq,j,_⟩ H6 ⟨hn60,hj0,hkp0,hkq0,M6,lv6,hs6,ds6,S6,cov6,cov6',nx6⟩;have hn6:n1=mq.length-j:=hn60;have hj:j<=mq.length:=hj0;have hkp2:kp2=Bd mp:=hkp0;have hkq2:kq=Bd mq:=hkq0;subst hkp2 hkq2;replace cov6':∀y∈(Bd mq).take j,((Bd mp)[i],y)∈ds6:=cov6';clear hn60 hj0 hkp0 hkq0;refine⟨λhjl _=>?_,λhjl=>?_⟩
  .have hjl:j<(Bd mq).length:=hjl;have hys:(Ae mq ((Bd mq)[j]'hjl)).isSome=true:=by obtain⟨h,e,_⟩:=Pk mndq (List.getElem_mem hjl);rw[e];rfl
   obtain⟨n2,hn2⟩:∃n2,n1=n2+1:=⟨n1-1,by omega⟩
   have hsp2:n1*(cu+1)=n2*(cu+1)+(cu+1):=by rw[hn2,Nat.succ_mul]
   have b6:=bound S6;have cov:∀x∈(Bd mp).take i,∀y∈Bd mq,(x,y)∈ds6++[((Bd mp)[i],(Bd mq)[j])]:=λx hx y hy=>List.mem_append_left _ (cov6 x hx y hy);have cov':∀y∈(Bd mq).take (j+1),((Bd mp)[i],y)∈ds6++[((Bd mp)[i],(Bd mq)[j])]:=λy hy=>by
    rw[List.take_succ_eq_append_getElem hjl,List.mem_append,List.mem_singleton]at hy;rcases hy with e|e
    .exact List.mem_append_left _ (cov6' y e)
    .rw[e];simp
   refine⟨hjl,hjl,wb,rfl,⟨_,S6.k.w.ob,⟨rfl,rp,rfl,mp,S6.p,rq,rfl,mq,S6.q,?_⟩,rfl,rq,rfl,mq,S6.q,rp,rfl,mp,S6.p,?_⟩,⟨rp,rfl,mp,S6.p,⟨_,S6.k.w.ob,rfl,rq,rfl,mq,S6.q,?_⟩,rq,rfl,mq,S6.q,Wh ⟨_,S6.k.w.ob,rfl,?_⟩⟩,rq,rfl,mq,S6.q,⟨_,S6.k.w.ob,rfl,rp,rfl,mp,S6.p,?_⟩,rp,rfl,mp,S6.p,Wh ⟨_,S6.k.w.ob,rfl,?_⟩⟩;all_goals exact Aqe S6 d (by omega) b6 (hxs hil) hys ⟨hrpu,hrpw,hrpm⟩ ⟨hrqu,hrqw,hrqm⟩ λM7 lv7 H7 hs7 S7 nx7=>⟨by show j+1<=_;omega,n2,by omega,by show n2=mq.length-(j+1);omega,by show j+1<=_;omega,rfl,rfl,M7,lv7,hs7,_,S7,cov,cov',by omega⟩
  .have hjl:¬j<(Bd mq).length:=hjl;have cov:∀x∈(Bd mp).take (i+1),∀y∈Bd mq,(x,y)∈ds6:=λx hx y hy=>by
    rw[List.take_succ_eq_append_getElem hil,List.mem_append,List.mem_singleton]at hx;rcases hx with e|e
    .exact cov6 x e y hy
    .rw[e];exact cov6' y (by rw[List.take_of_length_le (by omega)];exact hy)
   exact⟨by show i+1<=_;omega,n',by omega,by show n'=mp.length-(i+1);omega,by show i+1<=_;omega,rfl,M6,lv6,hs6,ds6,S6,cov,by omega⟩
 .have hil:¬i<(Bd mp).length:=hil;have hfst:∀{m:List (Int×Int)}{G:Int->B.Fn},(Lu m G).map (·.1)=m.map (·.2):=λ{m G}=>by unfold Lu;rw[List.map_map];rfl
  refine Uc (b:=rp) S4.p (by omega) λc5 l5 r5 r5' x5 hl5 hx5=>?_;have S5:=S4.fresh (y:=.lp r5') d hl5;generalize Ac H4 l5 (Ob.lp r5')=H5 at S5;have lx5:=hx5.length_eq;rw[List.length_map]at lx5;have kk:Wk Hb H5 wb b M0 Mb M4 L lvb lv4 (Lu mp Ga++(Lu mq Gc++(hs4++ctx))):=by refine S5.k.perm ?_;refine List.Perm.trans ?_ (List.perm_append_comm_assoc (Lu mq Gc) hs4 _);refine(List.perm_append_comm_assoc (Lu mp Ga) (Lu mq Gc) _).trans (List.Perm.append_left _ ?_);exact List.perm_append_comm_assoc (Lu mp Ga) hs4 ctx
  refine Wk.drop kk (by omega) (by omega) (by rw[hfst];exact hx5) λM7 lv7 H7 k7 nx7 f7=>?_;have q7:H7 rq=some (.mp I6 I6 mq):=by rw[f7 rq (by rw[S5.q];simp) hrqw hrqm];exact S5.q
  refine Uc (b:=rq) q7 (by omega) λc8 l8 r8 r8' x8 hl8 hx8=>?_;have lx8:=hx8.length_eq;rw[List.length_map]at lx8;have k8:=k7.fresh (y:=.lp r8') hl8;have u8:U ds4 (Ac H7 l8 (Ob.lp r8')) hs4:=d.st _ _ _ _ (d.st _ _ _ _ S5.u f7) λc a0 _ _=>Af _ _ λe=>a0 (by rw[e];exact hl8);generalize Ac H7 l8 (Ob.lp r8')=H8 at k8 u8;refine Wk.drop k8 (by omega) (by omega) (by rw[hfst];exact hx8) λM9 lv9 H9 k9 nx9 f9=>?_;refine post M9 lv9 H9 hs4 ds4 k9 (d.st _ _ _ _ u8 f9) (λx y a hxa hya=>?_) (by omega);refine cov4 x ?_ y ?_
  .rw[List.take_of_length_le (by omega)];refine(HC mp).mem_iff.2 (Classical.byContradiction λhne=>?_);rw[zp x (Ii.2 hne)]at hxa;cases hxa
  .refine(HC mq).mem_iff.2 (Classical.byContradiction λhne=>?_);rw[zq y (Ii.2 hne)]at hya;cases hya
section
set_option maxRecDepth 100000
set_option maxHeartbeats 2000000
def IM(x y h:Int)(p3:AL)(p4 p5:Option Nat)(H:HY)(Q:Unit->UU)(X:PX):=(p3.Op=14->Ag .i64 x->Ag .i64 y->Ag .i64 (x+y)/\∃(b:Nat),p5=some b/\∃(x1:Option Nat),H b=some (Ob.st Aq x1)/\x1=x1/\Wp Y0 BI B9 (p4,x1,x+y,h,()) H (λ(b io:Unit)(G:HY)=>Q () () G) X)/\(¬p3.Op=14->(p3.Op=15->Ag .i64 x->Ag .i64 y->Ag .i64 (x-y)/\∃(b:Nat),p5=some b/\∃(x1:Option Nat),H b=some (Ob.st Aq x1)/\x1=x1/\Wp Y0 BI B9 (p4,x1,x-y,h,()) H (λ(b io:Unit)(G:HY)=>Q () () G) X)/\(¬p3.Op=15->(p3.Op=16->Ag .i64 x->Ag .i64 y->Ag .i64 (x*y)/\∃(b:Nat),p5=some b/\∃(x1:Option Nat),H b=some (Ob.st Aq x1)/\x1=x1/\Wp Y0 BI B9 (p4,x1,x*y,h,()) H (λ(b io:Unit)(G:HY)=>Q () () G) X)/\(¬p3.Op=16->(p3.Op=17->Ag .i64 x->Ag .i64 y->¬y=0/\Ag .i64 (x.tmod y)/\(Ag .i64 (x.tmod y)->Ag .i64 y->Ag .i64 (x.tmod y+y)/\(Ag .i64 (x.tmod y+y)->Ag .i64 y->¬y=0/\Ag .i64 ((x.tmod y+y).tmod y)/\∃(b:Nat),p5=some b/\∃(x1:Option Nat),H b=some (Ob.st Aq x1)/\x1=x1/\Wp Y0 BI B9 (p4,x1,(x.tmod y+y).tmod y,h,()) H (λ(b io:Unit)(G:HY)=>Q () () G) X)))/\(¬p3.Op=17->∃(b:Nat),p5=some b/\∃(x1:Option Nat),H b=some (Ob.st Aq x1)/\x1=x1/\Wp Y0 BI B9 (p4,x1,x,h,()) H (λ(b io:Unit)(G:HY)=>Q () () G) X))))
theorem Nv x y h p3 p4 p5 H Q X(h_:IM x y h p3 p4 p5 H Q X):Wp Y0 DV CZ (x,y,h,p3,p4,p5,()) H Q X:=wF Tryz.f136 {} h_
end
section
def gV(V:B.As->Option Int):Int->B.Fn:=λn a=>decide (V a=some n)
variable {n:Int} {a:B.As}
theorem Lb{V:B.As->Option Int}:gV V n a=true↔V a=some n:=decide_eq_true_iff
theorem Agz{V:B.As->Option Int}(h:∀a,V a≠some n):gV V n=λ_=>false:=by funext a;exact decide_eq_false (h a)
theorem W3{N k:Nat}(hN:N<1073741824)(hk:k<60):X4 (N:Int) k=decide (N/2^k%2=1):=by
 unfold X4;have e0:min ((k:Int)).toNat 64=k:=by omega
 have e1:((N:Int)).fdiv (2^k)=((N/2^k:Nat):Int):=by rw[show ((2:Int)^k)=((2^k:Nat):Int) by norm_cast];exact(Int.ofNat_fdiv N (2^k)).symm
 rw[e0,e1];have hq:N/2^k<1073741824:=Nat.lt_of_le_of_lt (Nat.div_le_self _ _) hN;generalize N/2^k=q at hq;have e2:C5 .and .i64 (q:Int) 1=((q%2:Nat):Int):=by
  have e3:(BitVec.ofInt 64 (q:Int)&&&BitVec.ofInt 64 1).toNat=q%2:=by
   rw[BitVec.toNat_and,BitVec.toNat_ofInt,BitVec.toNat_ofInt];have e4:((1:Int)%((2^64:Nat):Int)).toNat=1:=by decide
   have e5:((2^64:Nat):Int)=18446744073709551616:=by decide
   rw[e4,e5,Nat.and_one_is_mod];omega
  show IntKind.i64.wrap ((BitVec.ofInt 64 (q:Int)&&&BitVec.ofInt 64 1).toNat:Int)=_;rw[e3];exact E3 (AG.2 (by omega))
 rw[e2];congr 1;apply propext;omega
def BB(a:B.As):List Int->Nat
 | []=>0
 |v::l=>(if a v=true then 1 else 0)+2*BB a l
theorem HZ{v:Int}{l:List Int}:BB a (v::l)=(if a v=true then 1 else 0)+2*BB a l:=rfl
theorem SB{a:B.As}:∀{l:List Int},BB a l<2^l.length
 | []=>Nat.one_pos
 |v::l=>by have:=SB (a:=a) (l:=l);rw[List.length_cons,Nat.pow_succ,HZ];split<;>omega
theorem P0{a:B.As}:∀{l:List Int}{k:Nat}(h:k<l.length),(a l[k]=true↔BB a l/2^k%2=1)
 |v::l,0,_=>by
  show a v=true↔BB a (v::l)/2^0%2=1;rw[Nat.pow_zero,Nat.div_one,HZ];by_cases e:a v=true
  .rw[if_pos e];simp only[e,true_iff];omega
  .rw[if_neg e];exact⟨λh=>absurd h e,λh=>by omega⟩
 |v::l,k+1,h=>by
  have hk:k<l.length:=by simpa using h
  have h1:=P0 (a:=a) (l:=l) (k:=k) hk;show a (l[k]'hk)=true↔_;rw[h1];have e:BB a (v::l)/2^(k+1)=BB a l/2^k:=by rw[Nat.pow_succ,Nat.mul_comm,<-Nat.div_div_eq_div_mul,HZ];congr 1;split<;>omega
  rw[e]
theorem Ahp:∀{n x y:Nat},x<2^n->y<2^n->(∀k,k<n->(x/2^k%2=1↔y/2^k%2=1))->x=y
 |0,x,y,hx,hy,_=>by simp at hx hy;omega
 |n+1,x,y,hx,hy,h=>by
  rw[Nat.pow_succ]at hx hy;have h0:=h 0 (by omega);rw[Nat.pow_zero,Nat.div_one,Nat.div_one]at h0;have:=Ahp (n:=n) (x:=x/2) (y:=y/2) (by omega) (by omega) λk hk=>by have:=h (k+1) (by omega);rw[Nat.pow_succ,Nat.mul_comm,<-Nat.div_div_eq_div_mul,<-Nat.div_div_eq_div_mul]at this;exact this
  omega
theorem Yt{vars:List Int}{N:Int}(hl:vars.length<=30)(h0:0<=N)(h1:N<2^vars.length):Et (Iv vars N) a=true↔(BB a vars:Int)=N:=by
 obtain⟨m,rfl⟩:=Int.eq_ofNat_of_zero_le h0;have hm:m<2^vars.length:=by have h1:(m:Int)<2^vars.length:=h1;rw[show ((2:Int)^vars.length)=((2^vars.length:Nat):Int) by norm_cast]at h1;exact Int.ofNat_lt.1 h1
 have hp:2^vars.length<=2^30:=Nat.pow_le_pow_right (by omega) hl;have hm30:m<1073741824:=by
  have:(2:Nat)^30=1073741824:=by decide
  omega
 have get:Et (Iv vars (m:Int)) a=true↔∀k(h:k<vars.length),(a vars[k]=true↔m/2^k%2=1):=by
  rw[GV];refine⟨λh k hk=>?_,λh t ht=>?_⟩
  .have e:=Mr (n:=(m:Int)) hk;have:=h _ (List.mem_of_getElem? e);have this:a vars[k]=X4 (m:Int) k:=this;rw[this,W3 hm30 (by omega),decide_eq_true_iff]
  .obtain⟨k,hk,rfl⟩:=List.mem_iff_getElem.1 ht;have hk':k<vars.length:=by rw[Mq]at hk;exact hk
   have e:=Mr (n:=(m:Int)) hk';rw[List.getElem?_eq_getElem hk]at e;rw[Option.some.inj e];show a vars[k]=X4 (m:Int) k;rw[W3 hm30 (by omega),Bool.eq_iff_iff,decide_eq_true_iff];exact h k hk'
 rw[get];refine⟨λh=>?_,λh k hk=>?_⟩
 .have:=Ahp (SB (a:=a) (l:=vars)) hm λk hk=>(P0 hk).symm.trans (h k hk);exact congrArg _ this
 .have h:BB a vars=m:=Int.ofNat_inj.1 h;rw[<-h];exact P0 hk
def VK(l:List A7)(name:ByteArray):Nat:=l.findIdx λv=>decide (v.Name=name)
variable {L:Ad} {i:Nat}
theorem ZB{name:ByteArray}{H:HY}{X:PX}{Q:Int×Unit->UU}(hL:Kc L)(he:VK L.Ab name=i)(hi:i<L.Ab.length)(h:Q ((i:Int),()) () H):Wp Y0 FB Ef (L,name,()) H Q X:=by
 subst he;apply Rc;unfold Lh;have hln:=hL.ln;refine λ_=>⟨λn z=>∃j:Nat,z.1=(j:Int)/\n=L.Ab.length-j/\j<=VK L.Ab name,⟨_,rfl,0,rfl,rfl,Nat.zero_le _⟩,?_⟩
 rintro n ⟨x,_⟩ ⟨j,hx0,hn,hj⟩;have hx:x=(j:Int):=hx0;subst hx;have t0:((j:Int)).toNat=j:=by omega
 refine⟨λ_ _=>⟨λ_=>by show (0:Int)<=(j:Int);omega,by show ((j:Int)).toNat<_;omega,λhe=>?_,λhe _=>⟨AG.2 (by show _<=(j:Int)+1/\(j:Int)+1<=_;omega),L.Ab.length-(j+1),by omega,rfl,j+1,by show (j:Int)+1=((j+1:Nat):Int);omega,rfl,?_⟩⟩,λhlt=>absurd (show (j:Int)<_ by omega) hlt⟩
 .have he:(L.Ab[((j:Int)).toNat]'(by omega)).Name=name:=he;simp only[t0]at he;have:¬j<VK L.Ab name:=λhlt=>by have:=List.not_of_lt_findIdx hlt;rw[decide_eq_true he]at this;cases this
  have e:j=VK L.Ab name:=by omega
  rw[<-e]at h;exact h
 .have he:¬(L.Ab[((j:Int)).toNat]'(by omega)).Name=name:=he;simp only[t0]at he;have:j≠VK L.Ab name:=λe=>by have h2:=List.findIdx_getElem (xs:=L.Ab) (p:=λv:A7=>decide (v.Name=name)) (w:=hi);have h2:=of_decide_eq_true h2;subst e;exact he h2
  omega
def Kq(L:Ad)(next:Bool)(i:Nat)(a:B.As):Option Int:=match L.Ab[i]? with
 |some v=>if Eg v+(BB a (Co L i next):Int)<=MD v then some (Eg v+(BB a (Co L i next):Int)) else none
 |none=>none
theorem Ic{next:Bool}(hi:i<L.Bits.length):(Co L i next).length=L.Bits[i].toNat:=by unfold Co Ns;rw[List.getElem?_eq_getElem hi];split<;>simp
theorem MC(hL:Ml L){next:Bool}(hi:i<L.Ab.length):Kq L next i a=some n↔(Eg L.Ab[i]<=n/\n<=MD L.Ab[i])/\isF L next i n a=true:=by
 have hib:i<L.Bits.length:=by rw[hL.lb];exact hi
 obtain⟨f1,f2,f3,f4⟩:=hL.fit i hi hib;have hN:FF L i n=n-Eg L.Ab[i]:=by unfold FF Eg;rw[List.getElem?_eq_getElem hi];show (if _ then _ else _)=_;split<;>simp
 have v1:=Ic (next:=next) hib;have v2:=(Vb hL.toKc hi (next:=next)).1;unfold Kq isF;rw[List.getElem?_eq_getElem hi,hN];show (if _ then _ else _)=_↔_;constructor
 .intro h;split at h
  .rename_i hle;have h:=Option.some.inj h;have h0:0<=n-Eg L.Ab[i]:=by omega
   refine⟨by omega,(Yt v2 h0 ?_).2 (by omega)⟩;rw[v1];omega
  .cases h
 .rintro⟨⟨h1,h2⟩,h3⟩;have:=(Yt v2 (by omega) (by rw[v1];omega)).1 h3;rw[if_pos (by omega)];congr 1;omega
theorem Tq{H:HY}{wb b r c:Nat}{M0 M:Mn}{lv:List (Int×Bool)}{y z:Ob Y0}(w:WK H wb b M0 M L lv)(hr:H r=none)(hc:Ac H r y c=none):Wk H (Ac (Ac H r y) c z) wb b M0 M M L lv lv []/\Ac (Ac H r y) c z r=some y/\Ac (Ac H r y) c z c=some z/\r≠wb/\c≠wb/\r≠c/\GD b M0 r/\GD b M0 c/\H c=none:=by
 have hrc:r≠c:=λe=>by subst e;rw[Ai]at hc;cases hc
 have hc':H c=none:=by rw[Af _ _ (Ne.symm hrc)]at hc;exact hc
 have hrw:r≠wb:=λe=>by rw[e,w.ob]at hr;cases hr
 have hcw:c≠wb:=λe=>by rw[e,w.ob]at hc';cases hc'
 refine⟨((Wk.of w).fresh hr).fresh hc,?_,Ai _ _ _,hrw,hcw,hrc,(w.mg.h.notM hr).back w.bs,(w.mg.h.notM hc').back w.bs,hc'⟩;rw[Af _ _ hrc,Ai]
theorem Zp{n0:Int}{t:AL}(ht:t.Op=1):X8 L n0 t (gV λ_=>some t.N) 1 1 1:=by
 intro wb b M0 M lv H X Q w hn hl hS post;apply GA;unfold EF;intro r hr c hc;obtain⟨k0,e1,e2,d1,d2,d3,n1,n2,hcn⟩:=Tq (z:=.st Aq (some r)) w hr hc;generalize Ac (Ac H r (.mp I6 I6 [])) c (.st Aq (some r))=H2 at k0 e1 e2;refine⟨λ_=>?_,λh=>absurd ht h⟩;have fin:∀{M1:Mn}{lv1 H1},Wk H2 H1 wb b M0 M M1 L lv lv1 [(M.nx,λ_=>true)]->M1.nx=M.nx+1->H1 r=some (.mp I6 I6 [])/\H1 c=some (.st Aq (some r))/\Q (some r,()) () (Ac H1 r (.mp I6 I6 (BL [] t.N M.nx))):=λ{M1 lv1 H1}k1 nx1=>by
  refine⟨by rw[k1.f r (by rw[e1];simp) d1 n1];exact e1,by rw[k1.f c (by rw[e2];simp) d2 n2];exact e2,?_⟩;refine post M1 lv1 _ r [(t.N,M.nx)] ((k0.trans k1).perm ?_ |>.Ad3 d1 n1 hr) hr (Ai _ _ _) (J5 (m:=[]) (by simp [Pq]) _ _) (λj hj=>Agz λa e=>?_) (Nat.le_refl _) (by omega)
  .have:gV (λ_=>some t.N) t.N=λ_=>true:=by funext a;exact decide_eq_true rfl
   show [(M.nx,gV (λ_=>some t.N) t.N)].Perm _;rw[this];exact .refl _
  .have e:=Option.some.inj e;subst e;simp [Ae]at hj
 refine⟨⟨some r,e2,rfl,(Wk.of k0.w).const (by omega) λM1 lv1 H1 k1 nx1=>?_⟩,(Wk.of k0.w).const (by omega) λM1 lv1 H1 k1 nx1=>?_⟩
 .obtain⟨a1,a2,a3⟩:=fin k1 nx1;exact⟨r,rfl,[],a1,some r,by rw[Af _ _ (Ne.symm d3)];exact a2,rfl,a3⟩
 .obtain⟨a1,a2,a3⟩:=fin k1 nx1;exact⟨some r,a2,rfl,r,rfl,[],a1,some r,by rw[Af _ _ (Ne.symm d3)];exact a2,rfl,a3⟩
end
theorem Ara{m:List (Int×Int)}{G:Int->B.Fn}{n h:Int}(hn:Ae m n=none):(Lu (BL m n h) G).Perm ((h,G n)::Lu m G):=by
 have p:=(Pp (k:=n) (v:=h) (m:=m)).map λp=>(p.2,G p.1)
 rw[Tx hn]at p;exact p
theorem Abi{L:Ad}{n0:Int}{t:AL}(hL:Ml L)(hfit:2*DP L<=n0)(ht:t.Op=3∨t.Op=4)(hi:VK L.Ab t.Name<L.Ab.length):X8 L n0 t (gV (Kq L (decide (t.Op=4)) (VK L.Ab t.Name))) 16 20 20:=by
 intro wb b M0 M lv H X Q w hn hl hS post;apply GA;unfold EF;intro r hr c hc;obtain⟨k0,e1,e2,d1,d2,d3,n1,n2,hcn⟩:=Tq (z:=.st Aq (some r)) w hr hc;generalize Ac (Ac H r (.mp I6 I6 [])) c (.st Aq (some r))=H2 at k0 e1 e2;obtain⟨nx,hnx⟩:∃nx,decide (t.Op=(4:Int))=nx:=⟨_,rfl⟩
 obtain⟨i,hidx⟩:∃i,VK L.Ab t.Name=i:=⟨_,rfl⟩
 rw[hnx,hidx]at post;rw[hidx]at hi;have h8:2*DP L<=8:=by have:=w.mg.n8;omega
 obtain⟨c1,c2,c3,c4,c5⟩:=hL.cnt h8 hi;have hwl:=w.ln;have hln:=hL.ln;have t0:((i:Int)).toNat=i:=by omega
 refine⟨λh=>by omega,λ_=>⟨λh3=>?_,λh3=>⟨λh4=>?_,λh4=>by omega⟩⟩⟩;all_goals
  refine⟨wb,rfl,_,k0.w.ob,rfl,ZB hL.toKc hidx hi ⟨wb,rfl,_,k0.w.ob,λ_=>⟨λ_=>by show (0:Int)<=(i:Int);omega,by show ((i:Int)).toNat<L.Ab.length;omega,rfl,NC ⟨λn z H4=>∃j:Nat,z.1=Eg L.Ab[i]+(j:Int)/\j<=Nu L.Ab[i]/\n=Nu L.Ab[i]-j/\∃M4 lv4 m,Wk H H4 wb b M0 M M4 L lv lv4 (Lu m (isF L nx i))/\H4 r=some (.mp I6 I6 m)/\H4 c=some (.st Aq (some r))/\Pq m/\(∀x,Ae m x=none↔¬(Eg L.Ab[i]<=x/\x<Eg L.Ab[i]+(j:Int)))/\m.length=j/\M4.nx<=M.nx+(j:Int),⟨_,0,?_,Nat.zero_le _,rfl,M,lv,[],k0,e1,e2,by simp [Pq],λx=>⟨λ_=>by omega,λ_=>rfl⟩,rfl,by simp⟩,?_⟩⟩⟩⟩
  .show Eg L.Ab[i]=Eg L.Ab[i]+((0:Nat):Int);omega
  rintro n ⟨x,u⟩ H4 ⟨j,hx0,hj,hn1,M4,lv4,m,k4,hr4,hc4,nd4,key4,Ai8,nx4⟩
  have hx:x=Eg L.Ab[i]+(j:Int):=hx0
  subst hx
  have l4:=k4.ln
  have lm:(Lu m (isF L nx i)).length=j:=by unfold Lu;rw[List.length_map];exact Ai8
  rw[lm]at l4
  refine⟨λhle=>?_,λhle=>?_⟩
  .have hle:Eg L.Ab[i]+(j:Int)<=MD L.Ab[i]:=hle
   have hno:Ae m (Eg L.Ab[i]+(j:Int))=none:=(key4 _).2 (by omega)
   have fin:∀{M5:Mn}{lv5 H5},Wk H4 H5 wb b M0 M4 M5 L lv4 lv5 [(M4.nx,isF L nx i (Eg L.Ab[i]+(j:Int)))]->M5.nx=M4.nx+1->H5 r=some (.mp I6 I6 m)/\H5 c=some (.st Aq (some r))/\∃k<n,∃j2:Nat,Eg L.Ab[i]+(j:Int)+1=Eg L.Ab[i]+(j2:Int)/\j2<=Nu L.Ab[i]/\k=Nu L.Ab[i]-j2/\∃M6 lv6 m6,Wk H (Ac H5 r (.mp I6 I6 (BL m (Eg L.Ab[i]+(j:Int)) M4.nx))) wb b M0 M M6 L lv lv6 (Lu m6 (isF L nx i))/\Ac H5 r (.mp I6 I6 (BL m (Eg L.Ab[i]+(j:Int)) M4.nx)) r=some (.mp I6 I6 m6)/\Ac H5 r (.mp I6 I6 (BL m (Eg L.Ab[i]+(j:Int)) M4.nx)) c=some (.st Aq (some r))/\Pq m6/\(∀x,Ae m6 x=none↔¬(Eg L.Ab[i]<=x/\x<Eg L.Ab[i]+(j2:Int)))/\m6.length=j2/\M6.nx<=M.nx+(j2:Int):=λ{M5 lv5 H5}k5 nx5=>by
    have a2:H5 c=some (.st Aq (some r)):=by rw[k5.f c (by rw[hc4];simp) d2 n2];exact hc4
    refine⟨by rw[k5.f r (by rw[hr4];simp) d1 n1];exact hr4,a2,Nu L.Ab[i]-(j+1),by omega,j+1,by omega,by omega,rfl,M5,lv5,_,((k4.trans k5).perm (Ara hno)).Ad3 d1 n1 hr,Ai _ _ _,by rw[Af _ _ (Ne.symm d3)];exact a2,J5 nd4 _ _,λx=>?_,by rw[KZ hno,Ai8],by omega⟩;rw[C9];by_cases ex:x=Eg L.Ab[i]+(j:Int)
    .rw[if_pos ex];simp;omega
    .rw[if_neg ex,key4];omega
   have ik:Ag .i64 (Eg L.Ab[i]+(j:Int)+1):=AG.2 (by omega)
   refine⟨⟨some r,hc4,rfl,?_⟩,?_⟩
   all_goals
    show Wp Y0 Cl BJ (some wb,(i:Int),Eg L.Ab[i]+(j:Int),decide (t.Op=(4:Int)),()) H4 _ X
    rw[hnx]
    refine(Wk.of k4.w).Aif (by omega) (by omega) hL.toKc hi (by rw[k4.w.bs.n,<-w.bs.n,hS];exact hfit) (hL.Aif h8 hi (by omega) hle) λM5 lv5 H5 k5 nx5=>?_
    obtain⟨a1,a2,a3⟩:=fin k5 nx5
   .exact⟨r,rfl,m,a1,λ_=>⟨ik,a3⟩⟩
   .exact⟨some r,a2,rfl,r,rfl,m,a1,λ_=>⟨ik,a3⟩⟩
  .have hle:¬Eg L.Ab[i]+(j:Int)<=MD L.Ab[i]:=hle
   have hjc:j=Nu L.Ab[i]:=by omega
   subst hjc
   refine⟨some r,hc4,rfl,post M4 lv4 H4 r m ?_ hr hr4 nd4 (λy hy=>Agz λa e=>?_) (by omega) (by omega)⟩
   .have e:Lu m (gV (Kq L nx i))=Lu m (isF L nx i):=by
     refine List.map_congr_left λp hp=>?_;have hk:=Classical.not_not.1 λh=>absurd ((key4 p.1).2 h) (by rw[Hr nd4 hp];simp);have:gV (Kq L nx i) p.1=isF L nx i p.1:=by funext a;rw[Bool.eq_iff_iff,Lb,MC hL hi];exact⟨λh=>h.2,λh=>⟨by omega,h⟩⟩
     rw[this]
    rw[e];exact k4
   .have:=((MC hL hi).1 e).1
    have:=(key4 y).1 hy
    omega
section
def VD(n:Int)(V:B.As->Option Int):Prop:=∀a b:B.As,(∀v,0<=v->v<n->a v=b v)->V a=V b
def VB(V:B.As->Option Int):Prop:=∀a n,V a=some n->-2000000<=n/\n<=2000000
def as8(k:Nat):B.As:=λv=>decide (k/2^v.toNat%2=1)
theorem Axp(a:B.As):∃k,k<256/\∀v:Int,0<=v->v<8->a v=as8 k v:=by
 refine⟨BB a [0,1,2,3,4,5,6,7],SB (l:=[0,1,2,3,4,5,6,7]),λv h0 h1=>?_⟩;obtain⟨m,rfl⟩:=Int.eq_ofNat_of_zero_le h0;have hm:m<8:=by omega
 have h:=P0 (a:=a) (l:=[0,1,2,3,4,5,6,7]) (k:=m) hm;have e:([0,1,2,3,4,5,6,7]:List Int)[m]'hm=(m:Int):=by
  have:m=0∨m=1∨m=2∨m=3∨m=4∨m=5∨m=6∨m=7:=by omega
  rcases this with rfl|rfl|rfl|rfl|rfl|rfl|rfl|rfl<;>rfl
 rw[e]at h;show a (m:Int)=decide (BB a [0,1,2,3,4,5,6,7]/2^(m:Int).toNat%2=1);rw[Bool.eq_iff_iff,decide_eq_true_iff];exact h
theorem Akr{V:B.As->Option Int}(hV:VD 8 V){l:List Int}(hl:l.Nodup)(h:∀n∈l,∃a,V a=some n):l.length<=256:=by
 have h1:=Ih (m:=(List.range 256).filterMap λk=>V (as8 k)) hl λn hn=>by obtain⟨a,ha⟩:=h n hn;obtain⟨k,hk,e⟩:=Axp a;exact List.mem_filterMap.2 ⟨k,List.mem_range.2 hk,by rw[<-hV a _ e];exact ha⟩
 have h2:=List.length_filterMap_le (λk=>V (as8 k)) (List.range 256);rw[List.length_range]at h2;omega
def opV(f:Int->Int->Int)(Va Vc:B.As->Option Int):B.As->Option Int:=λa=>(Va a).bind λx=>(Vc a).map (f x)
variable {f:Int->Int->Int} {Va Vc:B.As->Option Int} {a:B.As} {n:Int}
theorem Age:opV f Va Vc a=some n↔∃x y,Va a=some x/\Vc a=some y/\f x y=n:=by unfold opV;rw[Option.bind_eq_some_iff];simp only[Option.map_eq_some_iff];exact⟨λ⟨x,h1,y,h2,h3⟩=>⟨x,y,h1,h2,h3⟩,λ⟨x,y,h1,h2,h3⟩=>⟨x,h1,y,h2,h3⟩⟩
theorem Aqg(h1:VD n Va)(h2:VD n Vc):VD n (opV f Va Vc):=λa b e=>by unfold opV;rw[h1 a b e,h2 a b e]
def dsF(f:Int->Int->Int)(Va Vc:B.As->Option Int)(ds:List (Int×Int)):Int->B.Fn:=λn a=>ds.any λp=>decide (f p.1 p.2=n)&&(gV Va p.1 a&&gV Vc p.2 a)
variable {ds:List (Int×Int)}
theorem Ahc:dsF f Va Vc ds n a=true↔∃x y,(x,y)∈ds/\f x y=n/\Va a=some x/\Vc a=some y:=by unfold dsF;rw[List.any_eq_true];simp only[Bool.and_eq_true,decide_eq_true_iff,Lb];exact⟨λ⟨p,h1,h2⟩=>⟨p.1,p.2,h1,h2⟩,λ⟨x,y,h1,h2⟩=>⟨(x,y),h1,h2⟩⟩
theorem Acm{x y:Int}:Ug (dsF f Va Vc ds) (f x y) (EM (gV Va x) (gV Vc y))=dsF f Va Vc (ds++[(x,y)]):=by
 funext n a;unfold Ug;by_cases h:n=f x y
 .subst h;rw[if_pos rfl];simp [Zl,EM,dsF]
 .have h':¬f x y=n:=λe=>h e.symm;rw[if_neg h];simp [dsF,h']
theorem Acn{x y:Int}(h:∀a,EM (gV Va x) (gV Vc y) a=false):dsF f Va Vc (ds++[(x,y)])=dsF f Va Vc ds:=by funext n a;have:=h a;unfold EM at this;simp [dsF,this]
theorem Ahb(h:dsF f Va Vc ds n a=true):opV f Va Vc a=some n:=by obtain⟨x,y,_,h2,h3,h4⟩:=Ahc.1 h;exact Age.2 ⟨x,y,h3,h4,h2⟩
theorem Ahd(h:∀x y a,gV Va x a=true->gV Vc y a=true->(x,y)∈ds):dsF f Va Vc ds=gV (opV f Va Vc):=by funext n a;rw[Bool.eq_iff_iff,Lb];refine⟨Ahb,λe=>?_⟩;obtain⟨x,y,h1,h2,h3⟩:=Age.1 e;exact Ahc.2 ⟨x,y,h x y a (Lb.2 h1) (Lb.2 h2),h3,h1,h2⟩
structure OpU(r c:Nat)(f:Int->Int->Int)(Va Vc:B.As->Option Int)(ds:List (Int×Int))(H:HY)(hs:List (Int×B.Fn))(m:List (Int×Int)):Prop where
 hs:hs=Lu m (dsF f Va Vc ds)
 c:H c=some (.st Aq (some r))
 r:H r=some (.mp I6 I6 m)
 nd:Pq m
 k:∀n,Ae m n=none↔∀a,dsF f Va Vc ds n a=false
theorem OpU.le{r c:Nat}{H:HY}{hs:List (Int×B.Fn)}{m:List (Int×Int)}(u:OpU r c f Va Vc ds H hs m)(h1:VD 8 Va)(h2:VD 8 Vc):m.length<=256:=by
 have:=Akr (Aqg (f:=f) h1 h2) (l:=m.map λ(p:Int×Int)=>p.1) u.nd λn hn=>by have hne:¬∀a,dsF f Va Vc ds n a=false:=λh=>Ii.1 ((u.k n).2 h) hn;obtain⟨a,ha⟩:=Classical.not_forall.1 hne;exact⟨a,Ahb (ds:=ds) (by cases e:dsF f Va Vc ds n a with|false=>exact absurd e ha|true=>rfl)⟩
 rw[List.length_map]at this;exact this
end
end Go.Proofs.YtcbkbpjlbmalmaaGreatDoor
