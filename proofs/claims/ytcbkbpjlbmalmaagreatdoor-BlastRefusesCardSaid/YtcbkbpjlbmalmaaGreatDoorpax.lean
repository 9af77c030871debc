/-
  slices.Sort at ints. (Merged by program out of 4 texts.)
-/
import Derived.Test.YtcbkbpjlbmalmaaGreatDoorpaw
import Derived.Test.YtcbkbpjlbmalmaaGreatDoorpan
import Derived.Test.YtcbkbpjlbmalmaaGreatDoorpas
import Derived.Shelf.SortM.Plain
import Derived.Shelf.SortM.SortNone
import Derived.Shelf.SlLaysM
namespace Go.Proofs.YtcbkbpjlbmalmaaGreatDoor
open Go Go.X Go.Y
section
structure Used(M M':Mn)(lv lv':List (Int×Bool))(l:List Int)(F:B.Fn):Prop where
 nx:M'.nx=M.nx+1
 get:∀k,Ac lv' k=if k=M.nx then some true else if k∈l then none else Ac lv k
 Ba:∀k,M'.Ba k=if k=M.nx then some F else if k∈l/\(Ac lv k).isSome=true then none else M.Ba k
 le:lv'.length<=lv.length+1
 len:l.Nodup->(∀k∈l,(Ac lv k).isSome=true)->lv'.length+l.length=lv.length+1
variable {H:HY} {wb b:Nat} {M0 M:Mn} {L:Ae} {lv:List (Int×Bool)} {F:B.Fn}
theorem WK.lt(w:WK H wb b M0 M L lv){k:Int}(hF:M.Ba k=some F):k<M.nx:=by obtain⟨e,he,_⟩:=Mn.Ju hF;exact(w.mg.i.ok k e he).2.2
theorem WK.nl(w:WK H wb b M0 M L lv){k:Int}(hk:M.nx<=k):Ac lv k=none/\M.Ba k=none:=by
 have h1:M.Ba k=none:=by
  cases e:M.Ba k with
  |none=>rfl
  |some F=>have:=w.lt e;omega
 refine⟨?_,h1⟩;cases e:Ac lv k with
 |none=>rfl
 |some t=>exact absurd h1 ((w.hi k (by have:=w.nx;omega)).1 (by rw[e];rfl))
def DoS(b:Nat)(M:Mn)(H:HY)(l:List Int)(F:B.Fn)(do_:FT Y0 [.ptr,.sl I6] [.int .i64,.int .i64]):Prop:=∀(Q:Int×Int×Unit->HP)(X:PX),(∀M' H',MG H' b M'->New M M' F->FrH b M H H'->Q (M.nx,0,()) H')->do_ (some b,l,()) H Q X
variable {X:PX} {Q:Int×Unit->UU}
theorem Am5{do_:FT Y0 [.ptr,.sl I6] [.int .i64,.int .i64]}{l:List Int}(w:WK H wb b M0 M L lv)(hn:M.nx<576460752303423486)(hll:l.length<=1000000)(hlt:∀k∈l,k<M.nx)(hdo:DoS b M H l F do_)(h:∀M' lv' H',WK H' wb b M0 M' L lv'->F8 M M'->Used M M' lv lv' l F->FrW wb b M H H'->Q (M.nx,()) () H'):Wp Y0 Cg B8 (some wb,do_,l,()) H Q X:=by
 refine Ady _ _ _ _ _ _ ?_;unfold Uf;refine⟨wb,rfl,_,w.ob,λh=>absurd rfl h,λ_=>⟨rfl,hdo _ _ λM1 H1 g1 nw f1=>?_⟩⟩;refine Ad7 w g1 nw f1 λH2 w2 hnone f2=>?_;refine Aa0 w2 (by rw[nw.nx];omega) hll λM3 lv3 H3 w3 nx3 e1 e2 le0 le1 f3=>?_;have hl2:(C4 lv M.nx true).length=lv.length+1:=Rn hnone;refine h M3 lv3 H3 w3 ?_ ⟨nx3.trans nw.nx,λk=>?_,λk=>?_,by omega,λhnd hall=>?_⟩ (f2.trans (f3.same nw.bs))
 .have e1:=w.bs;have e2:=w3.bs;exact⟨e2.sb.trans e1.sb.symm,e2.mb.trans e1.mb.symm,e2.bl.trans e1.bl.symm,e2.bp.trans e1.bp.symm,e2.tb.trans e1.tb.symm⟩
 .rw[e1,D4];by_cases hk:k=M.nx
  .rw[if_pos hk,if_neg (λhm=>by have:=hlt k hm;omega),if_pos hk]
  .rw[if_neg hk,if_neg hk]
 .rw[e2,nw.Ba,D4];by_cases hk:k=M.nx
  .have hnm:¬k∈l:=λhm=>by have:=hlt k hm;omega
   simp [hk,hk▸hnm]
  .rw[if_neg hk,if_neg hk,if_neg hk]
 .have:=le1 hnd λk hk=>by rw[D4];have hk2:=hlt k hk;rw[if_neg (by omega)];exact hall k hk
  omega
theorem V4{M':Mn}{H':HY}(w:WK H wb b M0 M L lv)(g:MG H' b M')(nw:New M M' F)(f:FrH b M H H')(h:∀lv' H'',WK H'' wb b M0 M' L lv'->F8 M M'->Used M M' lv lv' [] F->FrW wb b M H H''->Q (M.nx,()) () H''):Wp Y0 Bh Be (some wb,M.nx,0,()) H' Q X:=by
 refine Ad7 w g nw f λH'' w2 hnone f2=>h _ H'' w2 nw.bs ⟨nw.nx,λk=>?_,λk=>?_,by rw[Rn hnone];exact Nat.le_refl _,λ_ _=>by rw[Rn hnone];rfl⟩ f2
 .rw[D4];simp
 .rw[nw.Ba];simp
theorem Ac0{yes:Bool}(w:WK H wb b M0 M L lv)(hn:M.nx<576460752303423486)(h:∀M' lv' H',WK H' wb b M0 M' L lv'->F8 M M'->Used M M' lv lv' [] (λ_=>yes)->FrW wb b M H H'->Q (M.nx,()) () H'):Wp Y0 Cw Cj (some wb,yes,()) H Q X:=by
 refine Vz _ _ _ _ _ ?_;unfold Oq;have hc:M.Ba (if yes=true then 1 else 0)=some (λ_=>yes):=by
  cases yes
  .exact w.mg.i.Ax1
  .exact w.mg.i.A3c
 have one:Wp Y0 Jw Hq (some b,(if yes=true then 1 else 0),()) H (λ(b_2:Int×Int×Unit)_ H'=>Wp Y0 Bh Be (some wb,b_2.1,b_2.2.1,()) H' (λ(b:Int×Unit)_ H'=>Q (b.1,()) () H') X) X:=
  Al3 w.mg (by omega) hc λM' H' g nw f=>V4 w g nw f λlv' H'' w2 bs u f2=>h M' lv' H'' w2 bs u f2
 exact⟨wb,rfl,_,w.ob,⟨rfl,Ab0 one⟩,rfl,Ab0 ⟨_,w.ob,rfl,one⟩⟩
end
section
def Kb(l:List Int)(k:Nat):Int:=(l.take k).foldl (·+·) 0
theorem Mw{l:List Int}{k:Nat}(h:k<l.length):Kb l (k+1)=Kb l k+l[k]:=by unfold Kb;rw[List.take_succ_eq_append_getElem h,List.foldl_append];rfl
structure R5(L:Ae):Prop where
 lb:L.Bits.length=L.Ag.length
 la:L.At.length=L.Ag.length
 ln:L.Ag.length<=64
 b0:∀i(h:i<L.Bits.length),0<=L.Bits[i]/\L.Bits[i]<=30
 at_:∀i(h:i<L.At.length),L.At[i]=Kb L.Bits i
variable {L:Ae}
theorem R5.sum(h:R5 L):∀{k:Nat},k<=L.Bits.length->0<=Kb L.Bits k/\Kb L.Bits k<=30*k
 |0,_=>by simp [Kb]
 |k+1,hk=>by have:=h.sum (k:=k) (by omega);have:=h.b0 k (by omega);rw[Mw (by omega)];omega
theorem R5.Af0(h:R5 L){j:Nat}:∀{k:Nat},j<=k->k<=L.Bits.length->Kb L.Bits j<=Kb L.Bits k
 |0,hj,_=>by rw[show j=0 by omega];exact Int.le_refl _
 |k+1,hj,hk=>by
  by_cases e:j=k+1
  .subst e;exact Int.le_refl _
  .have:=h.Af0 (j:=j) (k:=k) (by omega) (by omega);have:=h.b0 k (by omega);rw[Mw (by omega)];omega
def Iv(L:Ae):Int:=Kb L.Bits L.Bits.length
variable {H:HY} {X:PX}
theorem Acl{Q:Int×Unit->UU}(hL:R5 L)(h:Q (Iv L,()) () H):Wp Y0 Mq Ja (L,()) H Q X:=by
 refine Aak _ _ _ _ ?_;unfold Ru;have hln:=hL.ln;have hlb:=hL.lb;refine λ_=>⟨λn z=>n=L.Bits.length-z.2.1/\z.2.1<=L.Bits.length/\z.1=Kb L.Bits z.2.1,⟨_,rfl,rfl,Nat.zero_le _,rfl⟩,?_⟩
 rintro n ⟨s,k,_⟩ ⟨hn0,hk0,hs0⟩;have hn:n=L.Bits.length-k:=hn0;have hk:k<=L.Bits.length:=hk0;have hs:s=Kb L.Bits k:=hs0;subst hs;clear hn0 hk0 hs0;refine⟨λhkl _=>?_,λhkl=>?_⟩
 .have hkl':k<L.Bits.length:=hkl;have h1:=hL.sum hk;have h2:=hL.b0 k hkl';exact⟨hkl',λ_ _=>⟨Bk.2 (by show _<=Kb L.Bits k+L.Bits[k]/\Kb L.Bits k+L.Bits[k]<=_;omega),by show k+1<=_;omega,L.Bits.length-(k+1),by omega,rfl,rfl,by show k+1<=_;omega,(Mw hkl').symm⟩⟩
 .have hkl':¬k<L.Bits.length:=hkl;have:k=L.Bits.length:=by omega
  subst this;exact h
def Wu(L:Ae)(i:Nat):List Int:=(List.range ((L.Bits[i]?).getD 0).toNat).map λ(k:Nat)=>2*((L.At[i]?).getD 0+(k:Int))
variable {i:Nat}
theorem Ahk{Q:List Int×Unit->UU}(hL:R5 L)(hi:i<L.Ag.length)(h:Q (Wu L i,()) () H):Wp Y0 Li Ip (L,(i:Int),()) H Q X:=by
 refine Adu _ _ _ _ _ ?_;unfold T9;have hln:=hL.ln;have hib:i<L.Bits.length:=by rw[hL.lb];exact hi
 have hia:i<L.At.length:=by rw[hL.la];exact hi
 have t0:((i:Int)).toNat=i:=by omega
 have h1:=hL.b0 i hib;have h2:=hL.at_ i hia;have h3:=hL.sum (k:=i) (by omega);have hnow:Wu L i=(List.range L.Bits[i].toNat).map λ(k:Nat)=>2*(L.At[i]+(k:Int)):=by unfold Wu;rw[List.getElem?_eq_getElem hib,List.getElem?_eq_getElem hia];rfl
 simp only[t0];refine⟨λhn=>by omega,λ_ _=>⟨λhn=>?_,λ_ _=>⟨λ_=>by omega,hib,λn z=>n=L.Bits[i].toNat-z.2.1/\z.2.1<=L.Bits[i].toNat/\z.1=(List.range z.2.1).map λ(k:Nat)=>2*(L.At[i]+(k:Int)),⟨_,trivial,rfl,Nat.zero_le _,rfl⟩,?_⟩⟩⟩
 .have hn:(L.Bits.length:Int)<=(i:Int):=hn;omega
 rintro n ⟨s,k,_⟩ ⟨hn0,hk0,hs0⟩;have hn:n=L.Bits[i].toNat-k:=hn0;have hk:k<=L.Bits[i].toNat:=hk0;have hs:s=(List.range k).map λ(k:Nat)=>2*(L.At[i]+(k:Int)):=hs0;subst hs;clear hn0 hk0 hs0;refine⟨λhkl _=>?_,λhkl=>?_⟩
 .have hkl':(k:Int)<L.Bits[i]:=hkl;refine⟨λ_=>by omega,hia,λ_ _=>⟨Bk.2 (by show _<=L.At[i]+(k:Int)/\L.At[i]+(k:Int)<=_;omega),λ_=>⟨Bk.2 (by show _<=2*(L.At[i]+(k:Int))/\2*(L.At[i]+(k:Int))<=_;omega),?_,by show k+1<=_;omega,L.Bits[i].toNat-(k+1),by omega,trivial,rfl,by show k+1<=_;omega,?_⟩⟩⟩
  .show (((List.range k).map _).length+1)*8<=_;simp;omega
  .show (List.range k).map _++[_]=(List.range (k+1)).map _;rw[List.range_succ,List.map_append];rfl
 .have hkl':¬(k:Int)<L.Bits[i]:=hkl;have:k=L.Bits[i].toNat:=by omega
  subst this;rw[hnow]at h;exact h
theorem Ags(hL:R5 L)(hi:i<L.Ag.length):(Wu L i).length<=30:=by
 have hib:i<L.Bits.length:=by rw[hL.lb];exact hi
 have:=hL.b0 i hib;unfold Wu;rw[List.length_map,List.length_range,List.getElem?_eq_getElem hib];simp;omega
theorem Agr(hL:R5 L)(hi:i<L.Ag.length){v:Int}(hv:v∈Wu L i):0<=v/\v+1<2*Iv L/\v%2=0:=by
 have hib:i<L.Bits.length:=by rw[hL.lb];exact hi
 have hia:i<L.At.length:=by rw[hL.la];exact hi
 have h1:=hL.b0 i hib;have h2:=hL.at_ i hia;have h3:=hL.sum (k:=i) (by omega);have h4:=hL.Af0 (j:=i+1) (k:=L.Bits.length) (by omega) (Nat.le_refl _);rw[Mw hib]at h4;unfold Wu at hv;rw[List.getElem?_eq_getElem hib,List.getElem?_eq_getElem hia]at hv;obtain⟨k,hk,rfl⟩:=List.mem_map.1 hv;have hk:=List.mem_range.1 hk;simp only[Option.getD_some]at hk ⊢;unfold Iv;omega
theorem Ao5{Q:List Int×Unit->UU}(hL:R5 L)(hi:i<L.Ag.length)(h:Q ((Wu L i).map (·+1),()) () H):Wp Y0 J9 Hj (L,(i:Int),()) H Q X:=by
 refine Acm _ _ _ _ _ ?_;unfold Sl;refine Ahk hL hi λ_=>?_;have hlen:=Ags hL hi;have hmem:∀v∈Wu L i,0<=v/\v+1<2*Iv L/\v%2=0:=λv hv=>Agr hL hi hv;have htot:=(hL.sum (Nat.le_refl _)).2;have hln:=hL.ln;have hlb:=hL.lb;generalize Wu L i=V at *;refine⟨λn z=>n=V.length-z.2.1/\z.2.1<=V.length/\z.1=(V.take z.2.1).map (·+1),⟨_,rfl,rfl,Nat.zero_le _,rfl⟩,?_⟩;rintro n ⟨s,k,_⟩ ⟨hn0,hk0,hs0⟩;have hn:n=V.length-k:=hn0;have hk:k<=V.length:=hk0;have hs:s=(V.take k).map (·+1):=hs0;subst hs;clear hn0 hk0 hs0;refine⟨λhkl _=>?_,λhkl=>?_⟩
 .have hkl':k<V.length:=hkl;have h1:=hmem V[k] (List.getElem_mem hkl');have h2:Iv L<=1920:=by unfold Iv;omega
  refine⟨hkl',λ_=>⟨Bk.2 (by show _<=V[k]+1/\V[k]+1<=_;omega),?_,by show k+1<=_;omega,V.length-(k+1),by omega,rfl,rfl,by show k+1<=_;omega,?_⟩⟩
  .show (((V.take k).map (·+1)).length+1)*8<=_;simp;omega
  .show (V.take k).map (·+1)++[V[k]+1]=(V.take (k+1)).map (·+1);rw[List.take_succ_eq_append_getElem hkl',List.map_append];rfl
 .have hkl':¬k<V.length:=hkl;have:k=V.length:=by omega
  subst this;rw[List.take_length];exact h
end
section
set_option maxRecDepth 100000
set_option maxHeartbeats 2000000
def G4(yield:Int×Unit->HY->(Bool×Unit->HP)->PX->Prop)(p1:Option Nat)(H:HY)(Q:Unit->UU)(X:PX):Prop:=∃(b:Nat),p1=some b/\∃(m:List (Int×Int)),H b=some (Ob.mp (Ty.int .i64) (Ty.int .i64) m)/\True/\∃(V:List (Int×Int)->UU),(True/\V m () (Dp H b))/\∀(left:List (Int×Int))(x:Unit)(H:HY),V left x H->(left=[]->Q () () (Ab H b (Ob.mp (Ty.int .i64) (Ty.int .i64) m)))/\∀(l1:List (Int×Int))(p:Int×Int)(l2:List (Int×Int)),left=l1++p::l2->yield (p.1,()) H (λ(b1:Bool×Unit)(G:HY)=>(¬b1.1=true->Q () () (Ab G b (Ob.mp (Ty.int .i64) (Ty.int .i64) m)))/\(¬¬b1.1=true->True/\V (l1++l2) () G)) X
theorem Ng yield p1 H Q X(hyp_:G4 yield p1 H Q X):Wp Y0 Bl Bg (yield,p1,()) H Q X:=wFS Tryz.f139 {lp:=[(1,⟨[],[0,5],true⟩)]} (by kernel_rfl) hyp_ (by kernel_rfl)
def Gi(yield:Int×Unit->HY->(Bool×Unit->HP)->PX->Prop)(p1:Option Nat)(H:HY)(Q:Unit->UU)(X:PX):Prop:=∃(b:Nat),p1=some b/\∃(m:List (Int×Int)),H b=some (Ob.mp (Ty.int .i64) (Ty.int .i64) m)/\True/\∃(V:List (Int×Int)->UU),(True/\V m () (Dp H b))/\∀(left:List (Int×Int))(x:Unit)(H:HY),V left x H->(left=[]->Q () () (Ab H b (Ob.mp (Ty.int .i64) (Ty.int .i64) m)))/\∀(l1:List (Int×Int))(p:Int×Int)(l2:List (Int×Int)),left=l1++p::l2->yield (p.2,()) H (λ(b1:Bool×Unit)(G:HY)=>(¬b1.1=true->Q () () (Ab G b (Ob.mp (Ty.int .i64) (Ty.int .i64) m)))/\(¬¬b1.1=true->True/\V (l1++l2) () G)) X
theorem L0 yield p1 H Q X(hyp_:Gi yield p1 H Q X):Wp Y0 Bx Bp (yield,p1,()) H Q X:=wFS Tryz.f235 {lp:=[(1,⟨[],[0,6],true⟩)]} (by kernel_rfl) hyp_ (by kernel_rfl)
def R0(w:Option Nat)(a b:A6)(do_:Int×Int×Int×Unit->HY->(Unit->HP)->PX->Prop)(H:HY)(Q:Unit->UU)(X:PX):Prop:=Wp Y0 Ds C5 (w,a,()) H (λ(b1:Option Nat×Unit)_ G=>Wp Y0 Ds C5 (w,b,()) G (λ(b:Option Nat×Unit)_ G=>∀(b2:Nat),G b2=none->∀(l:Nat)(r:Loop),Ab G b2 (Ob.st Ak []) l=none->Wp Y0 Bl Bg (λ(a:Int×Unit)(H:HY)(Q:Bool×Unit->HP)(X:Nat->Lf Y0.D->HP)=>H l=some (Ob.lp r)/\H l=some (Ob.lp r)/\∃(x:List Int),Ab H l (Ob.lp (Dy r)) b2=some (Ob.st Ak x)/\(x.length+[a.1].length)*8<=140737488355328/\Ab (Ab H l (Ob.lp (Dy r))) b2 (Ob.st Ak (x++[a.1])) l=some (Ob.lp (Dy r))/\Q (true,()) (Ab (Ab (Ab H l (Ob.lp (Dy r))) b2 (Ob.st Ak (x++[a.1]))) l (Ob.lp r)),b1.1,()) (Ab (Ab G b2 (Ob.st Ak [])) l (Ob.lp r)) (λ(b3 io:Unit)(G:HY)=>(G l=some (Ob.lp r)/\∀(r':Loop),∃(x:List Int),Ab G l (Ob.lp r') b2=some (Ob.st Ak x)/\Wp Y0 Di Cv (x,()) (Dp (Ab G l (Ob.lp r')) b2) (λ(b4:Unit)(io:List Int×Unit)(G:HY)=>io.1.length<=9223372036854775807->∃(V:Nat->List Int×Nat×Unit->HP),(∃(n:Nat),V n (io.1,0,()) G)/\∀(n:Nat)(x:List Int×Nat×Unit)(H:HY),V n x H->(x.2.1<io.1.length->x.2.1<=9223372036854775807->∃(h:x.2.1<x.1.length),∃(h:x.2.1<x.1.length),∀(b5:Nat),H b5=none->∀(l:Nat)(r:Loop),Ab H b5 (Ob.st Ak []) l=none->Wp Y0 Bl Bg (λ(a:Int×Unit)(H:HY)(Q:Bool×Unit->HP)(X:Nat->Lf Y0.D->HP)=>H l=some (Ob.lp r)/\H l=some (Ob.lp r)/\∃(x:List Int),Ab H l (Ob.lp (Dy r)) b5=some (Ob.st Ak x)/\(x.length+[a.1].length)*8<=140737488355328/\Ab (Ab H l (Ob.lp (Dy r))) b5 (Ob.st Ak (x++[a.1])) l=some (Ob.lp (Dy r))/\Q (true,()) (Ab (Ab (Ab H l (Ob.lp (Dy r))) b5 (Ob.st Ak (x++[a.1]))) l (Ob.lp r)),b.1,()) (Ab (Ab H b5 (Ob.st Ak [])) l (Ob.lp r)) (λ(b6 io:Unit)(G:HY)=>(G l=some (Ob.lp r)/\∀(r':Loop),∃(x1:List Int),Ab G l (Ob.lp r') b5=some (Ob.st Ak x1)/\Wp Y0 Di Cv (x1,()) (Dp (Ab G l (Ob.lp r')) b5) (λ(b7:Unit)(io:List Int×Unit)(G:HY)=>io.1.length<=9223372036854775807->∃(V1:Nat->List Int×List Int×Nat×Unit->HP),(∃(n:Nat),V1 n (x.1,io.1,0,()) G)/\∀(n1:Nat)(x2:List Int×List Int×Nat×Unit)(H:HY),V1 n1 x2 H->(x2.2.2.1<io.1.length->x2.2.2.1<=(9223372036854775807:Nat)->∃(h1:x2.2.2.1<x2.2.1.length),∃(h2:x2.2.2.1<x2.2.1.length),∃(b8:Nat),w=some b8/\(∃(x3:Ap),H b8=some (Ob.st C3 x3)/\(x3=x3/\∃(r:Nat),b1.1=some r/\∃(m:List (Int×Int)),H r=some (Ob.mp (Ty.int .i64) (Ty.int .i64) m)/\∃(r:Nat),b.1=some r/\∃(m1:List (Int×Int)),H r=some (Ob.mp (Ty.int .i64) (Ty.int .i64) m1)/\Wp Y0 D6 Du (x3.m,[(Ac m x.1[x.2.1]).getD (0:Int),(Ac m1 x2.2.1[x2.2.2.1]).getD (0:Int)],()) H (λ(b:Int×Int×Unit)_ G=>Wp Y0 Bh Be (w,b.1,b.2.1,()) G (λ(b:Int×Unit)_ G=>∃(x4:Ap),G b8=some (Ob.st C3 x4)/\x4=x4/\Wp Y0 Er D8 (x4.m,b.1,(0:Int),()) G (λ(b9:Bool×Int×Unit)_ G=>(b9.1=true->Wp Y0 Ao Al (w,[b.1],()) G (λ(b io:Unit)(G:HY)=>x2.2.2.1+1<=(9223372036854775807:Nat)/\∃(m:Nat),m<n1/\V1 m (x2.1,x2.2.1,x2.2.2.1+1,()) G) X)/\(¬b9.1=true->(¬b9.2.1=(0:Int)->Wp Y0 Ao Al (w,[b.1],()) G (λ(b io:Unit)(G:HY)=>x2.2.2.1+1<=(9223372036854775807:Nat)/\∃(m:Nat),m<n1/\V1 m (x2.1,x2.2.1,x2.2.2.1+1,()) G) X)/\(¬¬b9.2.1=(0:Int)->do_ (x.1[x.2.1],x2.2.1[x2.2.2.1],b.1,()) G (λ(b:Unit)(G:HY)=>x2.2.2.1+1<=(9223372036854775807:Nat)/\∃(m:Nat),m<n1/\V1 m (x2.1,x2.2.1,x2.2.2.1+1,()) G) X))) X) X) X)/\x3=x3/\∃(r:Nat),b.1=some r/\∃(m:List (Int×Int)),H r=some (Ob.mp (Ty.int .i64) (Ty.int .i64) m)/\∃(r:Nat),b1.1=some r/\∃(m1:List (Int×Int)),H r=some (Ob.mp (Ty.int .i64) (Ty.int .i64) m1)/\Wp Y0 D6 Du (x3.m,[(Ac m1 x.1[x.2.1]).getD (0:Int),(Ac m x2.2.1[x2.2.2.1]).getD (0:Int)],()) H (λ(b:Int×Int×Unit)_ G=>Wp Y0 Bh Be (w,b.1,b.2.1,()) G (λ(b:Int×Unit)_ G=>∃(x4:Ap),G b8=some (Ob.st C3 x4)/\x4=x4/\Wp Y0 Er D8 (x4.m,b.1,(0:Int),()) G (λ(b9:Bool×Int×Unit)_ G=>(b9.1=true->Wp Y0 Ao Al (w,[b.1],()) G (λ(b io:Unit)(G:HY)=>x2.2.2.1+1<=(9223372036854775807:Nat)/\∃(m:Nat),m<n1/\V1 m (x2.1,x2.2.1,x2.2.2.1+1,()) G) X)/\(¬b9.1=true->(¬b9.2.1=(0:Int)->Wp Y0 Ao Al (w,[b.1],()) G (λ(b io:Unit)(G:HY)=>x2.2.2.1+1<=(9223372036854775807:Nat)/\∃(m:Nat),m<n1/\V1 m (x2.1,x2.2.1,x2.2.2.1+1,()) G) X)/\(¬¬b9.2.1=(0:Int)->do_ (x.1[x.2.1],x2.2.1[x2.2.2.1],b.1,()) G (λ(b:Unit)(G:HY)=>x2.2.2.1+1<=(9223372036854775807:Nat)/\∃(m:Nat),m<n1/\V1 m (x2.1,x2.2.1,x2.2.2.1+1,()) G) X))) X) X) X)/\(∃(r:Nat),b1.1=some r/\∃(m:List (Int×Int)),H r=some (Ob.mp (Ty.int .i64) (Ty.int .i64) m)/\(∃(x3:Ap),H b8=some (Ob.st C3 x3)/\x3=x3/\∃(r:Nat),b.1=some r/\∃(m1:List (Int×Int)),H r=some (Ob.mp (Ty.int .i64) (Ty.int .i64) m1)/\Wp Y0 D6 Du (x3.m,[(Ac m x.1[x.2.1]).getD (0:Int),(Ac m1 x2.2.1[x2.2.2.1]).getD (0:Int)],()) H (λ(b:Int×Int×Unit)_ G=>Wp Y0 Bh Be (w,b.1,b.2.1,()) G (λ(b:Int×Unit)_ G=>∃(x4:Ap),G b8=some (Ob.st C3 x4)/\x4=x4/\Wp Y0 Er D8 (x4.m,b.1,(0:Int),()) G (λ(b9:Bool×Int×Unit)_ G=>(b9.1=true->Wp Y0 Ao Al (w,[b.1],()) G (λ(b io:Unit)(G:HY)=>x2.2.2.1+1<=(9223372036854775807:Nat)/\∃(m:Nat),m<n1/\V1 m (x2.1,x2.2.1,x2.2.2.1+1,()) G) X)/\(¬b9.1=true->(¬b9.2.1=(0:Int)->Wp Y0 Ao Al (w,[b.1],()) G (λ(b io:Unit)(G:HY)=>x2.2.2.1+1<=(9223372036854775807:Nat)/\∃(m:Nat),m<n1/\V1 m (x2.1,x2.2.1,x2.2.2.1+1,()) G) X)/\(¬¬b9.2.1=(0:Int)->do_ (x.1[x.2.1],x2.2.1[x2.2.2.1],b.1,()) G (λ(b:Unit)(G:HY)=>x2.2.2.1+1<=(9223372036854775807:Nat)/\∃(m:Nat),m<n1/\V1 m (x2.1,x2.2.1,x2.2.2.1+1,()) G) X))) X) X) X)/\∃(r:Nat),b.1=some r/\∃(m1:List (Int×Int)),H r=some (Ob.mp (Ty.int .i64) (Ty.int .i64) m1)/\dup (∃(x3:Ap),H b8=some (Ob.st C3 x3)/\x3=x3/\Wp Y0 D6 Du (x3.m,[(Ac m x.1[x.2.1]).getD (0:Int),(Ac m1 x2.2.1[x2.2.2.1]).getD (0:Int)],()) H (λ(b:Int×Int×Unit)_ G=>Wp Y0 Bh Be (w,b.1,b.2.1,()) G (λ(b:Int×Unit)_ G=>∃(x4:Ap),G b8=some (Ob.st C3 x4)/\x4=x4/\Wp Y0 Er D8 (x4.m,b.1,(0:Int),()) G (λ(b9:Bool×Int×Unit)_ G=>(b9.1=true->Wp Y0 Ao Al (w,[b.1],()) G (λ(b io:Unit)(G:HY)=>x2.2.2.1+1<=(9223372036854775807:Nat)/\∃(m:Nat),m<n1/\V1 m (x2.1,x2.2.1,x2.2.2.1+1,()) G) X)/\(¬b9.1=true->(¬b9.2.1=(0:Int)->Wp Y0 Ao Al (w,[b.1],()) G (λ(b io:Unit)(G:HY)=>x2.2.2.1+1<=(9223372036854775807:Nat)/\∃(m:Nat),m<n1/\V1 m (x2.1,x2.2.1,x2.2.2.1+1,()) G) X)/\(¬¬b9.2.1=(0:Int)->do_ (x.1[x.2.1],x2.2.1[x2.2.2.1],b.1,()) G (λ(b:Unit)(G:HY)=>x2.2.2.1+1<=(9223372036854775807:Nat)/\∃(m:Nat),m<n1/\V1 m (x2.1,x2.2.1,x2.2.2.1+1,()) G) X))) X) X) X))/\∃(r:Nat),b.1=some r/\∃(m:List (Int×Int)),H r=some (Ob.mp (Ty.int .i64) (Ty.int .i64) m)/\(∃(x3:Ap),H b8=some (Ob.st C3 x3)/\x3=x3/\∃(r:Nat),b1.1=some r/\∃(m1:List (Int×Int)),H r=some (Ob.mp (Ty.int .i64) (Ty.int .i64) m1)/\Wp Y0 D6 Du (x3.m,[(Ac m1 x.1[x.2.1]).getD (0:Int),(Ac m x2.2.1[x2.2.2.1]).getD (0:Int)],()) H (λ(b:Int×Int×Unit)_ G=>Wp Y0 Bh Be (w,b.1,b.2.1,()) G (λ(b:Int×Unit)_ G=>∃(x4:Ap),G b8=some (Ob.st C3 x4)/\x4=x4/\Wp Y0 Er D8 (x4.m,b.1,(0:Int),()) G (λ(b9:Bool×Int×Unit)_ G=>(b9.1=true->Wp Y0 Ao Al (w,[b.1],()) G (λ(b io:Unit)(G:HY)=>x2.2.2.1+1<=(9223372036854775807:Nat)/\∃(m:Nat),m<n1/\V1 m (x2.1,x2.2.1,x2.2.2.1+1,()) G) X)/\(¬b9.1=true->(¬b9.2.1=(0:Int)->Wp Y0 Ao Al (w,[b.1],()) G (λ(b io:Unit)(G:HY)=>x2.2.2.1+1<=(9223372036854775807:Nat)/\∃(m:Nat),m<n1/\V1 m (x2.1,x2.2.1,x2.2.2.1+1,()) G) X)/\(¬¬b9.2.1=(0:Int)->do_ (x.1[x.2.1],x2.2.1[x2.2.2.1],b.1,()) G (λ(b:Unit)(G:HY)=>x2.2.2.1+1<=(9223372036854775807:Nat)/\∃(m:Nat),m<n1/\V1 m (x2.1,x2.2.1,x2.2.2.1+1,()) G) X))) X) X) X)/\∃(r:Nat),b1.1=some r/\∃(m1:List (Int×Int)),H r=some (Ob.mp (Ty.int .i64) (Ty.int .i64) m1)/\dup (∃(x3:Ap),H b8=some (Ob.st C3 x3)/\x3=x3/\Wp Y0 D6 Du (x3.m,[(Ac m1 x.1[x.2.1]).getD (0:Int),(Ac m x2.2.1[x2.2.2.1]).getD (0:Int)],()) H (λ(b:Int×Int×Unit)_ G=>Wp Y0 Bh Be (w,b.1,b.2.1,()) G (λ(b:Int×Unit)_ G=>∃(x4:Ap),G b8=some (Ob.st C3 x4)/\x4=x4/\Wp Y0 Er D8 (x4.m,b.1,(0:Int),()) G (λ(b9:Bool×Int×Unit)_ G=>(b9.1=true->Wp Y0 Ao Al (w,[b.1],()) G (λ(b io:Unit)(G:HY)=>x2.2.2.1+1<=(9223372036854775807:Nat)/\∃(m:Nat),m<n1/\V1 m (x2.1,x2.2.1,x2.2.2.1+1,()) G) X)/\(¬b9.1=true->(¬b9.2.1=(0:Int)->Wp Y0 Ao Al (w,[b.1],()) G (λ(b io:Unit)(G:HY)=>x2.2.2.1+1<=(9223372036854775807:Nat)/\∃(m:Nat),m<n1/\V1 m (x2.1,x2.2.1,x2.2.2.1+1,()) G) X)/\(¬¬b9.2.1=(0:Int)->do_ (x.1[x.2.1],x2.2.1[x2.2.2.1],b.1,()) G (λ(b:Unit)(G:HY)=>x2.2.2.1+1<=(9223372036854775807:Nat)/\∃(m:Nat),m<n1/\V1 m (x2.1,x2.2.1,x2.2.2.1+1,()) G) X))) X) X) X))/\(¬x2.2.2.1<io.1.length->x.2.1+1<=(9223372036854775807:Nat)/\∃(m:Nat),m<n/\V m (x2.1,x.2.1+1,()) H)) X)∨G l=some (Ob.lp (Vy r Code.ret))/\∀(r':Loop),False) X)/\(¬x.2.1<io.1.length->∀(b5:Nat),H b5=none->∀(l:Nat)(r:Loop),Ab H b5 (Ob.st Ak []) l=none->Wp Y0 Bx Bp (λ(a:Int×Unit)(H:HY)(Q:Bool×Unit->HP)(X:Nat->Lf Y0.D->HP)=>H l=some (Ob.lp r)/\H l=some (Ob.lp r)/\∃(x:List Int),Ab H l (Ob.lp (Dy r)) b5=some (Ob.st Ak x)/\(x.length+[a.1].length)*8<=140737488355328/\Ab (Ab H l (Ob.lp (Dy r))) b5 (Ob.st Ak (x++[a.1])) l=some (Ob.lp (Dy r))/\Q (true,()) (Ab (Ab (Ab H l (Ob.lp (Dy r))) b5 (Ob.st Ak (x++[a.1]))) l (Ob.lp r)),b1.1,()) (Ab (Ab H b5 (Ob.st Ak [])) l (Ob.lp r)) (λ(b6 io:Unit)(G:HY)=>(G l=some (Ob.lp r)/\∀(r':Loop),∃(x:List Int),Ab G l (Ob.lp r') b5=some (Ob.st Ak x)/\Wp Y0 Ao Al (w,x,()) (Dp (Ab G l (Ob.lp r')) b5) (λ(b7 io:Unit)(G:HY)=>∀(b8:Nat),G b8=none->∀(l:Nat)(r:Loop),Ab G b8 (Ob.st Ak []) l=none->Wp Y0 Bx Bp (λ(a:Int×Unit)(H:HY)(Q:Bool×Unit->HP)(X:Nat->Lf Y0.D->HP)=>H l=some (Ob.lp r)/\H l=some (Ob.lp r)/\∃(x:List Int),Ab H l (Ob.lp (Dy r)) b8=some (Ob.st Ak x)/\(x.length+[a.1].length)*8<=(140737488355328:Nat)/\Ab (Ab H l (Ob.lp (Dy r))) b8 (Ob.st Ak (x++[a.1])) l=some (Ob.lp (Dy r))/\Q (true,()) (Ab (Ab (Ab H l (Ob.lp (Dy r))) b8 (Ob.st Ak (x++[a.1]))) l (Ob.lp r)),b.1,()) (Ab (Ab G b8 (Ob.st Ak [])) l (Ob.lp r)) (λ(b io:Unit)(G:HY)=>(G l=some (Ob.lp r)/\∀(r':Loop),∃(x:List Int),Ab G l (Ob.lp r') b8=some (Ob.st Ak x)/\Wp Y0 Ao Al (w,x,()) (Dp (Ab G l (Ob.lp r')) b8) (λ(b io:Unit)(G:HY)=>Q () () G) X)∨G l=some (Ob.lp (Vy r Code.ret))/\∀(r':Loop),Wp Y0 Ao Al (w,[],()) (Ab G l (Ob.lp r')) (λ(b io:Unit)(G:HY)=>Q () () G) X) X) X)∨G l=some (Ob.lp (Vy r Code.ret))/\∀(r':Loop),Wp Y0 Ao Al (w,[],()) (Ab G l (Ob.lp r')) (λ(b7 io:Unit)(G:HY)=>∀(b8:Nat),G b8=none->∀(l:Nat)(r:Loop),Ab G b8 (Ob.st Ak []) l=none->Wp Y0 Bx Bp (λ(a:Int×Unit)(H:HY)(Q:Bool×Unit->HP)(X:Nat->Lf Y0.D->HP)=>H l=some (Ob.lp r)/\H l=some (Ob.lp r)/\∃(x:List Int),Ab H l (Ob.lp (Dy r)) b8=some (Ob.st Ak x)/\(x.length+[a.1].length)*8<=(140737488355328:Nat)/\Ab (Ab H l (Ob.lp (Dy r))) b8 (Ob.st Ak (x++[a.1])) l=some (Ob.lp (Dy r))/\Q (true,()) (Ab (Ab (Ab H l (Ob.lp (Dy r))) b8 (Ob.st Ak (x++[a.1]))) l (Ob.lp r)),b.1,()) (Ab (Ab G b8 (Ob.st Ak [])) l (Ob.lp r)) (λ(b io:Unit)(G:HY)=>(G l=some (Ob.lp r)/\∀(r':Loop),∃(x:List Int),Ab G l (Ob.lp r') b8=some (Ob.st Ak x)/\Wp Y0 Ao Al (w,x,()) (Dp (Ab G l (Ob.lp r')) b8) (λ(b io:Unit)(G:HY)=>Q () () G) X)∨G l=some (Ob.lp (Vy r Code.ret))/\∀(r':Loop),Wp Y0 Ao Al (w,[],()) (Ab G l (Ob.lp r')) (λ(b io:Unit)(G:HY)=>Q () () G) X) X) X) X)) X)∨G l=some (Ob.lp (Vy r Code.ret))/\∀(r':Loop),False) X) X) X
theorem Aan w a b do_ H Q X(hyp_:R0 w a b do_ H Q X):Wp Y0 Ms Jc (w,a,b,do_,()) H Q X:=wF Tryz.f135 {lp:=[(6,⟨[(25,.one (.own I6)),(33,.one (.own I6)),(35,.nat)],[0,3,8,9,11,25,26,27,33,34],true⟩),(3,⟨[(25,.one (.own I6)),(27,.nat)],[0,3,8,9,25,26],true⟩)],im:=[5,6],il:=ilT} (by kernel_rfl) hyp_ (by kernel_rfl)
def Hn(w:Option Nat)(t:A6)(H:HY)(Q:Option Nat×Unit->UU)(X:PX):Prop:=∀(r:Nat),H r=none->∀(b:Nat),Ab H r (Ob.mp (Ty.int .i64) (Ty.int .i64) []) b=none->(t.Op=(1:Int)->(∃(x:Option Nat),Ab (Ab H r (Ob.mp (Ty.int .i64) (Ty.int .i64) [])) b (Ob.st Aq (some r)) b=some (Ob.st Aq x)/\x=x/\Wp Y0 Cw Cj (w,true,()) (Ab (Ab H r (Ob.mp (Ty.int .i64) (Ty.int .i64) [])) b (Ob.st Aq (some r))) (λ(b1:Int×Unit)_ G=>∃(r:Nat),x=some r/\∃(m:List (Int×Int)),G r=some (Ob.mp (Ty.int .i64) (Ty.int .i64) m)/\∃(x:Option Nat),Ab G r (Ob.mp (Ty.int .i64) (Ty.int .i64) (C4 m t.N b1.1)) b=some (Ob.st Aq x)/\x=x/\Q (x,()) () (Ab G r (Ob.mp (Ty.int .i64) (Ty.int .i64) (C4 m t.N b1.1)))) X)/\Wp Y0 Cw Cj (w,true,()) (Ab (Ab H r (Ob.mp (Ty.int .i64) (Ty.int .i64) [])) b (Ob.st Aq (some r))) (λ(b1:Int×Unit)_ G=>∃(x:Option Nat),G b=some (Ob.st Aq x)/\x=x/\∃(r:Nat),x=some r/\∃(m:List (Int×Int)),G r=some (Ob.mp (Ty.int .i64) (Ty.int .i64) m)/\∃(x:Option Nat),Ab G r (Ob.mp (Ty.int .i64) (Ty.int .i64) (C4 m t.N b1.1)) b=some (Ob.st Aq x)/\x=x/\Q (x,()) () (Ab G r (Ob.mp (Ty.int .i64) (Ty.int .i64) (C4 m t.N b1.1)))) X)/\(¬t.Op=(1:Int)->(t.Op=(3:Int)->∃(b1:Nat),w=some b1/\∃(x:Ap),Ab (Ab H r (Ob.mp (Ty.int .i64) (Ty.int .i64) [])) b (Ob.st Aq (some r)) b1=some (Ob.st C3 x)/\x=x/\Wp Y0 Je Gp (x.l,t.Name,()) (Ab (Ab H r (Ob.mp (Ty.int .i64) (Ty.int .i64) [])) b (Ob.st Aq (some r))) (λ(b2:Int×Unit)_ G=>∃(b3:Nat),w=some b3/\∃(x:Ap),G b3=some (Ob.st C3 x)/\(InK .i64 b2.1->(InK .i64 b2.1->0<=b2.1)/\∃(h:b2.1.toNat<x.l.Ag.length),x=x/\Wp Y0 Kr Iq (x.l.Ag[b2.1.toNat],()) G (λ(b4:Int×Int×Unit)_ G=>∃(V:Nat->Int×Unit->HP),(∃(n:Nat),V n (b4.1,()) G)/\∀(n:Nat)(x:Int×Unit)(H:HY),V n x H->(x.1<=b4.2.1->(∃(x1:Option Nat),H b=some (Ob.st Aq x1)/\x1=x1/\Wp Y0 Cr Ci (w,b2.1,x.1,decide (t.Op=(4:Int)),()) H (λ(b:Int×Unit)_ G=>∃(r:Nat),x1=some r/\∃(m:List (Int×Int)),G r=some (Ob.mp (Ty.int .i64) (Ty.int .i64) m)/\(InK .i64 x.1->InK .i64 (x.1+1)/\∃(m1:Nat),m1<n/\V m1 (x.1+1,()) (Ab G r (Ob.mp (Ty.int .i64) (Ty.int .i64) (C4 m x.1 b.1))))) X)/\Wp Y0 Cr Ci (w,b2.1,x.1,decide (t.Op=(4:Int)),()) H (λ(b5:Int×Unit)_ G=>∃(x1:Option Nat),G b=some (Ob.st Aq x1)/\x1=x1/\∃(r:Nat),x1=some r/\∃(m:List (Int×Int)),G r=some (Ob.mp (Ty.int .i64) (Ty.int .i64) m)/\(InK .i64 x.1->InK .i64 (x.1+1)/\∃(m1:Nat),m1<n/\V m1 (x.1+1,()) (Ab G r (Ob.mp (Ty.int .i64) (Ty.int .i64) (C4 m x.1 b5.1))))) X)/\(¬x.1<=b4.2.1->∃(x:Option Nat),H b=some (Ob.st Aq x)/\x=x/\Q (x,()) () H)) X)) X)/\(¬t.Op=(3:Int)->(t.Op=(4:Int)->∃(b1:Nat),w=some b1/\∃(x:Ap),Ab (Ab H r (Ob.mp (Ty.int .i64) (Ty.int .i64) [])) b (Ob.st Aq (some r)) b1=some (Ob.st C3 x)/\x=x/\Wp Y0 Je Gp (x.l,t.Name,()) (Ab (Ab H r (Ob.mp (Ty.int .i64) (Ty.int .i64) [])) b (Ob.st Aq (some r))) (λ(b2:Int×Unit)_ G=>∃(b3:Nat),w=some b3/\∃(x:Ap),G b3=some (Ob.st C3 x)/\(InK .i64 b2.1->(InK .i64 b2.1->0<=b2.1)/\∃(h:b2.1.toNat<x.l.Ag.length),x=x/\Wp Y0 Kr Iq (x.l.Ag[b2.1.toNat],()) G (λ(b4:Int×Int×Unit)_ G=>∃(V:Nat->Int×Unit->HP),(∃(n:Nat),V n (b4.1,()) G)/\∀(n:Nat)(x:Int×Unit)(H:HY),V n x H->(x.1<=b4.2.1->(∃(x1:Option Nat),H b=some (Ob.st Aq x1)/\x1=x1/\Wp Y0 Cr Ci (w,b2.1,x.1,decide (t.Op=(4:Int)),()) H (λ(b:Int×Unit)_ G=>∃(r:Nat),x1=some r/\∃(m:List (Int×Int)),G r=some (Ob.mp (Ty.int .i64) (Ty.int .i64) m)/\(InK .i64 x.1->InK .i64 (x.1+1)/\∃(m1:Nat),m1<n/\V m1 (x.1+1,()) (Ab G r (Ob.mp (Ty.int .i64) (Ty.int .i64) (C4 m x.1 b.1))))) X)/\Wp Y0 Cr Ci (w,b2.1,x.1,decide (t.Op=(4:Int)),()) H (λ(b5:Int×Unit)_ G=>∃(x1:Option Nat),G b=some (Ob.st Aq x1)/\x1=x1/\∃(r:Nat),x1=some r/\∃(m:List (Int×Int)),G r=some (Ob.mp (Ty.int .i64) (Ty.int .i64) m)/\(InK .i64 x.1->InK .i64 (x.1+1)/\∃(m1:Nat),m1<n/\V m1 (x.1+1,()) (Ab G r (Ob.mp (Ty.int .i64) (Ty.int .i64) (C4 m x.1 b5.1))))) X)/\(¬x.1<=b4.2.1->∃(x:Option Nat),H b=some (Ob.st Aq x)/\x=x/\Q (x,()) () H)) X)) X)/\(¬t.Op=(4:Int)->(t.Op=(18:Int)->(True->(0:Int)<=0)/\∃(h:Int.toNat (0:Int)<t.Kids.length),Wp Y0 Mr Jb (w,t.Kids[Int.toNat (0:Int)],()) (Ab (Ab H r (Ob.mp (Ty.int .i64) (Ty.int .i64) [])) b (Ob.st Aq (some r))) (λ(b1:Int×Unit)_ G=>∃(b2:Nat),w=some b2/\∃(x:Ap),G b2=some (Ob.st C3 x)/\x=x/\Wp Y0 Amg Abf (x.m,b1.1,()) G (λ(b3:Int×Int×Unit)_ G=>Wp Y0 Bh Be (w,b3.1,b3.2.1,()) G (λ(b4:Int×Unit)_ G=>∃(V:Nat->Nat×Unit->HP),(∃(n:Nat),V n (0,()) G)/\∀(n:Nat)(x:Nat×Unit)(H:HY),V n x H->(x.1<2->x.1<=9223372036854775807->∃(h:x.1<[b1.1,b4.1].length),x.1<=9223372036854775807->InK .i64 (1+(↑x.1:Int))/\(InK .i64 (1+(↑x.1:Int))->(InK .i64 (1+(↑x.1:Int))->(0:Int)<=1+(↑x.1:Int))/\∃(h1:(1+(↑x.1:Int)).toNat<t.Kids.length),Wp Y0 Ds C5 (w,t.Kids[(1+(↑x.1:Int)).toNat],()) H (λ(b5:Option Nat×Unit)_ G=>∀(b6:Nat),G b6=none->∀(l:Nat)(r:Loop),Ab G b6 (Ob.st Ak []) l=none->Wp Y0 Bl Bg (λ(a:Int×Unit)(H:HY)(Q:Bool×Unit->HP)(X:Nat->Lf Y0.D->HP)=>H l=some (Ob.lp r)/\H l=some (Ob.lp r)/\∃(x:List Int),Ab H l (Ob.lp (Dy r)) b6=some (Ob.st Ak x)/\(x.length+[a.1].length)*8<=(140737488355328:Nat)/\Ab (Ab H l (Ob.lp (Dy r))) b6 (Ob.st Ak (x++[a.1])) l=some (Ob.lp (Dy r))/\Q (true,()) (Ab (Ab (Ab H l (Ob.lp (Dy r))) b6 (Ob.st Ak (x++[a.1]))) l (Ob.lp r)),b5.1,()) (Ab (Ab G b6 (Ob.st Ak [])) l (Ob.lp r)) (λ(b7 io:Unit)(G:HY)=>(G l=some (Ob.lp r)/\∀(r':Loop),∃(x1:List Int),Ab G l (Ob.lp r') b6=some (Ob.st Ak x1)/\Wp Y0 Di Cv (x1,()) (Dp (Ab G l (Ob.lp r')) b6) (λ(b8:Unit)(io:List Int×Unit)(G:HY)=>io.1.length<=(9223372036854775807:Nat)->∃(V1:Nat->List Int×Nat×Unit->HP),(∃(n:Nat),V1 n (io.1,0,()) G)/\∀(n1:Nat)(x2:List Int×Nat×Unit)(H:HY),V1 n1 x2 H->(x2.2.1<io.1.length->x2.2.1<=(9223372036854775807:Nat)->∃(h2:x2.2.1<x2.1.length),∃(h3:x2.2.1<x2.1.length),∃(b9:Nat),w=some b9/\(∃(x3:Ap),H b9=some (Ob.st C3 x3)/\x3=x3/\∃(r:Nat),b5.1=some r/\∃(m:List (Int×Int)),H r=some (Ob.mp (Ty.int .i64) (Ty.int .i64) m)/\Wp Y0 D6 Du (x3.m,[(Ac m x2.1[x2.2.1]).getD (0:Int),[b1.1,b4.1][x.1]],()) H (λ(b10:Int×Int×Unit)_ G=>Wp Y0 Bh Be (w,b10.1,b10.2.1,()) G (λ(b11:Int×Unit)_ G=>∃(r:Nat),b5.1=some r/\∃(m:List (Int×Int)),G r=some (Ob.mp (Ty.int .i64) (Ty.int .i64) m)/\Wp Y0 Ao Al (w,[(Ac m x2.1[x2.2.1]).getD (0:Int)],()) G (λ(b12 io:Unit)(G:HY)=>∃(x:Option Nat),G b=some (Ob.st Aq x)/\x=x/\Wp Y0 C0 Cp (w,x,x2.1[x2.2.1],b11.1,()) G (λ(b io:Unit)(G:HY)=>x2.2.1+1<=(9223372036854775807:Nat)/\∃(m:Nat),m<n1/\V1 m (x2.1,x2.2.1+1,()) G) X) X) X) X)/\∃(r:Nat),b5.1=some r/\∃(m:List (Int×Int)),H r=some (Ob.mp (Ty.int .i64) (Ty.int .i64) m)/\dup (∃(x3:Ap),H b9=some (Ob.st C3 x3)/\x3=x3/\Wp Y0 D6 Du (x3.m,[(Ac m x2.1[x2.2.1]).getD (0:Int),[b1.1,b4.1][x.1]],()) H (λ(b10:Int×Int×Unit)_ G=>Wp Y0 Bh Be (w,b10.1,b10.2.1,()) G (λ(b11:Int×Unit)_ G=>∃(r:Nat),b5.1=some r/\∃(m:List (Int×Int)),G r=some (Ob.mp (Ty.int .i64) (Ty.int .i64) m)/\Wp Y0 Ao Al (w,[(Ac m x2.1[x2.2.1]).getD (0:Int)],()) G (λ(b12 io:Unit)(G:HY)=>∃(x:Option Nat),G b=some (Ob.st Aq x)/\x=x/\Wp Y0 C0 Cp (w,x,x2.1[x2.2.1],b11.1,()) G (λ(b io:Unit)(G:HY)=>x2.2.1+1<=(9223372036854775807:Nat)/\∃(m:Nat),m<n1/\V1 m (x2.1,x2.2.1+1,()) G) X) X) X) X))/\(¬x2.2.1<io.1.length->x.1+1<=(9223372036854775807:Nat)/\∃(m:Nat),m<n/\V m (x.1+1,()) H)) X)∨G l=some (Ob.lp (Vy r Code.ret))/\∀(r':Loop),False) X) X))/\(¬x.1<2->Wp Y0 Ao Al (w,[b1.1,b4.1],()) H (λ(b5 io:Unit)(G:HY)=>∃(x:Option Nat),G b=some (Ob.st Aq x)/\x=x/\Q (x,()) () G) X)) X) X) X)/\(¬t.Op=(18:Int)->(True->(0:Int)<=0)/\∃(h:Int.toNat (0:Int)<t.Kids.length),(True->(0:Int)<=1)/\∃(h1:Int.toNat (1:Int)<t.Kids.length),Wp Y0 Ms Jc (w,t.Kids[Int.toNat (0:Int)],t.Kids[Int.toNat (1:Int)],λ(a:Int×Int×Int×Unit)(H:HY)(Q:Unit->HP)(X:Nat->Lf Y0.D->HP)=>Wp Y0 Gf Eu (a.1,a.2.1,a.2.2.1,t,w,some b,()) H (λ(b x:Unit)(G:HY)=>Q () G) X,()) (Ab (Ab H r (Ob.mp (Ty.int .i64) (Ty.int .i64) [])) b (Ob.st Aq (some r))) (λ(b1 io:Unit)(G:HY)=>∃(x:Option Nat),G b=some (Ob.st Aq x)/\x=x/\Q (x,()) () G) X))))
theorem Kx w t H Q X(hyp_:Hn w t H Q X):Wp Y0 Ds C5 (w,t,()) H Q X:=wF Tryz.f60 {lp:=[(11,⟨[(9,.one (.dat I6))],[2,3,5,6,8],true⟩),(22,⟨[(111,.one (.own I6)),(113,.nat)],[2,3,5,10,11,13,14,96,97,111,112],true⟩),(18,⟨[(97,.nat)],[2,3,5,10,11,96],true⟩)],pr:=[(5,35)],im:=[2,3],il:=ilT,hd:=[(5,[5]),(13,[5])]} (by kernel_rfl) hyp_ (by kernel_rfl)
def Ts(m:Option Nat)(l:Ae)(t:A6)(H:HY)(Q:List Cm×Int×Unit->UU)(X:PX):Prop:=Wp Y0 Fm Ep (m,l,()) H (λ(b:Option Nat×Int×Unit)_ G=>(¬b.2.1=(0:Int)->Q ([],b.2.1,()) () G)/\(¬¬b.2.1=(0:Int)->Wp Y0 Lh Iz (l.Ag,t,true,()) G (λ(b1:Ai×Int×Unit)_ G=>(¬b1.2.1=(0:Int)->Q ([],b1.2.1,()) () G)/\(¬¬b1.2.1=(0:Int)->(b1.1.Bool=true->Q ([],13,()) () G)/\(¬b1.1.Bool=true->Wp Y0 Gu Fb (b.1,false,()) G (λ(b2:Int×Unit)_ G=>Wp Y0 Gu Fb (b.1,true,()) G (λ(b3:Int×Unit)_ G=>Wp Y0 Cg B8 (b.1,λ(a:Option Nat×List Int×Unit)(H:HY)(Q:Int×Int×Unit->HP)(X:Nat->Lf Y0.D->HP)=>Wp Y0 D6 Du (a.1,a.2.1,()) H (λ(b:Int×Int×Unit)(x:Unit)(G:HY)=>Q (b.1,b.2.1,()) G) X,[b2.1,b3.1],()) G (λ(b4:Int×Unit)_ G=>Wp Y0 Ds C5 (b.1,t,()) G (λ(b5:Option Nat×Unit)_ G=>∀(b6:Nat),G b6=none->∀(l:Nat)(r:Loop),Ab G b6 (Ob.st Ak []) l=none->Wp Y0 Bl Bg (λ(a:Int×Unit)(H:HY)(Q:Bool×Unit->HP)(X:Nat->Lf Y0.D->HP)=>H l=some (Ob.lp r)/\H l=some (Ob.lp r)/\∃(x:List Int),Ab H l (Ob.lp (Dy r)) b6=some (Ob.st Ak x)/\(x.length+[a.1].length)*8<=140737488355328/\Ab (Ab H l (Ob.lp (Dy r))) b6 (Ob.st Ak (x++[a.1])) l=some (Ob.lp (Dy r))/\Q (true,()) (Ab (Ab (Ab H l (Ob.lp (Dy r))) b6 (Ob.st Ak (x++[a.1]))) l (Ob.lp r)),b5.1,()) (Ab (Ab G b6 (Ob.st Ak [])) l (Ob.lp r)) (λ(b7 io:Unit)(G:HY)=>(G l=some (Ob.lp r)/\∀(r':Loop),∃(x:List Int),Ab G l (Ob.lp r') b6=some (Ob.st Ak x)/\Wp Y0 Di Cv (x,()) (Dp (Ab G l (Ob.lp r')) b6) (λ(b8:Unit)(io:List Int×Unit)(G:HY)=>io.1.length<=9223372036854775807->∃(V:Nat->List Cm×List Int×List Int×Nat×Unit->HP),(∃(n:Nat),V n ([],[],io.1,0,()) G)/\∀(n:Nat)(x:List Cm×List Int×List Int×Nat×Unit)(H:HY),V n x H->(x.2.2.2.1<io.1.length->x.2.2.2.1<=9223372036854775807->∃(h:x.2.2.2.1<x.2.2.1.length),∃(h:x.2.2.2.1<x.2.2.1.length),∃(r:Nat),b5.1=some r/\∃(m1:List (Int×Int)),H r=some (Ob.mp (Ty.int .i64) (Ty.int .i64) m1)/\Wp Y0 Si P1 (m,(Ac m1 x.2.2.1[x.2.2.2.1]).getD 0,b4.1,()) H (λ(b9:Bool×Int×Unit)_ G=>∃(b10:Nat),b.1=some b10/\∃(x1:Ap),G b10=some (Ob.st C3 x1)/\(x1.e=(0:Int)->(b9.1=true->∃(r:Nat),b5.1=some r/\∃(m:List (Int×Int)),Ab G b10 (Ob.st C3 {x1 with e:=b9.2.1}) r=some (Ob.mp (Ty.int .i64) (Ty.int .i64) m)/\(x.1.length+[{N:=x.2.2.1[x.2.2.2.1],H:=(Ac m x.2.2.1[x.2.2.2.1]).getD 0:Cm}].length)*(16:Nat)<=(140737488355328:Nat)/\∃(r:Nat),b5.1=some r/\∃(m2:List (Int×Int)),Ab G b10 (Ob.st C3 {x1 with e:=b9.2.1}) r=some (Ob.mp (Ty.int .i64) (Ty.int .i64) m2)/\(x.2.1.length+[(Ac m2 x.2.2.1[x.2.2.2.1]).getD (0:Int)].length)*(8:Nat)<=(140737488355328:Nat)/\x.2.2.2.1+1<=(9223372036854775807:Nat)/\∃(m3:Nat),m3<n/\V m3 (x.1++[{N:=x.2.2.1[x.2.2.2.1],H:=(Ac m x.2.2.1[x.2.2.2.1]).getD 0:Cm}],x.2.1++[(Ac m2 x.2.2.1[x.2.2.2.1]).getD (0:Int)],x.2.2.1,x.2.2.2.1+1,()) (Ab G b10 (Ob.st C3 {x1 with e:=b9.2.1})))/\(¬b9.1=true->x.2.2.2.1+1<=(9223372036854775807:Nat)/\∃(m:Nat),m<n/\V m (x.1,x.2.1,x.2.2.1,x.2.2.2.1+1,()) (Ab G b10 (Ob.st C3 {x1 with e:=b9.2.1}))))/\(¬x1.e=(0:Int)->(b9.1=true->x1=x1/\∃(r:Nat),b5.1=some r/\∃(m:List (Int×Int)),G r=some (Ob.mp (Ty.int .i64) (Ty.int .i64) m)/\(x.1.length+[{N:=x.2.2.1[x.2.2.2.1],H:=(Ac m x.2.2.1[x.2.2.2.1]).getD 0:Cm}].length)*(16:Nat)<=(140737488355328:Nat)/\∃(r:Nat),b5.1=some r/\∃(m2:List (Int×Int)),G r=some (Ob.mp (Ty.int .i64) (Ty.int .i64) m2)/\(x.2.1.length+[(Ac m2 x.2.2.1[x.2.2.2.1]).getD (0:Int)].length)*(8:Nat)<=(140737488355328:Nat)/\x.2.2.2.1+1<=(9223372036854775807:Nat)/\∃(m3:Nat),m3<n/\V m3 (x.1++[{N:=x.2.2.1[x.2.2.2.1],H:=(Ac m x.2.2.1[x.2.2.2.1]).getD 0:Cm}],x.2.1++[(Ac m2 x.2.2.1[x.2.2.2.1]).getD (0:Int)],x.2.2.1,x.2.2.2.1+1,()) G)/\(¬b9.1=true->x.2.2.2.1+1<=(9223372036854775807:Nat)/\∃(m:Nat),m<n/\x1=x1/\V m (x.1,x.2.1,x.2.2.1,x.2.2.2.1+1,()) G))) X)/\(¬x.2.2.2.1<io.1.length->Wp Y0 El Dw (b.1,x.2.1,()) H (λ(b:Int×Unit)_ G=>(¬b.1=(0:Int)->Q ([],b.1,()) () G)/\(¬¬b.1=(0:Int)->Q (x.1,0,()) () G)) X)) X)∨G l=some (Ob.lp (Vy r Code.ret))/\∀(r':Loop),False) X) X) X) X) X))) X)) X
theorem Zr m l t H Q X(hyp_:Ts m l t H Q X):Wp Y0 L5 Jt (m,l,t,()) H Q X:=wF Tryz.f30 {lp:=[(14,⟨[(13,.one (.own (.u 10))),(14,.one (.own I6)),(55,.one (.own I6)),(57,.nat)],[0,8,11,12,55,56],true⟩)],im:=[4,5],il:=ilT} (by kernel_rfl) hyp_ (by kernel_rfl)
def Zq(m:Option Nat)(l:Ae)(i:Int)(t:A6)(H:HY)(Q:Int×Int×Unit->UU)(X:PX):Prop:=Wp Y0 Fm Ep (m,l,()) H (λ(b:Option Nat×Int×Unit)_ G=>(¬b.2.1=(0:Int)->Q (0,b.2.1,()) () G)/\(¬¬b.2.1=(0:Int)->(i<0->Q (0,2,()) () G)/\(¬i<0->l.Ag.length<=9223372036854775807->((↑l.Ag.length:Int)<=i->Q (0,2,()) () G)/\(¬(↑l.Ag.length:Int)<=i->Wp Y0 Lh Iz (l.Ag,t,false,()) G (λ(b1:Ai×Int×Unit)_ G=>InK .i64 i->(InK .i64 i->0<=i)/\∃(h:i.toNat<l.Ag.length),(¬b1.2.1=(0:Int)->Q (0,b1.2.1,()) () G)/\(¬¬b1.2.1=(0:Int)->(not (decide (b1.1.Bool=true)==decide (l.Ag[i.toNat].Bool=true))=true->Q (0,13,()) () G)/\(¬not (decide (b1.1.Bool=true)==decide (l.Ag[i.toNat].Bool=true))=true->(l.Ag[i.toNat].Bool=true->Wp Y0 J9 Hj (l,i,()) G (λ(b2:List Int×Unit)_ G=>(True->(0:Int)<=0)/\∃(h:Int.toNat (0:Int)<b2.1.length),Wp Y0 Mr Jb (b.1,t,()) G (λ(b3:Int×Unit)_ G=>∃(b4:Nat),b.1=some b4/\∃(x:Ap),G b4=some (Ob.st C3 x)/\(x.e=(0:Int)->x=x/\Wp Y0 Amf Abe (m,b2.1[Int.toNat (0:Int)],()) G (λ(b5:Int×Int×Unit)_ G=>Wp Y0 Bh Be (b.1,b5.1,b5.2.1,()) G (λ(b6:Int×Unit)_ G=>Wp Y0 Cg B8 (b.1,λ(a:Option Nat×List Int×Unit)(H:HY)(Q:Int×Int×Unit->HP)(X:Nat->Lf Y0.D->HP)=>Wp Y0 Vj Qc (a.1,a.2.1,()) H (λ(b:Int×Int×Unit)(x:Unit)(G:HY)=>Q (b.1,b.2.1,()) G) X,[b3.1,b6.1],()) G (λ(b7:Int×Unit)_ G=>Wp Y0 El Dw (b.1,[b7.1],()) G (λ(b:Int×Unit)_ G=>Q (b7.1,b.1,()) () G) X) X) X) X)/\(¬x.e=(0:Int)->x=x/\Wp Y0 Cg B8 (b.1,λ(a:Option Nat×List Int×Unit)(H:HY)(Q:Int×Int×Unit->HP)(X:Nat->Lf Y0.D->HP)=>Wp Y0 Vj Qc (a.1,a.2.1,()) H (λ(b:Int×Int×Unit)(x:Unit)(G:HY)=>Q (b.1,b.2.1,()) G) X,[b3.1,0],()) G (λ(b5:Int×Unit)_ G=>Wp Y0 El Dw (b.1,[b5.1],()) G (λ(b:Int×Unit)_ G=>Q (b5.1,b.1,()) () G) X) X)) X) X)/\(¬l.Ag[i.toNat].Bool=true->Wp Y0 Cw Cj (b.1,false,()) G (λ(b2:Int×Unit)_ G=>Wp Y0 Ds C5 (b.1,t,()) G (λ(b3:Option Nat×Unit)_ G=>∀(b4:Nat),G b4=none->∀(l1:Nat)(r:Loop),Ab G b4 (Ob.st Ak []) l1=none->Wp Y0 Bl Bg (λ(a:Int×Unit)(H:HY)(Q:Bool×Unit->HP)(X:Nat->Lf Y0.D->HP)=>H l1=some (Ob.lp r)/\H l1=some (Ob.lp r)/\∃(x:List Int),Ab H l1 (Ob.lp (Dy r)) b4=some (Ob.st Ak x)/\(x.length+[a.1].length)*8<=140737488355328/\Ab (Ab H l1 (Ob.lp (Dy r))) b4 (Ob.st Ak (x++[a.1])) l1=some (Ob.lp (Dy r))/\Q (true,()) (Ab (Ab (Ab H l1 (Ob.lp (Dy r))) b4 (Ob.st Ak (x++[a.1]))) l1 (Ob.lp r)),b3.1,()) (Ab (Ab G b4 (Ob.st Ak [])) l1 (Ob.lp r)) (λ(b5 io:Unit)(G:HY)=>(G l1=some (Ob.lp r)/\∀(r':Loop),∃(x:List Int),Ab G l1 (Ob.lp r') b4=some (Ob.st Ak x)/\Wp Y0 Di Cv (x,()) (Dp (Ab G l1 (Ob.lp r')) b4) (λ(b6:Unit)(io:List Int×Unit)(G:HY)=>io.1.length<=9223372036854775807->∃(V:Nat->(ByteArray×Bool×Int×Int×Unit)×Int×List Int×Nat×Unit->HP),(∃(n:Nat),V n ((l.Ag[i.toNat].Name,l.Ag[i.toNat].Bool,l.Ag[i.toNat].Lo,l.Ag[i.toNat].Hi,()),b2.1,io.1,0,()) G)/\∀(n:Nat)(x:(ByteArray×Bool×Int×Int×Unit)×Int×List Int×Nat×Unit)(H:HY),V n x H->(x.2.2.2.1<io.1.length->x.2.2.2.1<=(9223372036854775807:Nat)->∃(h:x.2.2.2.1<x.2.2.1.length),∃(h:x.2.2.2.1<x.2.2.1.length),(x.1.2.2.1<=x.2.2.1[x.2.2.2.1]->(x.2.2.1[x.2.2.2.1]<=x.1.2.2.2.1->(∃(r:Nat),b3.1=some r/\∃(m:List (Int×Int)),H r=some (Ob.mp (Ty.int .i64) (Ty.int .i64) m)/\Wp Y0 Cr Ci (b.1,i,x.2.2.1[x.2.2.2.1],true,()) H (λ(b7:Int×Unit)_ G=>Wp Y0 Cg B8 (b.1,λ(a:Option Nat×List Int×Unit)(H:HY)(Q:Int×Int×Unit->HP)(X:Nat->Lf Y0.D->HP)=>Wp Y0 D6 Du (a.1,a.2.1,()) H (λ(b:Int×Int×Unit)(x:Unit)(G:HY)=>Q (b.1,b.2.1,()) G) X,[(Ac m x.2.2.1[x.2.2.2.1]).getD (0:Int),b7.1],()) G (λ(b8:Int×Unit)_ G=>Wp Y0 Cg B8 (b.1,λ(a:Option Nat×List Int×Unit)(H:HY)(Q:Int×Int×Unit->HP)(X:Nat->Lf Y0.D->HP)=>Wp Y0 Rs P0 (a.1,a.2.1,()) H (λ(b:Int×Int×Unit)(x:Unit)(G:HY)=>Q (b.1,b.2.1,()) G) X,[x.2.1,b8.1],()) G (λ(b:Int×Unit)_ G=>x.2.2.2.1+1<=(9223372036854775807:Nat)/\∃(m:Nat),m<n/\V m ((x.1.1,x.1.2.1,x.1.2.2.1,x.1.2.2.2.1,()),b.1,x.2.2.1,x.2.2.2.1+1,()) G) X) X) X)/\Wp Y0 Cr Ci (b.1,i,x.2.2.1[x.2.2.2.1],true,()) H (λ(b7:Int×Unit)_ G=>∃(r:Nat),b3.1=some r/\∃(m:List (Int×Int)),G r=some (Ob.mp (Ty.int .i64) (Ty.int .i64) m)/\Wp Y0 Cg B8 (b.1,λ(a:Option Nat×List Int×Unit)(H:HY)(Q:Int×Int×Unit->HP)(X:Nat->Lf Y0.D->HP)=>Wp Y0 D6 Du (a.1,a.2.1,()) H (λ(b:Int×Int×Unit)(x:Unit)(G:HY)=>Q (b.1,b.2.1,()) G) X,[(Ac m x.2.2.1[x.2.2.2.1]).getD (0:Int),b7.1],()) G (λ(b8:Int×Unit)_ G=>Wp Y0 Cg B8 (b.1,λ(a:Option Nat×List Int×Unit)(H:HY)(Q:Int×Int×Unit->HP)(X:Nat->Lf Y0.D->HP)=>Wp Y0 Rs P0 (a.1,a.2.1,()) H (λ(b:Int×Int×Unit)(x:Unit)(G:HY)=>Q (b.1,b.2.1,()) G) X,[x.2.1,b8.1],()) G (λ(b:Int×Unit)_ G=>x.2.2.2.1+1<=(9223372036854775807:Nat)/\∃(m:Nat),m<n/\V m ((x.1.1,x.1.2.1,x.1.2.2.1,x.1.2.2.2.1,()),b.1,x.2.2.1,x.2.2.2.1+1,()) G) X) X) X)/\(¬x.2.2.1[x.2.2.2.1]<=x.1.2.2.2.1->x.2.2.2.1+1<=(9223372036854775807:Nat)/\∃(m:Nat),m<n/\V m ((x.1.1,x.1.2.1,x.1.2.2.1,x.1.2.2.2.1,()),x.2.1,x.2.2.1,x.2.2.2.1+1,()) H))/\(¬x.1.2.2.1<=x.2.2.1[x.2.2.2.1]->x.2.2.2.1+1<=(9223372036854775807:Nat)/\∃(m:Nat),m<n/\V m ((x.1.1,x.1.2.1,x.1.2.2.1,x.1.2.2.2.1,()),x.2.1,x.2.2.1,x.2.2.2.1+1,()) H))/\(¬x.2.2.2.1<io.1.length->Wp Y0 El Dw (b.1,[x.2.1],()) H (λ(b:Int×Unit)_ G=>Q (x.2.1,b.1,()) () G) X)) X)∨G l1=some (Ob.lp (Vy r Code.ret))/\∀(r':Loop),False) X) X) X)))) X)))) X
theorem Ajb m l i t H Q X(hyp_:Zq m l i t H Q X):Wp Y0 To Pg (m,l,i,t,()) H Q X:=wF Tryz.f18 {lp:=[(23,⟨[(13,.blk [.dat .str,.dat .bool,.dat I6,.dat I6]),(18,.one (.dat I6)),(104,.one (.own I6)),(106,.nat)],[2,10,19,104,105],true⟩)],im:=[5,7],il:=ilT} (by kernel_rfl) hyp_ (by kernel_rfl)
end
end Go.Proofs.YtcbkbpjlbmalmaaGreatDoor
namespace Go.Proofs.YtcbkbpjlbmalmaaGreatDoor
open Go Go.X Go.Y Go.RowKit Go.Shelf
section
set_option maxRecDepth 100000
set_option maxHeartbeats 1000000
def Aua:Go.Shelf.Ren:=⟨fun|5=>138|8=>195|7=>194|19=>245|20=>246|10=>236|11=>237|12=>238|13=>239|14=>240|15=>241|16=>242|17=>243|18=>244|30=>260|31=>261|32=>262|33=>263|34=>264|35=>265|40=>277|n=>n,fun|23=>23|25=>3|3=>3|32=>237|22=>23|0=>0|44=>285|46=>183|4=>4|36=>279|35=>278|41=>47|5=>5|9=>9|53=>310|57=>314|63=>325|64=>82|n=>n,fun|n=>n⟩
theorem A21:Go.Proofs.SlLaysM.n5 Tryz.prog Aua:={
 mixed:=by kernel_rfl,
 f5:=⟨Tryz.f138.name,by decide,Tryz.func138.trans (congrArg some (by kernel_rfl))⟩,
 f7:=⟨Tryz.f194.name,by decide,Tryz.func194.trans (congrArg some (by kernel_rfl))⟩,
 f8:=Tryz.func195.trans (congrArg some (by kernel_rfl)),
 f10:=⟨Tryz.f236.name,by decide,Tryz.func236.trans (congrArg some (by kernel_rfl))⟩,
 f11:=⟨Tryz.f237.name,by decide,Tryz.func237.trans (congrArg some (by kernel_rfl))⟩,
 f12:=⟨Tryz.f238.name,by decide,Tryz.func238.trans (congrArg some (by kernel_rfl))⟩,
 f13:=⟨Tryz.f239.name,by decide,Tryz.func239.trans (congrArg some (by kernel_rfl))⟩,
 f14:=⟨Tryz.f240.name,by decide,Tryz.func240.trans (congrArg some (by kernel_rfl))⟩,
 f15:=⟨Tryz.f241.name,by decide,Tryz.func241.trans (congrArg some (by kernel_rfl))⟩,
 f16:=⟨Tryz.f242.name,by decide,Tryz.func242.trans (congrArg some (by kernel_rfl))⟩,
 f17:=⟨Tryz.f243.name,by decide,Tryz.func243.trans (congrArg some (by kernel_rfl))⟩,
 f18:=⟨Tryz.f244.name,by decide,Tryz.func244.trans (congrArg some (by kernel_rfl))⟩,
 f19:=Tryz.func245.trans (congrArg some (by kernel_rfl)),
 f20:=Tryz.func246.trans (congrArg some (by kernel_rfl)),
 f30:=⟨Tryz.f260.name,by decide,Tryz.func260.trans (congrArg some (by kernel_rfl))⟩,
 f31:=Tryz.func261.trans (congrArg some (by kernel_rfl)),
 f32:=Tryz.func262.trans (congrArg some (by kernel_rfl)),
 f33:=⟨Tryz.f263.name,by decide,Tryz.func263.trans (congrArg some (by kernel_rfl))⟩,
 f34:=⟨Tryz.f264.name,by decide,Tryz.func264.trans (congrArg some (by kernel_rfl))⟩,
 f35:=⟨Tryz.f265.name,by decide,Tryz.func265.trans (congrArg some (by kernel_rfl))⟩,
 f40:=⟨Tryz.f277.name,by decide,Tryz.func277.trans (congrArg some (by kernel_rfl))⟩,
 t0:=Tryz.underlying0,
 a0:=Tryz.isAgg0,
 z0:=Tryz.sizeOf0,
 v0:=Tryz.zeroValue0,
 t3:=Tryz.underlying3,
 a3:=Tryz.isAgg3,
 z3:=Tryz.sizeOf3,
 v3:=Tryz.zeroValue3,
 t4:=Tryz.underlying4,
 a4:=Tryz.isAgg4,
 z4:=Tryz.sizeOf4,
 v4:=Tryz.zeroValue4,
 t5:=Tryz.underlying5,
 a5:=Tryz.isAgg5,
 z5:=Tryz.sizeOf5,
 v5:=Tryz.zeroValue5,
 t9:=Tryz.underlying9,
 a9:=Tryz.isAgg9,
 z9:=Tryz.sizeOf9,
 v9:=Tryz.zeroValue9,
 t22:=Tryz.underlying23,
 a22:=Tryz.isAgg23,
 z22:=Tryz.sizeOf23,
 v22:=Tryz.zeroValue23,
 t23:=Tryz.underlying23,
 a23:=Tryz.isAgg23,
 z23:=Tryz.sizeOf23,
 v23:=Tryz.zeroValue23,
 t25:=Tryz.underlying3,
 a25:=Tryz.isAgg3,
 z25:=Tryz.sizeOf3,
 v25:=Tryz.zeroValue3,
 t32:=Tryz.underlying237,
 a32:=Tryz.isAgg237,
 z32:=Tryz.sizeOf237,
 v32:=Tryz.zeroValue237,
 t35:=Tryz.underlying278,
 a35:=Tryz.isAgg278,
 z35:=Tryz.sizeOf278,
 v35:=Tryz.zeroValue278,
 t36:=Tryz.underlying279,
 a36:=Tryz.isAgg279,
 z36:=Tryz.sizeOf279,
 v36:=Tryz.zeroValue279,
 t41:=Tryz.underlying47,
 a41:=Tryz.isAgg47,
 z41:=Tryz.sizeOf47,
 v41:=Tryz.zeroValue47,
 t44:=Tryz.underlying285,
 a44:=Tryz.isAgg285,
 z44:=Tryz.sizeOf285,
 v44:=Tryz.zeroValue285,
 t46:=Tryz.underlying183,
 a46:=Tryz.isAgg183,
 z46:=Tryz.sizeOf183,
 v46:=Tryz.zeroValue183,
 t53:=Tryz.underlying310,
 a53:=Tryz.isAgg310,
 z53:=Tryz.sizeOf310,
 v53:=Tryz.zeroValue310,
 t57:=Tryz.underlying314,
 a57:=Tryz.isAgg314,
 z57:=Tryz.sizeOf314,
 v57:=Tryz.zeroValue314,
 t63:=Tryz.underlying325,
 a63:=Tryz.isAgg325,
 z63:=Tryz.sizeOf325,
 v63:=Tryz.zeroValue325,
 t64:=Tryz.underlying82,
 a64:=Tryz.isAgg82,
 z64:=Tryz.sizeOf82,
 v64:=Tryz.zeroValue82}
theorem Ang{I:Reg}{W:World}{A T:Own}{v:Value}{xs:List Int}(ho:OSl Y0 (.int .i64) I W A v xs)(hs:St I W (A++T))(hmax:xs.length<4611686018427387904):Calls Y0.P 138 #[v] W λe w'=>e=.returned (.tuple #[])/\∃A',Ext I W I w'/\St I w' (A'++T)/\OSl Y0 (.int .i64) I w' A' v (xs.mergeSort λx y=>decide (x<=y)):=by
 rcases @Cc.ex _ (RT Y0.toUS (.int .i64)) _ _ _ _ _ ho with ⟨rfl,rfl,rfl⟩|⟨b,arr,cap,e0,off,rfl,rfl,h3,h4,h5,h6⟩
 .have key:=Go.Proofs.AnyM.slices_Sort_int_none (P:=Y0.P) A21 none 0 W;change Calls Y0.P 138 _ _ _ at key;refine Calls.mono key λe w'⟨he,hw⟩=>⟨he,[],?_⟩
  subst hw;exact⟨Ext.refl _ _,hs,by simpa using ho⟩
 .letI:Rep (den Y0.D (.int .i64)):=RT Y0.toUS (.int .i64)
  have hsz:Rep.size (den Y0.D (.int .i64))=1:=rfl;have cell:∀j(hj:j<xs.length),arr[off+j]?=some (.int .i64 xs[j])/\InK .i64 xs[j]:=λj hj=>by
   obtain⟨u,hu,hc⟩:=h6 j hj;have hu':=Bq.1 (show rp Y0.toUS (.int .i64) I W u xs[j] from hu);have:=hc 0 (by rw[hu'.1];exact Nat.one_pos);rw[hsz,hu'.1]at this;refine⟨?_,hu'.2⟩;have e:off+(j*1+0)=off+j:=by omega
   rw[<-e];exact this
  have hb:=hs.heap;have hblk:b<W.heap.size:=(Array.getElem?_eq_some_iff.1 hb).1;have hH:Go.Sort.Holds (Value.int .i64) W b off xs.toArray:=by
   intro j hj;have hj':j<xs.length:=by simpa using hj
   refine⟨?_,by simp [World.frozen?,hb]⟩;rw[B6 hb,getElem!_pos xs.toArray j hj];exact(cell j hj').1
  have key:=Go.Proofs.AnyM.slices_Sort_int (P:=Y0.P) A21 b off cap xs W hH hblk hmax;change Calls Y0.P 138 _ _ _ at key;refine key.mono λe w'⟨he,n,os,hw⟩=>⟨he,?_⟩
  have hperm:(xs.mergeSort λx y=>decide (x<=y)).Perm xs:=List.mergeSort_perm _ _;generalize hys:(xs.mergeSort λx y=>decide (x<=y))=ys at hperm hw;have hl:ys.length=xs.length:=hperm.length_eq;let arr':Array Value:=Go.Sort.putCells (Value.int .i64) off ys.toArray arr;have harr':arr'.size=arr.size:=by simp [arr',Go.Sort.putCells]
  refine⟨[(b,.cells arr' e0 (0,0))],?_⟩;obtain⟨x1,s1⟩:=hs.write (w':=Go.Sort.putRow (Value.int .i64) (Go.Sort.ahead W n) b off ys.toArray) (o':=.cells arr' e0 (0,0)) rfl rfl rfl (by simp [Go.Sort.putRow,Go.Sort.mapBlock,Go.Sort.ahead]) (by
   show (W.heap.modify b _)[b]?=_;rw[Array.getElem?_modify,if_pos rfl,hb];rfl) (λc hc=>by
   show (W.heap.modify b _)[c]?=_;rw[Array.getElem?_modify,if_neg (Ne.symm hc)])
  obtain⟨x2,s2⟩:=Awg os s1;subst hw;refine⟨x1.trans x2,s2,⟨.inr ⟨b,arr',cap,e0,off,rfl,congrArg (λn=>Value.slice (some ⟨b,off,none⟩) n cap) hl.symm,Nat.le_trans (Nat.le_of_eq hl) h3,h4,by rw[harr'];exact h5,λj hj=>?_⟩⟩⟩;have hin:InK .i64 ys[j]:=by obtain⟨i,hi,e⟩:=List.mem_iff_getElem.1 (hperm.mem_iff.1 (List.getElem_mem hj));rw[<-e];exact(cell i hi).2
  refine⟨.int .i64 ys[j],Bq.2 ⟨rfl,hin⟩,λi hi=>?_⟩;have hi2:i=0:=by have:i<1:=hi;omega
  subst hi2;show arr'[off+(j*1+0)]?=some (Value.int .i64 ys[j]);have hlt:off+(j*1+0)<arr.size:=by have h5':off+cap*1<=arr.size:=h5;omega
  simp only[arr',Go.Sort.putCells,Array.getElem?_mapIdx,Array.getElem?_eq_getElem hlt,Option.map_some];have hr:off<=off+(j*1+0)/\off+(j*1+0)<off+ys.toArray.size:=by
   refine⟨by omega,?_⟩;have:ys.toArray.size=ys.length:=by simp
   omega
  rw[if_pos hr];have e1:off+(j*1+0)-off=j:=by omega
  rw[e1,getElem!_pos ys.toArray j (by simpa using hj)];simp
theorem Aes{x:List Int}{H:HY}{X:PX}{Q:Unit->List Int×Unit->HP}(hmax:x.length<4611686018427387904)(h:Q () (x.mergeSort λa b=>decide (a<=b),()) H):Wp Y0 Di Cv (x,()) H Q X:=by intro I w T A AH vs hA hH hs;obtain⟨v,vs',A1,A2,rfl,rfl,ho,rfl,rfl⟩:=hA;have key:=Ang (T:=AH++T) ho (hs.perm (by simpa using List.perm_append_comm_assoc AH A1 T)) hmax;refine Calls.mono key λe w'⟨he,A',he1,he2,he3⟩=>.inl ⟨_,I,he,he1,AH,A',H,?_,hH.mono he1,(),(x.mergeSort λa b=>decide (a<=b),()),[],[],A',rfl,rfl,⟨rfl,rfl⟩,⟨v,[],A',[],rfl,by simp,he3,rfl⟩,h⟩;exact he2.perm (List.perm_append_comm_assoc A' AH T)
end
end Go.Proofs.YtcbkbpjlbmalmaaGreatDoor
