/-
  One pair of values. (Merged by program out of 12 texts.)
-/
import Derived.Test.YtcbkbpjlbmalmaaGreatDoorpax
import Derived.Test.YtcbkbpjlbmalmaaGreatDoorpan
namespace Go.Proofs.YtcbkbpjlbmalmaaGreatDoor
open Go Go.X Go.Y
section
abbrev YL(l c:Nat)(r:Loop):FT Y0 [.int .i64] [.bool]:=λ(a:Int×Unit)(H:HY)(Q:Bool×Unit->HP)(X:Nat->Lf Y0.D->HP)=>H l=some (Ob.lp r)/\H l=some (Ob.lp r)/\∃(x:List Int),Ab H l (Ob.lp (Dy r)) c=some (Ob.st Ak x)/\(x.length+[a.1].length)*8<=140737488355328/\Ab (Ab H l (Ob.lp (Dy r))) c (Ob.st Ak (x++[a.1])) l=some (Ob.lp (Dy r))/\Q (true,()) (Ab (Ab (Ab H l (Ob.lp (Dy r))) c (Ob.st Ak (x++[a.1]))) l (Ob.lp r))
variable {b l c:Nat} {r:Loop} {m:List (Int×Int)} {H0:HY} {X:PX} {Q:Unit->UU}
theorem Akb{g:Int×Int->Int}(hb:H0 b=some (.mp (.int .i64) (.int .i64) m))(hc:H0 c=none)(hl:H0 l=none)(hlc:l≠c)(hm:m.length<=1000000)(h:∀x:List Int,x.Perm (m.map g)->Q () () (Ab (Ab H0 c (Ob.st Ak x)) l (Ob.lp r))):∃(V:List (Int×Int)->UU),(True/\V m () (Dp (Ab (Ab H0 c (Ob.st Ak [])) l (Ob.lp r)) b))/\∀(left:List (Int×Int))(x:Unit)(H:HY),V left x H->(left=[]->Q () () (Ab H b (Ob.mp (Ty.int .i64) (Ty.int .i64) m)))/\∀(l1:List (Int×Int))(p:Int×Int)(l2:List (Int×Int)),left=l1++p::l2->YL l c r (g p,()) H (λ(b_1:Bool×Unit)(H':HY)=>(¬b_1.1=true->Q () () (Ab H' b (Ob.mp (Ty.int .i64) (Ty.int .i64) m)))/\(¬¬b_1.1=true->True/\V (l1++l2) () H')) X:=by
 have hbc:b≠c:=λe=>by subst e;rw[hb]at hc;cases hc
 have hbl:b≠l:=λe=>by subst e;rw[hb]at hl;cases hl
 refine⟨λleft _ H=>∃x:List Int,H=Dp (Ab (Ab H0 c (Ob.st Ak x)) l (Ob.lp r)) b/\(x++left.map g).Perm (m.map g),⟨trivial,[],rfl,by simp⟩,?_⟩;rintro left u H ⟨x,rfl,hp⟩;refine⟨λe=>?_,λl1 p l2 e=>?_⟩
 .subst e;have e1:Ab (Dp (Ab (Ab H0 c (Ob.st Ak x)) l (Ob.lp r)) b) b (Ob.mp (Ty.int .i64) (Ty.int .i64) m)=Ab (Ab H0 c (Ob.st Ak x)) l (Ob.lp r):=by
   funext k;by_cases e:k=b
   .subst e;simp [Ab,Dp,hbc,hbl,hb]
   .simp [Ab,Dp,e]
  rw[e1];exact h x (by simpa using hp)
 .subst e;have hlen:x.length<=1000000:=by have:=hp.length_eq;simp only[List.length_append,List.length_map]at this;omega
  refine⟨by simp [Ab,Dp,Ne.symm hbl],by simp [Ab,Dp,Ne.symm hbl],x,by simp [Ab,Dp,Ne.symm hbc,Ne.symm hlc],by simp;omega,by simp [Ab,hlc],λhn=>absurd rfl hn,λ_=>⟨trivial,x++[g p],?_,?_⟩⟩
  .funext k;by_cases e1:k=l
   .subst e1;simp [Ab,Dp,Ne.symm hbl]
   .by_cases e2:k=c
    .subst e2;simp [Ab,Dp,e1,Ne.symm hbc]
    .simp [Ab,Dp,e1,e2]
  .refine List.Perm.trans ?_ hp;simp only[List.map_append,List.map_cons,List.append_assoc,List.singleton_append,List.cons_append,List.nil_append];exact List.Perm.append_left x List.perm_middle.symm
theorem Aya(hb:H0 b=some (.mp (.int .i64) (.int .i64) m))(hc:H0 c=none)(hl:H0 l=none)(hlc:l≠c)(hm:m.length<=1000000)(h:∀x:List Int,x.Perm (m.map (·.1))->Q () () (Ab (Ab H0 c (Ob.st Ak x)) l (Ob.lp r))):Wp Y0 Bl Bg (YL l c r,some b,()) (Ab (Ab H0 c (Ob.st Ak [])) l (Ob.lp r)) Q X:=by
 have hbc:b≠c:=λe=>by subst e;rw[hb]at hc;cases hc
 have hbl:b≠l:=λe=>by subst e;rw[hb]at hl;cases hl
 refine Ng _ _ _ _ _ ?_;unfold G4;exact⟨b,rfl,m,by simp [Ab,hbc,hbl,hb],trivial,Akb hb hc hl hlc hm h⟩
theorem Ap3(hb:H0 b=some (.mp (.int .i64) (.int .i64) m))(hc:H0 c=none)(hl:H0 l=none)(hlc:l≠c)(hm:m.length<=1000000)(h:∀x:List Int,x.Perm (m.map (·.2))->Q () () (Ab (Ab H0 c (Ob.st Ak x)) l (Ob.lp r))):Wp Y0 Bx Bp (YL l c r,some b,()) (Ab (Ab H0 c (Ob.st Ak [])) l (Ob.lp r)) Q X:=by
 have hbc:b≠c:=λe=>by subst e;rw[hb]at hc;cases hc
 have hbl:b≠l:=λe=>by subst e;rw[hb]at hl;cases hl
 refine L0 _ _ _ _ _ ?_;unfold Gi;exact⟨b,rfl,m,by simp [Ab,hbc,hbl,hb],trivial,Akb hb hc hl hlc hm h⟩
def Bu(m:List (Int×Int)):List Int:=(m.map (·.1)).mergeSort λa b=>decide (a<=b)
theorem Abu{x y:List Int}(h:x.Perm y):(x.mergeSort λa b=>decide (a<=b))=y.mergeSort λa b=>decide (a<=b):=by
 refine List.Perm.eq_of_pairwise (le:=λa b=>a<=b) (λa b _ _ h1 h2=>by omega) ?_ ?_ ((List.mergeSort_perm x _).trans (h.trans (List.mergeSort_perm y _).symm))
 .exact(List.pairwise_mergeSort (by intro a b c;simp;omega) (by intro a b;simp;omega) x).imp (by simp)
 .exact(List.pairwise_mergeSort (by intro a b c;simp;omega) (by intro a b;simp;omega) y).imp (by simp)
theorem L9(m:List (Int×Int)):(Bu m).Perm (m.map (·.1)):=List.mergeSort_perm _ _
theorem Ac8(m:List (Int×Int)):(Bu m).length=m.length:=by rw[(L9 m).length_eq,List.length_map]
theorem Sy{H:HY}{D:Nat->Nat->Loop->HP}{P:Nat->Nat->Loop->Unit->List Int×Unit->HP}(hb:H b=some (.mp (.int .i64) (.int .i64) m))(hm:m.length<=1000000)(h:∀c l r r',H l=none->P c l r () (Bu m,()) (Ab H l (Ob.lp r'))):∀(c:Nat),H c=none->∀(l:Nat)(r:Loop),Ab H c (Ob.st Ak []) l=none->Wp Y0 Bl Bg (YL l c r,some b,()) (Ab (Ab H c (Ob.st Ak [])) l (Ob.lp r)) (λ(b_3 io:Unit)(H':HY)=>(H' l=some (Ob.lp r)/\∀(r':Loop),∃(x:List Int),Ab H' l (Ob.lp r') c=some (Ob.st Ak x)/\Wp Y0 Di Cv (x,()) (Dp (Ab H' l (Ob.lp r')) c) (P c l r) X)∨D c l r H') X:=by
 intro c hc l r hl;have hlc:l≠c:=λe=>by subst e;simp [Ab]at hl
 have hl':H l=none:=by rw[Ab,if_neg hlc]at hl;exact hl
 refine Aya hb hc hl' hlc hm λx hx=>.inl ⟨by simp [Ab],λr'=>⟨x,by simp [Ab,Ne.symm hlc],?_⟩⟩;have e1:Dp (Ab (Ab (Ab H c (Ob.st Ak x)) l (Ob.lp r)) l (Ob.lp r')) c=Ab H l (Ob.lp r'):=by
  funext k;by_cases e:k=c
  .subst e;simp [Ab,Dp,Ne.symm hlc,hc]
  .simp only[Ab,Dp,e,if_false];split<;>rfl
 rw[e1];refine Aes (by have:=hx.length_eq;rw[List.length_map]at this;omega) ?_;rw[Abu hx];exact h c l r r' hl'
end
section
set_option maxRecDepth 100000
set_option maxHeartbeats 2000000
def Ug(w:Option Nat)(Cq:List Int)(H:HY)(Q:Int×Unit->UU)(X:PX):Prop:=
 ∃(b:Nat),w=some b/\∃(x:Ap),H b=some (Ob.st C3 x)/\((if 0=0 then some (Seg.blk (Y:=Y0) [AV.dat Ty.ptr x.m,AV.dat (Ty.u 0).sl x.l.Ag,AV.dat (Ty.int .i64).sl x.l.Bits,AV.dat (Ty.int .i64).sl x.l.At,AV.own (1),AV.dat
 (Ty.int .i64) x.e]) else none)=some (Seg.blk (Y:=Y0) [AV.dat Ty.ptr x.m,AV.dat (Ty.u 0).sl x.l.Ag,AV.dat (Ty.int .i64).sl x.l.Bits,AV.dat (Ty.int .i64).sl x.l.At,AV.own (1),AV.dat (Ty.int .i64) x.e])/\True)/\∃(V:List (Int×Bool)->UU),
 ({i:=0,b:=b,n:=1,x:=none:Opn Y0}={i:=0,b:=b,n:=1,x:=none:Opn Y0}/\((if 0=0 then some (Seg.blk (Y:=Y0) [AV.dat Ty.ptr x.m,AV.dat (Ty.u 0).sl x.l.Ag,AV.dat (Ty.int .i64).sl x.l.Bits,AV.dat (Ty.int .i64).sl x.l.At,AV.own
 (1),AV.dat (Ty.int .i64) x.e]) else none)=some (Seg.blk (Y:=Y0) [AV.dat Ty.ptr x.m,AV.dat (Ty.u 0).sl x.l.Ag,AV.dat (Ty.int .i64).sl x.l.Bits,AV.dat (Ty.int .i64).sl x.l.At,AV.own (1),AV.dat (Ty.int .i64) x.e])/\True)/\V x.live () H)/\∀(left :
 List (Int×Bool)) (x_1:Unit) (H_1:HY),V left x_1 H_1->(left=[]->Q (x.e,()) () (Ab H_1 b (Ob.st C3 x)))/\∀(l1:List (Int×Bool))(p:Int×Bool)(l2:List (Int×Bool)),left=l1++p::l2->(¬x.e=(0:Int)->Wp Y0 Ht Gg (x.m,
 [p.1],()) (Dp H_1 b) (λ(b_1:Int×Unit)io H'=>H' b=none->{i:=0,b:=b,n:=1,x:=none:Opn Y0}={i:=0,b:=b,n:=1,x:=none:Opn Y0}/\((if 2=0 then some (Seg.tp (Y:=Y0) [AV.dat (Ty.int .i64) p.1,
 AV.dat Ty.bool p.2]) else if 0=0 then some (Seg.blk (Y:=Y0) [AV.dat Ty.ptr x.m,AV.dat (Ty.u 0).sl x.l.Ag,AV.dat (Ty.int .i64).sl x.l.Bits,AV.dat (Ty.int .i64).sl x.l.At,if 1=4 then AV.dat (Ty.int .i64).sl [p.1] else AV.own (nat_lit
 1),AV.dat (Ty.int .i64) x.e]) else none)=some (Seg.blk (Y:=Y0) [AV.dat Ty.ptr x.m,AV.dat (Ty.u 0).sl x.l.Ag,AV.dat (Ty.int .i64).sl x.l.Bits,AV.dat (Ty.int .i64).sl x.l.At,AV.own (1),AV.dat (Ty.int .i64) x.e])/\True)/\V (l1++l2) () (Kk H' b (H_1 b))) X)
 /\(¬¬x.e=(0:Int)->Wp Y0 G6 E4 (Cq,p.1,()) (Dp H_1 b) (λ(b_1:Bool×Unit)io H'=>H' b=none->(¬b_1.1=true->Wp Y0 Ht Gg (x.m,[p.1],()) (Dp (Kk H' b (H_1 b))
 b) (λ(b_2:Int×Unit)(io_1:Unit)(H'_1:HY)=>H'_1 b=none->{i:=0,b:=b,n:=1,x:=none:Opn Y0}={i:=0,b:=b,n:=1,x:=none:Opn Y0}/\((if 2=0 then some (Seg.tp (Y:=Y0) [AV.dat (Ty.int .i64) p.1,AV.dat Ty.bool p.2])
 else if 0=0 then some (Seg.blk (Y:=Y0) [AV.dat Ty.ptr x.m,AV.dat (Ty.u 0).sl x.l.Ag,AV.dat (Ty.int .i64).sl x.l.Bits,AV.dat (Ty.int .i64).sl x.l.At,if 1=4 then AV.dat (Ty.int .i64).sl [p.1] else AV.own (1),AV.dat (Ty.int
 .i64) x.e]) else none)=some (Seg.blk (Y:=Y0) [AV.dat Ty.ptr x.m,AV.dat (Ty.u 0).sl x.l.Ag,AV.dat (Ty.int .i64).sl x.l.Bits,AV.dat (Ty.int .i64).sl x.l.At,AV.own (1),AV.dat (Ty.int .i64) x.e])/\True)/\V (l1++l2) () (Kk H'_1 b (Kk H' b (H_1 b) b))) X)/\
 (¬¬b_1.1=true->{i:=0,b:=b,n:=1,x:=none:Opn Y0}={i:=0,b:=b,n:=1,x:=none:Opn Y0}/\((if 2=0 then some (Seg.tp (Y:=Y0) [AV.dat (Ty.int .i64) p.1,AV.dat Ty.bool p.2]) else if 0=0 then some (Seg.blk (Y
 :=Y0) [AV.dat Ty.ptr x.m,AV.dat (Ty.u 0).sl x.l.Ag,AV.dat (Ty.int .i64).sl x.l.Bits,AV.dat (Ty.int .i64).sl x.l.At,AV.own (1),AV.dat (Ty.int .i64) x.e]) else none)=some (Seg.blk (Y:=Y0) [AV.dat Ty.ptr x.m,AV.dat (Ty.u 0).sl x.l.Ag,AV.dat (Ty.int .i64).sl
 x.l.Bits,AV.dat (Ty.int .i64).sl x.l.At,AV.own (1),AV.dat (Ty.int .i64) x.e])/\True)/\V (l1++l2) () (Kk H' b (H_1 b)))) X)
theorem Ad1 w Cq H Q X(hyp_:Ug w Cq H Q X):Wp Y0 El Dw (w,Cq,()) H Q X:=wFS Tryz.f43 {lp:=[(2,⟨[],[0,1,10],true⟩)],oc:=[32,23]} (by kernel_rfl) hyp_ (by kernel_rfl)
def Lk(s:List Int)(v:Int)(H:HY)(Q:Bool×Unit->UU)(X:PX):Prop:=Wp Y0 Jd Gb (s,v,()) H (λ(b:Int×Unit)_ G=>Q (decide (0<=b.1),()) () G) X
theorem R4 s v H Q X(hyp_:Lk s v H Q X):Wp Y0 G6 E4 (s,v,()) H Q X:=wF Tryz.f109 {} (by kernel_rfl) hyp_ (by kernel_rfl)
def Nn(s:List Int)(v:Int)(H:HY)(Q:Int×Unit->UU)(X:PX):Prop:=s.length<=9223372036854775807->∃(V:Nat->Int×Unit->Prop),(∃(n:Nat),H=H/\V n (0,()))/\∀(n:Nat)(x:Int×Unit),V n x->(x.1<(↑s.length:Int)->InK .i64 x.1->(InK .i64 x.1->0<=x.1)/\∃(h:x.1.toNat<s.length),(v=s[x.1.toNat]->Q (x.1,()) () H)/\(¬v=s[x.1.toNat]->InK .i64 x.1->InK .i64 (x.1+1)/\∃(m:Nat),m<n/\H=H/\V m (x.1+1,())))/\(¬x.1<(↑s.length:Int)->Q (-1,()) () H)
theorem Uo s v H Q X(hyp_:Nn s v H Q X):Wp Y0 Jd Gb (s,v,()) H Q X:=wF Tryz.f173 {lp:=[(2,⟨[(8,.one (.dat I6))],[0,1,7],false⟩)]} (by kernel_rfl) hyp_ (by kernel_rfl)
end
section
variable {H:HY} {X:PX}
theorem Au5{s:List Int}{v:Int}{Q:Int×Unit->UU}(hs:s.length<=1000000)(h:∀i:Int,(0<=i↔v∈s)->Q (i,()) () H):Wp Y0 Jd Gb (s,v,()) H Q X:=by
 refine Uo _ _ _ _ _ ?_;unfold Nn;refine λ_=>⟨λn z=>∃k:Nat,z.1=(k:Int)/\k<=s.length/\n=s.length-k/\v∉s.take k,⟨s.length,rfl,0,rfl,Nat.zero_le _,rfl,by simp⟩,?_⟩
 rintro n ⟨i,u⟩ ⟨k,hi0,hk,hn,hv⟩;have hi:i=(k:Int):=hi0;subst hi;clear hi0;have t0:((k:Int)).toNat=k:=by omega
 refine⟨λhlt hin=>?_,λhlt=>?_⟩
 .have hlt:(k:Int)<(s.length:Int):=hlt;have hks:k<s.length:=by omega
  have ge:∀(hh:((k:Int)).toNat<s.length),s[((k:Int)).toNat]=s[k]:=λhh=>by congr 1
  refine⟨λ_=>by show 0<=(k:Int);omega,by show ((k:Int)).toNat<_;omega,λe=>?_,λe _=>?_⟩
  .refine h _ ⟨λ_=>?_,λ_=>by omega⟩;have e:v=s[((k:Int)).toNat]:=e;rw[e];exact List.getElem_mem _
  .have e:¬v=s[((k:Int)).toNat]'(by omega):=e;refine⟨Bk.2 (by show _<=(k:Int)+1/\(k:Int)+1<=_;omega),s.length-(k+1),by omega,rfl,k+1,by show (k:Int)+1=_;omega,hks,rfl,?_⟩;rw[List.take_succ_eq_append_getElem hks,List.mem_append,List.mem_singleton];rintro(h1|h1)
   .exact hv h1
   .exact e (h1.trans (ge _).symm)
 .have hlt:¬(k:Int)<(s.length:Int):=hlt;refine h _ ⟨λh=>absurd h (by decide),λhm=>absurd ?_ hv⟩;rw[List.take_of_length_le (by omega)];exact hm
theorem Amp{s:List Int}{v:Int}{Q:Bool×Unit->UU}(hs:s.length<=1000000)(h:Q (decide (v∈s),()) () H):Wp Y0 G6 E4 (s,v,()) H Q X:=by refine R4 _ _ _ _ _ ?_;unfold Lk;refine Au5 hs λi hi=>?_;have:decide ((0:Int)<=i)=decide (v∈s):=decide_eq_decide.2 hi;show Q (decide ((0:Int)<=i),()) () H;rw[this];exact h
theorem MG.at_{H':HY}{b c:Nat}{M:Mn}(h:MG H b M)(n:K0 b M c)(e:∀d,d≠c->H' d=H d):MG H' b M:=by
 refine⟨⟨?_,⟨?_,?_,?_,h.h.st.nd,λv hv=>?_⟩,?_⟩,h.i,h.v,h.e,h.n8,h.rm⟩
 .rw[e _ n.b.symm];exact h.h.ob
 .rw[e _ n.sb.symm];exact h.h.st.st
 .rw[e _ n.bl.symm];exact h.h.st.lv
 .rw[e _ n.bp.symm];exact h.h.st.po
 .rw[e _ λe=>n.tb (by rw[<-e];exact List.getElem_mem hv)];exact h.h.st.ta v hv
 .rw[e _ n.mb.symm];exact h.h.me
structure Az6(M0 M M':Mn)(lv:List (Int×Bool))(Cq:List Int):Prop where
 bs:F8 M M'
 nx:M'.nx=M.nx
 Ba:∀k,M'.Ba k=if (Ac lv k).isSome=true/\k∉Cq then none else M.Ba k
 ln:M'.hs.length=M0.hs.length+(lv.filter λp=>decide (p.1∈Cq)).length
theorem Ad8{wb b:Nat}{M0 M:Mn}{L:Ae}{lv:List (Int×Bool)}{Cq:List Int}{Q:Int×Unit->UU}(w:WK H wb b M0 M L lv)(hn:M.nx<576460752303423486)(hk:Cq.length<=1000000)(h:∀M' H',MG H' b M'->Az6 M0 M M' lv Cq->FrW wb b M H H'->Q (0,()) () H'):Wp Y0 El Dw (some wb,Cq,()) H Q X:=by
 refine Ad1 _ _ _ _ _ ?_;unfold Ug;let V:List (Int×Bool)->HP:=λleft H'=>∃M',H' wb=H wb/\MG H' b M'/\F8 M M'/\M'.nx=M.nx/\(left.map (·.1)).Nodup/\(∀p∈left,p∈lv)/\(∀k,M'.Ba k=if (Ac lv k).isSome=true/\k∉Cq/\k∉left.map (·.1) then none else M.Ba k)/\M'.hs.length+(left.filter λp=>decide (p.1∈Cq)).length=M0.hs.length+left.length+(lv.filter λp=>decide (p.1∈Cq)).length/\FrW wb b M H H';have hsome:∀p∈lv,(Ac lv p.1).isSome=true:=λp hp=>by rw[Lz w.nd hp];rfl
 have hmean0:∀k,M.Ba k=if (Ac lv k).isSome=true/\k∉Cq/\k∉lv.map (·.1) then none else M.Ba k:=λk=>by rw[if_neg];rintro⟨h1,_,h3⟩;rw[Nb.2 h3]at h1;cases h1
 have hV0:V lv H:=⟨M,rfl,w.mg,⟨rfl,rfl,rfl,rfl,rfl⟩,rfl,w.nd,λ_ h=>h,hmean0,by have:=w.ln;omega,.refl⟩
 refine⟨wb,rfl,_,w.ob,⟨rfl,trivial⟩,λleft _ H'=>V left H',⟨rfl,⟨rfl,trivial⟩,hV0⟩,?_⟩;rintro left u H1 ⟨M',hob,g,bs,nx,nd,sub,Ba,ln,fr⟩;have hob1:H1 wb=some (.st C3 ({m:=some b,l:=L,live:=lv,e:=0}:Ap)):=hob.trans w.ob;have hset1:Ab H1 wb (.st C3 ({m:=some b,l:=L,live:=lv,e:=0}:Ap))=H1:=by
  funext c;unfold Ab;split
  .rename_i e;rw[e,hob1]
  .rfl
 have wn:K0 b M' wb:=w.wn.same bs;refine⟨λe=>?_,λl1 p l2 e=>⟨λhe=>absurd rfl he,λ_=>?_⟩⟩
 .subst e;show Q (0,()) () (Ab H1 wb _);rw[hset1];refine h M' H1 g ⟨bs,nx,λk=>?_,by simpa using ln⟩ fr;rw[Ba];simp
 .subst e;have hpm:p∈lv:=sub p (by simp);have nd':p.1∉(l1++l2).map (·.1)/\((l1++l2).map (·.1)).Nodup:=by have h1:((p::(l1++l2)).map (·.1)).Nodup:=((List.perm_middle (l₁:=l1) (a:=p) (l₂:=l2)).map λx=>x.1).nodup_iff.1 nd;rw[List.map_cons,List.nodup_cons]at h1;exact h1
  have hkeys:∀k,k∈(l1++p::l2).map (·.1)↔k=p.1∨k∈(l1++l2).map (·.1):=λk=>by
   simp only[List.map_append,List.map_cons,List.mem_append,List.mem_cons];constructor
   .rintro(a|a|a)
    .exact .inr (.inl a)
    .exact .inl a
    .exact .inr (.inr a)
   .rintro(a|a|a)
    .exact .inr (.inl a)
    .exact .inl a
    .exact .inr (.inr a)
  have hfl:((l1++p::l2).filter λp=>decide (p.1∈Cq)).length=((l1++l2).filter λp=>decide (p.1∈Cq)).length+if p.1∈Cq then 1 else 0:=by
   simp only[List.filter_append,List.length_append,List.filter_cons];by_cases hp:p.1∈Cq
   .simp [hp];omega
   .simp [hp]
  have hll:(l1++p::l2).length=(l1++l2).length+1:=by simp;omega
  have sub':∀q∈l1++l2,q∈lv:=λq hq=>sub q (by
   rcases List.mem_append.1 hq with a|a
   .exact List.mem_append_left _ a
   .exact List.mem_append_right _ (List.mem_cons_of_mem _ a))
  have res:∀{H':HY}{o:Option (Ob Y0)},Kk H' wb o wb=o:=λ{H' o}=>if_pos rfl;have gd:MG (Dp H1 wb) b M':=g.at_ wn λd hd=>by unfold Dp;rw[if_neg hd]
  refine Amp hk λhd0=>⟨λhc=>?_,λhc=>?_⟩
  .have hnk:p.1∉Cq:=λhm=>hc (decide_eq_true hm);have hlv:=w.live (hsome p hpm);obtain⟨g1,g2,g3,F,hF⟩:=hlv;have hF':M'.Ba p.1=some F:=by rw[Ba,if_neg λhh=>hh.2.2 ((hkeys p.1).2 (.inl rfl))];exact hF
   have e1:Dp (Kk (Dp H1 wb) wb (H1 wb)) wb=Dp H1 wb:=by
    funext c;by_cases e:c=wb
    .simp [Dp,Kk,e]
    .simp [Dp,Kk,e]
   rw[e1];refine Abz (M:=M') gd (by omega) g3 hF' λM2 H2 e g2' gn f2 hnone=>⟨rfl,⟨rfl,trivial⟩,M2,?_,?_,bs.trans gn.bs,gn.nx.trans nx,nd'.2,sub',λk=>?_,?_,?_⟩
   .show Kk H2 wb (Kk (Dp H1 wb) wb (H1 wb) wb) wb=_;rw[res,res];exact hob
   .exact g2'.at_ (wn.same gn.bs) λd hd=>by unfold Kk;rw[if_neg hd]
   .rw[gn.Ba,Ba];by_cases hkp:k=p.1
    .subst hkp;rw[if_pos rfl,if_pos ⟨hsome p hpm,hnk,nd'.1⟩]
    .rw[if_neg hkp];refine ite_congr (propext ⟨λhh=>⟨hh.1,hh.2.1,λhm=>hh.2.2 ((hkeys k).2 (.inr hm))⟩,λhh=>⟨hh.1,hh.2.1,λhm=>((hkeys k).1 hm).elim hkp hh.2.2⟩⟩) (λ_=>rfl) (λ_=>rfl)
   .have:=gn.ln;rw[if_neg hnk]at hfl;omega
   .refine fr.trans λc a0 a1 a2=>?_;show Kk H2 wb _ c=H1 c;unfold Kk;rw[if_neg a1];have:=f2.at (c:=c) (by unfold Dp;rw[if_neg a1];exact a0) (a2.same bs);rw[this];unfold Dp;rw[if_neg a1]
  .have hnk:p.1∈Cq:=Classical.byContradiction λhm=>hc λhh=>hm (of_decide_eq_true hh);have e1:Kk (Dp H1 wb) wb (H1 wb)=H1:=by
    funext c;by_cases e:c=wb
    .simp [Dp,Kk,e]
    .simp [Dp,Kk,e]
   refine⟨rfl,⟨rfl,trivial⟩,M',?_,?_,bs,nx,nd'.2,sub',λk=>?_,?_,?_⟩
   .show Kk (Dp H1 wb) wb (H1 wb) wb=_;rw[e1];exact hob
   .show MG (Kk (Dp H1 wb) wb (H1 wb)) b M';rw[e1];exact g
   .rw[Ba];refine ite_congr (propext ⟨λhh=>⟨hh.1,hh.2.1,λhm=>hh.2.2 ((hkeys k).2 (.inr hm))⟩,λhh=>⟨hh.1,hh.2.1,λhm=>((hkeys k).1 hm).elim (λe=>hh.2.1 (e▸hnk)) hh.2.2⟩⟩) (λ_=>rfl) (λ_=>rfl)
   .rw[if_pos hnk]at hfl;omega
   .show FrW wb b M H (Kk (Dp H1 wb) wb (H1 wb));rw[e1];exact fr
end
section
variable {H:HY} {X:PX}
theorem Qy{l:Ae}{Q:Option Nat×Int×Unit->UU}(h:Q (none,5,()) () H):Wp Y0 Fm Ep (none,l,()) H Q X:=by refine Tq _ _ _ _ _ ?_;unfold Pt;exact⟨λ_=>h,λhn=>absurd rfl hn⟩
variable {L:Ae}
theorem Xk{b:Nat}{M:Mn}{Q:Option Nat×Int×Unit->UU}(hM:MG H b M)(hL:R5 L)(h9:M.S.n<2*Iv L->Q (none,9,()) () H)(h0:2*Iv L<=M.S.n->∀wb H',H wb=none->WK H' wb b M M L []->(∀c,c≠wb->H' c=H c)->Q (some wb,0,()) () H'):Wp Y0 Fm Ep (some b,L,()) H Q X:=by
 refine Tq _ _ _ _ _ ?_;unfold Pt;have h1:=hL.sum (Nat.le_refl _);have hln:=hL.ln;have hlb:=hL.lb;refine⟨λhn=>absurd hn (by simp),λ_=>P5 hM.h hM.i (Acl hL λ_=>⟨Bk.2 ?_,λhlt=>h9 hlt,λhlt wb hwb=>?_⟩)⟩
 .show _<=2*Iv L/\2*Iv L<=_;unfold Iv;omega
 .have hlt:¬(M.S.n:Int)<2*Iv L:=hlt;have hnn:K0 b M wb:=hM.h.notM hwb;have none_:∀k,M.nx<=k->M.Ba k=none:=λk hk=>by
   cases e:M.Ba k with
   |none=>rfl
   |some F=>
    obtain⟨x,hx,_⟩:=Mn.Ju e;have:=(hM.i.ok k x hx).2.2;omega
  refine h0 (by omega) wb _ hwb ⟨Aj _ _ _,hM.at_ hnn λd hd=>Ad _ _ hd,⟨rfl,rfl,rfl,rfl,rfl⟩,?_,Int.le_refl _,by simp [mnd],by simp,λk _=>⟨rfl,rfl⟩,λk hk=>⟨λhs=>absurd hs (by simp [Ac]),λhs=>absurd (none_ k hk) hs⟩,by simp⟩ λc hc=>Ad _ _ hc;obtain⟨x,hx,_⟩:=Mn.Ju hM.i.A3c;have:=(hM.i.ok 1 x hx).2.2;omega
theorem Vl{v:Bi}{Q:Int×Int×Unit->UU}(h:Q (if v.Bool=true then 0 else v.Lo,if v.Bool=true then 1 else v.Hi,()) () H):Wp Y0 Kr Iq (v,()) H Q X:=by
 refine Ah1 _ _ _ _ ?_;unfold Xj;refine⟨λhb=>?_,λhb=>?_⟩
 .rw[if_pos hb,if_pos hb]at h;exact h
 .rw[if_neg hb,if_neg hb]at h;exact h
def Avk(n:Int)(k:Nat):Bool:=decide (D0 BinOp.and .i64 (n.fdiv (2^min ((k:Int)).toNat 64)) (1:Int)=(1:Int))
def Sa(vars:List Int)(n:Int):List Ck:=(List.range vars.length).map λ(k:Nat)=>{Var:=vars.getD k 0,Yes:=Avk n k}
theorem Xu(vars:List Int)(n:Int):(Sa vars n).length=vars.length:=by unfold Sa;simp
variable {n:Int}
theorem Xv{vars:List Int}{k:Nat}(h:k<vars.length):(Sa vars n)[k]?=some {Var:=vars[k],Yes:=Avk n k}:=by unfold Sa;rw[List.getElem?_map,List.getElem?_range h];simp [List.getD_eq_getElem?_getD,List.getElem?_eq_getElem h]
theorem Af5{vars:List Int}:(Sa vars n).map (·.Var)=vars:=by
 apply List.ext_getElem?;intro k;rw[List.getElem?_map];by_cases h:k<vars.length
 .rw[Xv h,List.getElem?_eq_getElem h];rfl
 .rw[List.getElem?_eq_none (by rw[Xu];omega),List.getElem?_eq_none (by omega)];rfl
def Lu(L:Ae)(i:Nat)(next:Bool):List Int:=if next=true then (Wu L i).map (·+1) else Wu L i
def Qn(L:Ae)(i:Nat)(n:Int):Int:=match L.Ag[i]? with
 |some v=>if v.Bool=true then n else n-v.Lo
 |none=>n
variable {i:Nat}
theorem Asn:(Wu L i).Nodup:=by unfold Wu;refine List.Pairwise.map _ ?_ (List.nodup_range (n:=((L.Bits[i]?).getD 0).toNat));intro a c hac h;have h:2*((L.At[i]?).getD 0+(a:Int))=2*((L.At[i]?).getD 0+(c:Int)):=h;omega
theorem Af4(hL:R5 L)(hi:i<L.Ag.length){next:Bool}:(Lu L i next).length<=30/\(Lu L i next).Nodup/\∀v∈Lu L i next,0<=v/\v<2*Iv L:=by
 unfold Lu;split
 .refine⟨by rw[List.length_map];exact Ags hL hi,List.Pairwise.map _ (λa c hac h=>by have h:a+1=c+1:=h;exact hac (by omega)) (Asn (L:=L) (i:=i)),λv hv=>?_⟩;obtain⟨u,hu,rfl⟩:=List.mem_map.1 hv;have:=Agr hL hi hu;show 0<=u+1/\u+1<_;omega
 .refine⟨Ags hL hi,Asn,λv hv=>?_⟩;have:=Agr hL hi hv;omega
theorem Ak0{wb b:Nat}{M0 M:Mn}{lv:List (Int×Bool)}{next:Bool}{Q:Int×Unit->UU}(w:WK H wb b M0 M L lv)(hn:M.nx<576460752303423487)(hl:M.hs.length<=60000)(hL:R5 L)(hi:i<L.Ag.length)(hfit:2*Iv L<=M.S.n)(hN:InK .i64 (Qn L i n))(h:∀M' lv' H',WK H' wb b M0 M' L lv'->F8 M M'->Used M M' lv lv' [] (Hv (Sa (Lu L i next) (Qn L i n)))->FrW wb b M H H'->Q (M.nx,()) () H'):Wp Y0 Cr Ci (some wb,(i:Int),n,next,()) H Q X:=by
 refine Acr _ _ _ _ _ _ _ ?_;unfold Sp;have t0:((i:Int)).toNat=i:=by omega
 obtain⟨v1,v2,v3⟩:=Af4 hL hi (next:=next);have hgo:∀vars:List Int,vars=Lu L i next->∀(M_:List Int×Unit->HP),(M_=λx H1=>x.1=vars/\H1=H)->M_ (vars,()) H:=λvars _ M_ hM=>by subst hM;exact⟨rfl,rfl⟩
 refine⟨wb,rfl,_,w.ob,rfl,Ahk hL hi ⟨λx H1=>x.1=Lu L i next/\H1=H,?_,λhx=>⟨_,w.ob,rfl,Ao5 hL hi ⟨by unfold Lu;rw[if_pos hx],rfl⟩⟩,λhx=>⟨by unfold Lu;rw[if_neg hx],rfl⟩⟩⟩;rintro⟨vars,u⟩ H1 ⟨hv,rfl⟩;have hv:vars=Lu L i next:=hv;subst hv;refine⟨_,w.ob,λ_=>⟨λ_=>by omega,by show ((i:Int)).toNat<L.Ag.length;omega,rfl,λx H2=>x.1=Qn L i n/\H2=H1,?_,λhb=>?_,λhb=>?_⟩⟩
 .rintro⟨N,u2⟩ H2 ⟨hNn,rfl⟩;have hNn:N=Qn L i n:=hNn;subst hNn;generalize Lu L i next=vars at *;generalize Qn L i n=N at *;refine λ_ _ _=>⟨by omega,rfl,by show ((vars.length:Int)).toNat*16<=_;omega,λ_=>⟨λm z H3=>m=vars.length-z.2.1/\z.2.1<=vars.length/\H3=H2/\z.1.length=vars.length/\∀j,j<z.2.1->z.1[j]?=(Sa vars N)[j]?,⟨_,rfl,Nat.zero_le _,rfl,by simp,λj hj=>absurd hj (Nat.not_lt_zero _)⟩,?_⟩⟩
  rintro m ⟨s,k,u3⟩ H3 ⟨hm0,hk0,rfl,hs0,hj0⟩;have hm:m=vars.length-k:=hm0;have hk:k<=vars.length:=hk0;have hs:s.length=vars.length:=hs0;have hj:∀j,j<k->s[j]?=(Sa vars N)[j]?:=hj0;clear hm0 hk0 hs0 hj0;refine⟨λhkl _=>?_,λhkl=>?_⟩
  .have hkl:k<vars.length:=hkl;refine⟨hkl,λ_ _=>⟨λ_=>hN,by show (0:Int)<=(k:Int);omega,λ_ _=>⟨by show k<s.length;omega,by show k<s.length;omega,by show k+1<=_;omega,vars.length-(k+1),by omega,rfl,by show k+1<=_;omega,rfl,by show (s.set k _).length=_;rw[List.length_set];exact hs,λj hj2=>?_⟩⟩⟩;have hj2:j<k+1:=hj2;show (s.set k _)[j]?=_;rw[List.getElem?_set];by_cases e:k=j
   .subst e;rw[if_pos rfl,if_pos (by omega),Xv hkl];rfl
   .rw[if_neg e];exact hj j (by omega)
  .have hkl:¬k<vars.length:=hkl;have hk2:k=vars.length:=by omega
   have hs2:s=Sa vars N:=by
    apply List.ext_getElem?;intro j;by_cases e:j<vars.length
    .exact hj j (by omega)
    .rw[List.getElem?_eq_none (by omega),List.getElem?_eq_none (by rw[Xu];omega)]
   refine⟨_,w.ob,rfl,?_⟩;show Wp Y0 O1 Mc (some b,s,()) H3 _ X;rw[hs2];refine Ape w.mg hn hl (by rw[Xu];omega) (λt ht=>?_) (by rw[Af5];exact v2) λM' H' g nw f=>V4 w g nw f λlv' H'' w2 bs us fr=>h M' lv' H'' w2 bs us fr;have hm:t.Var∈(Sa vars N).map (·.Var):=List.mem_map_of_mem ht;rw[Af5]at hm;have:=v3 _ hm;omega
 .have hb:¬(L.Ag[((i:Int)).toNat]'(by omega)).Bool=true:=hb;refine⟨_,w.ob,λ_=>⟨λ_=>by omega,by show ((i:Int)).toNat<L.Ag.length;omega,λ_ _=>?_⟩⟩;have e:Qn L i n=n-(L.Ag[((i:Int)).toNat]'(by omega)).Lo:=by unfold Qn;simp only[t0]at hb ⊢;rw[List.getElem?_eq_getElem hi];simp only;rw[if_neg hb]
  exact⟨by rw[<-e];exact hN,rfl,e.symm,rfl⟩
 .have hb:¬¬(L.Ag[((i:Int)).toNat]'(by omega)).Bool=true:=hb;have e:Qn L i n=n:=by unfold Qn;simp only[t0]at hb;rw[List.getElem?_eq_getElem hi];simp only;rw[if_pos (Classical.not_not.1 hb)]
  exact⟨e.symm,rfl⟩
end
section
structure Has(Mb M:Mn)(lvb lv:List (Int×Bool))(hs:List (Int×B.Fn)):Prop where
 nb:∀k,Mb.nx<=k->Ac lvb k=none/\Mb.Ba k=none
 nd:(hs.map (·.1)).Nodup
 ge:∀p∈hs,Mb.nx<=p.1/\p.1<M.nx
 get:∀k,Ac lv k=if k∈hs.map (·.1) then some true else Ac lvb k
 Ba:∀p∈hs,M.Ba p.1=some p.2
 old:∀k,k∉hs.map (·.1)->M.Ba k=Mb.Ba k
 len:lv.length=lvb.length+hs.length
 nx:Mb.nx<=M.nx
variable {M:Mn} {lv:List (Int×Bool)}
theorem WK.has{H:HY}{wb b:Nat}{M0:Mn}{L:Ae}(w:WK H wb b M0 M L lv):Has M M lv lv []:=⟨λ_ hk=>w.nl hk,by simp,by simp,by simp,by simp,λ_ _=>rfl,rfl,Int.le_refl _⟩
variable {l:List Int}
theorem Aq0{ks:List Int}(hk:ks.Nodup)(hl:l.Nodup)(hs:∀k∈l,k∈ks):(ks.filter λk=>decide (k∉l)).length+l.length=ks.length:=by
 have h1:(ks.filter λk=>decide (k∈l)).Perm l:=by refine(List.perm_ext_iff_of_nodup (hk.filter _) hl).2 λa=>?_;rw[List.mem_filter];exact⟨λh=>of_decide_eq_true h.2,λh=>⟨hs a h,decide_eq_true h⟩⟩
 have h2:=List.length_eq_countP_add_countP (λk=>decide (k∈l)) (l:=ks);rw[List.countP_eq_length_filter,List.countP_eq_length_filter,h1.length_eq]at h2;have h3:(ks.filter λa=>decide ¬(λk=>decide (k∈l)) a=true)=ks.filter λk=>decide (k∉l):=by congr 1;funext a;simp
 rw[h3]at h2;omega
variable {hs:List (Int×B.Fn)}
theorem Qf:(hs.filter λp=>decide (p.1∉l)).map (·.1)=(hs.map (·.1)).filter λk=>decide (k∉l):=by rw[List.filter_map];rfl
variable {Mb:Mn} {lvb:List (Int×Bool)}
theorem Has.use{M':Mn}{lv':List (Int×Bool)}{F:B.Fn}(h:Has Mb M lvb lv hs)(u:Used M M' lv lv' l F)(hl:l.Nodup)(hsub:∀k∈l,k∈hs.map (·.1)):Has Mb M' lvb lv' ((M.nx,F)::hs.filter λp=>decide (p.1∉l)):=by
 have key:∀k,k∈((M.nx,F)::hs.filter λp=>decide (p.1∉l)).map (·.1)↔k=M.nx∨(k∈hs.map (·.1)/\k∉l):=λk=>by rw[List.map_cons,List.mem_cons,Qf,List.mem_filter];simp
 have lt:∀k∈hs.map (·.1),Mb.nx<=k/\k<M.nx:=λk hk=>by obtain⟨p,hp,rfl⟩:=List.mem_map.1 hk;exact h.ge p hp
 have nx:=u.nx;refine⟨h.nb,?_,λp hp=>?_,λk=>?_,λp hp=>?_,λk hk=>?_,?_,by have:=h.nx;omega⟩
 .rw[List.map_cons,List.nodup_cons,Qf];refine⟨λhm=>?_,h.nd.filter _⟩;have:=(lt _ (List.mem_filter.1 hm).1).2;have:M.nx<M.nx:=this;omega
 .rcases List.mem_cons.1 hp with e|e
  .subst e;have:=h.nx;exact⟨this,by show M.nx<_;omega⟩
  .have:=h.ge p (List.mem_filter.1 e).1;omega
 .rw[u.get];by_cases e:k=M.nx
  .rw[if_pos e,if_pos ((key k).2 (.inl e))]
  .rw[if_neg e];by_cases e2:k∈l
   .rw[if_pos e2,if_neg λhm=>((key k).1 hm).elim e λhh=>hh.2 e2];exact((h.nb k (lt k (hsub k e2)).1).1).symm
   .rw[if_neg e2,h.get];by_cases e3:k∈hs.map (·.1)
    .rw[if_pos e3,if_pos ((key k).2 (.inr ⟨e3,e2⟩))]
    .rw[if_neg e3,if_neg λhm=>((key k).1 hm).elim e λhh=>e3 hh.1]
 .rcases List.mem_cons.1 hp with e|e
  .subst e;show M'.Ba M.nx=_;rw[u.Ba,if_pos rfl]
  .obtain⟨e1,e2⟩:=List.mem_filter.1 e;have e2:p.1∉l:=of_decide_eq_true e2;have:=(h.ge p e1).2;rw[u.Ba,if_neg (by omega),if_neg λhh=>e2 hh.1];exact h.Ba p e1
 .have hk':=λhh=>hk ((key k).2 hh);rw[u.Ba,if_neg λe=>hk' (.inl e)];by_cases e2:k∈l
  .have hm:=hsub k e2;rw[if_pos ⟨e2,by rw[h.get,if_pos hm];rfl⟩];exact((h.nb k (lt k hm).1).2).symm
  .rw[if_neg λhh=>e2 hh.1];exact h.old k λhm=>hk' (.inr ⟨hm,e2⟩)
 .have h1:=u.len hl λk hk=>by rw[h.get,if_pos (hsub k hk)];rfl
  have h2:=Aq0 h.nd hl hsub;rw[<-Qf,List.length_map,List.length_map]at h2;have h3:=h.len;rw[List.length_cons];omega
theorem Has.perm{hs':List (Int×B.Fn)}(h:Has Mb M lvb lv hs)(p:hs'.Perm hs):Has Mb M lvb lv hs':=by have pk:∀k,k∈hs'.map (·.1)↔k∈hs.map (·.1):=λk=>(p.map _).mem_iff;refine⟨h.nb,((p.map _).nodup_iff).2 h.nd,λq hq=>h.ge q (p.mem_iff.1 hq),λk=>?_,λq hq=>h.Ba q (p.mem_iff.1 hq),λk hk=>h.old k λhm=>hk ((pk k).2 hm),by rw[p.length_eq];exact h.len,h.nx⟩;rw[h.get];exact ite_congr (propext (pk k).symm) (λ_=>rfl) (λ_=>rfl)
theorem Has.push{M':Mn}{lv':List (Int×Bool)}{F:B.Fn}(h:Has Mb M lvb lv hs)(u:Used M M' lv lv' [] F):Has Mb M' lvb lv' ((M.nx,F)::hs):=by have:=h.use u List.nodup_nil (by simp);have e:(hs.filter λp=>decide (p.1∉([]:List Int)))=hs:=List.filter_eq_self.2 (by simp);rw[e]at this;exact this
theorem Has.two{Mb M M':Mn}{lvb lv lv':List (Int×Bool)}{hs:List (Int×B.Fn)}{a c:Int}{Fa Fc F:B.Fn}(h:Has Mb M lvb lv ((a,Fa)::(c,Fc)::hs))(u:Used M M' lv lv' [a,c] F):Has Mb M' lvb lv' ((M.nx,F)::hs):=by
 have nd:=h.nd;simp only[List.map_cons,List.nodup_cons,List.mem_cons,not_or]at nd;have:=h.use u (by simp [nd.1.1]) (by simp);have e:(((a,Fa)::(c,Fc)::hs).filter λp=>decide (p.1∉[a,c]))=hs:=by
  rw[List.filter_cons_of_neg (by simp),List.filter_cons_of_neg (by simp)];refine List.filter_eq_self.2 λp hp=>decide_eq_true λhm=>?_;have hk:p.1∈hs.map (·.1):=List.mem_map_of_mem hp;rcases List.mem_cons.1 hm with e|e
  .exact nd.1.2 (e▸hk)
  .rw[List.mem_singleton]at e;exact nd.2.1 (e▸hk)
 rw[e]at this;exact this
end
section
structure Wk(Hb H:HY)(wb b:Nat)(M0 Mb M:Mn)(L:Ae)(lvb lv:List (Int×Bool))(hs:List (Int×B.Fn)):Prop where
 w:WK H wb b M0 M L lv
 h:Has Mb M lvb lv hs
 f:FrW wb b M0 Hb H
variable {H:HY} {wb b:Nat} {M0 M:Mn} {L:Ae} {lv:List (Int×Bool)}
theorem Wk.of(w:WK H wb b M0 M L lv):Wk H H wb b M0 M M L lv lv []:=⟨w,w.has,.refl⟩
variable {Hb:HY} {Mb:Mn} {lvb:List (Int×Bool)} {hs:List (Int×B.Fn)}
theorem Wk.ln(k:Wk Hb H wb b M0 Mb M L lvb lv hs):M.hs.length=M0.hs.length+lvb.length+hs.length:=by have:=k.w.ln;have:=k.h.len;omega
theorem Wk.step{H':HY}{M':Mn}{lv':List (Int×Bool)}{hs':List (Int×B.Fn)}(k:Wk Hb H wb b M0 Mb M L lvb lv hs)(w:WK H' wb b M0 M' L lv')(h:Has Mb M' lvb lv' hs')(f:FrW wb b M H H'):Wk Hb H' wb b M0 Mb M' L lvb lv' hs':=⟨w,h,k.f.trans (f.same k.w.bs)⟩
theorem Wk.perm{hs':List (Int×B.Fn)}(k:Wk Hb H wb b M0 Mb M L lvb lv hs)(p:hs'.Perm hs):Wk Hb H wb b M0 Mb M L lvb lv hs':=⟨k.w,k.h.perm p,k.f⟩
theorem Wk.const{yes:Bool}{X:PX}{Q:Int×Unit->UU}(k:Wk Hb H wb b M0 Mb M L lvb lv hs)(hn:M.nx<576460752303423486)(h:∀M' lv' H',Wk Hb H' wb b M0 Mb M' L lvb lv' ((M.nx,λ_=>yes)::hs)->M'.nx=M.nx+1->Q (M.nx,()) () H'):Wp Y0 Cw Cj (some wb,yes,()) H Q X:=Ac0 k.w hn λM' lv' H' w2 _ u f=>h M' lv' H' (k.step w2 (k.h.push u) f) u.nx
variable {next:Bool}
theorem Wk.Aqa{i:Nat}{n:Int}{X:PX}{Q:Int×Unit->UU}(k:Wk Hb H wb b M0 Mb M L lvb lv hs)(hn:M.nx<576460752303423486)(hl:M.hs.length<=60000)(hL:R5 L)(hi:i<L.Ag.length)(hfit:2*Iv L<=M.S.n)(hN:InK .i64 (Qn L i n))(h:∀M' lv' H',Wk Hb H' wb b M0 Mb M' L lvb lv' ((M.nx,Hv (Sa (Lu L i next) (Qn L i n)))::hs)->M'.nx=M.nx+1->Q (M.nx,()) () H'):Wp Y0 Cr Ci (some wb,(i:Int),n,next,()) H Q X:=
 Ak0 k.w (by omega) hl hL hi hfit hN λM' lv' H' w2 _ u f=>h M' lv' H' (k.step w2 (k.h.push u) f) u.nx
theorem Wk.two{Hb H:HY}{wb b:Nat}{M0 Mb M:Mn}{L:Ae}{lvb lv:List (Int×Bool)}{hs:List (Int×B.Fn)}{a c:Int}{Fa Fc F:B.Fn}{do_:FT Y0 [.ptr,.sl I6] [.int .i64,.int .i64]}{X:PX}{Q:Int×Unit->UU}(k:Wk Hb H wb b M0 Mb M L lvb lv ((a,Fa)::(c,Fc)::hs))(hn:M.nx<576460752303423486)(hdo:MG H b M->M.Ba a=some Fa->M.Ba c=some Fc->DoS b M H [a,c] F do_)(h:∀M' lv' H',Wk Hb H' wb b M0 Mb M' L lvb lv' ((M.nx,F)::hs)->M'.nx=M.nx+1->Q (M.nx,()) () H'):Wp Y0 Cg B8 (some wb,do_,[a,c],()) H Q X:=by
 have g1:=k.h.ge (a,Fa) (by simp);have g2:=k.h.ge (c,Fc) (by simp);refine Am5 k.w (by omega) (by simp) (λj hj=>?_) (hdo k.w.mg (k.h.Ba (a,Fa) (by simp)) (k.h.Ba (c,Fc) (by simp))) λM' lv' H' w2 _ u f=>h M' lv' H' (k.step w2 (k.h.two u) f) u.nx;rcases List.mem_cons.1 hj with e|e
 .rw[e];exact g1.2
 .rw[List.mem_singleton]at e;rw[e];exact g2.2
theorem A3j{a c:Int}{Fa Fc:B.Fn}(hM:MG H b M)(hn:M.nx<576460752303423487)(hl:M.hs.length<=60000)(ha:M.Ba a=some Fa)(hc:M.Ba c=some Fc):DoS b M H [a,c] (orF Fa Fc) (λ(a:Option Nat×List Int×Unit)(H:HY)(Q:Int×Int×Unit->HP)(X:Nat->Lf Y0.D->HP)=>Wp Y0 Rs P0 (a.1,a.2.1,()) H (λ(b:Int×Int×Unit)(x:Unit)(H':HY)=>Q (b.1,b.2.1,()) H') X):=λQ X h=>
 Auq hM hn hl (by simp) (Gs:=[Fa,Fc]) (by simp [ha,hc]) λM' H' g nw f=>h M' H' g (by
  have e:[Fa,Fc].foldl orF (λ_=>false)=orF Fa Fc:=by funext x;simp [orF]
  rw[e]at nw;exact nw) f
theorem Ay2{a c:Int}{Fa Fc:B.Fn}(hM:MG H b M)(hn:M.nx<576460752303423487)(hl:M.hs.length<=60000)(ha:M.Ba a=some Fa)(hc:M.Ba c=some Fc):DoS b M H [a,c] (Hw Fa Fc) (λ(a:Option Nat×List Int×Unit)(H:HY)(Q:Int×Int×Unit->HP)(X:Nat->Lf Y0.D->HP)=>Wp Y0 D6 Du (a.1,a.2.1,()) H (λ(b:Int×Int×Unit)(x:Unit)(H':HY)=>Q (b.1,b.2.1,()) H') X):=λQ X h=>
 Agj hM hn hl (by simp) (Gs:=[Fa,Fc]) (by simp [ha,hc]) λM' H' g nw f=>h M' H' g (by
  have e:[Fa,Fc].foldl Hw (λ_=>true)=Hw Fa Fc:=by funext x;simp [Hw]
  rw[e]at nw;exact nw) f
def loV(v:Bi):Int:=if v.Bool=true then 0 else v.Lo
def hiV(v:Bi):Int:=if v.Bool=true then 1 else v.Hi
structure Aas(L:Ae):Prop extends R5 L where
 fit:∀i(h:i<L.Ag.length)(h':i<L.Bits.length),loV L.Ag[i]<=hiV L.Ag[i]/\hiV L.Ag[i]-loV L.Ag[i]<2^L.Bits[i].toNat/\-1152921504606846976<=loV L.Ag[i]/\hiV L.Ag[i]<=1152921504606846976
def isF(L:Ae)(next:Bool)(i:Nat)(n:Int):B.Fn:=Hv (Sa (Lu L i next) (Qn L i n))
def Aw9(l:List B.Fn):B.Fn:=λa=>l.any λF=>F a
def Apm(l:List B.Fn):B.Fn:=λa=>l.all λF=>F a
theorem Aum{l:List B.Fn}{F:B.Fn}:orF (Aw9 l) F=Aw9 (l++[F]):=by funext a;simp [orF,Aw9]
theorem Ard{l:List B.Fn}{F:B.Fn}:Hw (Apm l) F=Apm (l++[F]):=by funext a;simp [Hw,Apm]
def Y2(L:Ae)(next:Bool)(i k:Nat):B.Fn:=Aw9 ((List.range k).map λ(j:Nat)=>isF L next i ((L.Ag[i]?.map loV).getD 0+(j:Int)))
def U2(v:Bi):Nat:=(hiV v-loV v+1).toNat
def O3(L:Ae)(next:Bool)(k:Nat):B.Fn:=Apm ((List.range k).map λ(i:Nat)=>Y2 L next i ((L.Ag[i]?.map U2).getD 0))
theorem Ap6{i k:Nat}:orF (Y2 L next i k) (isF L next i ((L.Ag[i]?.map loV).getD 0+(k:Int)))=Y2 L next i (k+1):=by unfold Y2;rw[Aum,List.range_succ,List.map_append];rfl
theorem Avo{k:Nat}:Hw (O3 L next k) (Y2 L next k ((L.Ag[k]?.map U2).getD 0))=O3 L next (k+1):=by unfold O3;rw[Ard,List.range_succ,List.map_append];rfl
end
section
variable {L:Ae} {i:Nat}
theorem R5.A6x(h:R5 L)(hi:i<L.Bits.length):0<=L.Bits[i]/\L.Bits[i]<=Iv L:=by have h1:=h.b0 i hi;have h2:=h.sum (k:=i) (by omega);have h4:=h.Af0 (j:=i+1) (k:=L.Bits.length) (by omega) (Nat.le_refl _);rw[Mw hi]at h4;unfold Iv;omega
theorem F8.n{M M':Mn}(h:F8 M M'):M'.S.n=M.S.n:=by unfold Sto.n;rw[h.tb]
theorem Aas.cnt(h:Aas L)(h8:2*Iv L<=8)(hi:i<L.Ag.length):loV L.Ag[i]<=hiV L.Ag[i]/\hiV L.Ag[i]-loV L.Ag[i]<16/\-1152921504606846976<=loV L.Ag[i]/\hiV L.Ag[i]<=1152921504606846976/\(U2 L.Ag[i]:Int)=hiV L.Ag[i]-loV L.Ag[i]+1:=by
 have hib:i<L.Bits.length:=by rw[h.lb];exact hi
 obtain⟨f1,f2,f3,f4⟩:=h.fit i hi hib;have hb:=h.toR5.A6x hib;have h16:(2:Int)^L.Bits[i].toNat<=16:=by
  have:L.Bits[i].toNat=0∨L.Bits[i].toNat=1∨L.Bits[i].toNat=2∨L.Bits[i].toNat=3∨L.Bits[i].toNat=4:=by omega
  rcases this with e|e|e|e|e<;>rw[e]<;>decide
 unfold U2;omega
theorem Aas.Aqa(h:Aas L)(h8:2*Iv L<=8)(hi:i<L.Ag.length){n:Int}(h1:loV L.Ag[i]<=n)(h2:n<=hiV L.Ag[i]):InK .i64 (Qn L i n):=by
 have hc:=h.cnt h8 hi;unfold Qn;rw[List.getElem?_eq_getElem hi];simp only;split
 .exact Bk.2 (by show _<=n/\n<=_;omega)
 .rename_i hb;have e1:loV L.Ag[i]=L.Ag[i].Lo:=if_neg hb;exact Bk.2 (by show _<=n-L.Ag[i].Lo/\n-L.Ag[i].Lo<=_;omega)
theorem Sr{wb b:Nat}{M0 M:Mn}{lv:List (Int×Bool)}{next:Bool}{H:HY}{X:PX}{Q:Int×Unit->UU}(w:WK H wb b M0 M L lv)(hn:M.nx<576460752303420000)(hl:M.hs.length<=59900)(hL:Aas L)(hfit:2*Iv L<=M.S.n)(h:∀M' lv' H'(r:Int),Wk H H' wb b M0 M M' L lv lv' [(r,O3 L next L.Ag.length)]->M'.nx<=M.nx+3000->Q (r,()) () H'):Wp Y0 Gu Fb (some wb,next,()) H Q X:=by
 refine Aam _ _ _ _ _ ?_;unfold Rz;have h8:2*Iv L<=8:=by have:=w.mg.n8;omega
 have hln:=hL.ln;have hwl:=w.ln;have hS:∀{M':Mn},F8 M0 M'->M'.S.n=M.S.n:=λe=>e.n.trans w.bs.n.symm;refine(Wk.of w).const (by omega) λM1 lv1 H1 k1 nx1=>?_;refine⟨wb,rfl,_,k1.w.ob,λ_=>⟨rfl,λn z H2=>n=L.Ag.length-z.2.1/\z.2.1<=L.Ag.length/\∃M2 lv2,Wk H H2 wb b M0 M M2 L lv lv2 [(z.1,O3 L next z.2.1)]/\M2.nx<=M.nx+1+40*(z.2.1:Int),⟨_,rfl,Nat.zero_le _,M1,lv1,k1,by show M1.nx<=M.nx+1+40*((0:Nat):Int);omega⟩,?_⟩⟩;rintro n ⟨all,i,u⟩ H2 ⟨hn0,hi0,M2,lv2,k2,nx2⟩;have hn':n=L.Ag.length-i:=hn0;have hi:i<=L.Ag.length:=hi0;have k2:Wk H H2 wb b M0 M M2 L lv lv2 [(all,O3 L next i)]:=k2;have nx2:M2.nx<=M.nx+1+40*(i:Int):=nx2;clear hn0 hi0;refine⟨λhil _=>?_,λhil=>?_⟩
 .have hil:i<L.Ag.length:=hil;obtain⟨c1,c2,c3,c4,c5⟩:=hL.cnt h8 hil;have elo:(L.Ag[i]?.map loV).getD 0=loV L.Ag[i]:=by rw[List.getElem?_eq_getElem hil];rfl
  have ecn:(L.Ag[i]?.map U2).getD 0=U2 L.Ag[i]:=by rw[List.getElem?_eq_getElem hil];rfl
  refine⟨hil,k2.const (by omega) λM3 lv3 H3 k3 nx3=>Vl ⟨λn z H4=>∃j:Nat,z.2.1=loV L.Ag[i]+(j:Int)/\j<=U2 L.Ag[i]/\n=U2 L.Ag[i]-j/\∃M4 lv4,Wk H H4 wb b M0 M M4 L lv lv4 [(z.1,Y2 L next i j),(all,O3 L next i)]/\M4.nx<=M.nx+2+40*(i:Int)+2*(j:Int),⟨_,0,?_,Nat.zero_le _,rfl,M3,lv3,k3,by omega⟩,?_⟩⟩
  .show loV L.Ag[i]=loV L.Ag[i]+((0:Nat):Int);omega
  rintro n1 ⟨so,x,u2⟩ H4 ⟨j,hx0,hj,hn1,M4,lv4,k4,nx4⟩;have hx:x=loV L.Ag[i]+(j:Int):=hx0;subst hx;have k4:Wk H H4 wb b M0 M M4 L lv lv4 [(so,Y2 L next i j),(all,O3 L next i)]:=k4;have l4:=k4.ln;simp only[List.length_cons,List.length_nil]at l4;refine⟨λhle=>?_,λhle=>?_⟩
  .have hle:loV L.Ag[i]+(j:Int)<=hiV L.Ag[i]:=hle;refine k4.Aqa (by omega) (by omega) hL.toR5 hil (by rw[hS k4.w.bs];exact hfit) (hL.Aqa h8 hil (by omega) hle) λM5 lv5 H5 k5 nx5=>?_;have l5:=k5.ln;simp only[List.length_cons,List.length_nil]at l5;refine(k5.perm (.swap _ _ _)).two (by omega) (λhM ha hc=>A3j hM (by omega) (by omega) ha hc) λM6 lv6 H6 k6 nx6 _=>⟨Bk.2 ?_,U2 L.Ag[i]-(j+1),by omega,j+1,?_,by omega,rfl,M6,lv6,?_,by omega⟩
   .show _<=loV L.Ag[i]+(j:Int)+1/\loV L.Ag[i]+(j:Int)+1<=_;omega
   .show loV L.Ag[i]+(j:Int)+1=loV L.Ag[i]+((j+1:Nat):Int);omega
   .have e:=Ap6 (L:=L) (next:=next) (i:=i) (k:=j);rw[elo]at e;show Wk H H6 wb b M0 M M6 L lv lv6 [(M5.nx,Y2 L next i (j+1)),(all,O3 L next i)];rw[<-e];exact k6
  .have hle:¬loV L.Ag[i]+(j:Int)<=hiV L.Ag[i]:=hle;have hjc:j=U2 L.Ag[i]:=by omega
   subst hjc;refine(k4.perm (.swap _ _ _)).two (by omega) (λhM ha hc=>Ay2 hM (by omega) (by omega) ha hc) λM5 lv5 H5 k5 nx5=>⟨by show i+1<=_;omega,L.Ag.length-(i+1),by omega,rfl,by show i+1<=_;omega,M5,lv5,?_,?_⟩
   .have e:=Avo (L:=L) (next:=next) (k:=i);rw[ecn]at e;show Wk H H5 wb b M0 M M5 L lv lv5 [(M4.nx,O3 L next (i+1))];rw[<-e];exact k5
   .show M5.nx<=M.nx+1+40*((i+1:Nat):Int);omega
 .have hil:¬i<L.Ag.length:=hil;have:i=L.Ag.length:=by omega
  subst this;exact h M2 lv2 H2 all k2 (by omega)
end
structure Got(M M':Mn)(r:Int)(F:B.Fn):Prop where
 bs:F8 M M'
 ge:M.nx<=r
 nx:M.nx<=M'.nx
 ln:M'.hs.length=M.hs.length+1
 Ba:∀k,M'.Ba k=if k=r then some F else M.Ba k
def FrO(b:Nat)(M:Mn)(H H':HY):Prop:=∀c,H c≠none->K0 b M c->H' c=H c
theorem Got.A4q{Hb H:HY}{wb b:Nat}{M Mx M':Mn}{L:Ae}{lv:List (Int×Bool)}{r:Int}{F:B.Fn}(k:Wk Hb H wb b M M Mx L [] lv [(r,F)])(e:Az6 M Mx M' lv [r]):Got M M' r F:=by
 have g:=k.h.ge (r,F) (by simp);have hln:=k.h.len;have get:∀j,Ac lv j=if j=r then some true else none:=λj=>by rw[k.h.get];simp [Ac]
 refine⟨k.w.bs.trans e.bs,g.1,by rw[e.nx];exact k.h.nx,?_,λj=>?_⟩
 .rw[e.ln];have:lv=[(r,true)]:=by
   match lv,hln,get with
   | [(a,t)],_,get=>
    have h1:=get r
    rw[if_pos rfl]at h1
    unfold Ac at h1
    split at h1
    .rename_i ha
     cases h1;subst ha;rfl
    .simp [Ac]at h1
  rw[this];simp
 .rw[e.Ba,get];by_cases hj:j=r
  .subst hj;rw[if_pos rfl,if_pos rfl,if_neg (by simp)];exact k.h.Ba (j,F) (by simp)
  .rw[if_neg hj,if_neg hj,if_neg (by simp)];exact k.h.old j (by simp [hj])
theorem Ah2{b:Nat}{M:Mn}{L:Ae}{next:Bool}{H:HY}{X:PX}{Q:Int×Int×Unit->UU}(hM:MG H b M)(hn:M.nx<576460752303420000)(hl:M.hs.length<=59900)(hL:Aas L)(h9:M.S.n<2*Iv L->Q (0,9,()) () H)(h0:2*Iv L<=M.S.n->∀M' H' r,MG H' b M'->Got M M' r (O3 L next L.Ag.length)->M'.nx<=M.nx+3000->FrO b M H H'->Q (r,0,()) () H'):Wp Y0 L4 Js (some b,L,next,()) H Q X:=by
 refine Zn _ _ _ _ _ _ ?_;unfold Tr;refine Xk hM hL.toR5 (λhlt=>⟨λ_=>h9 hlt,λhh=>absurd (show ¬(9:Int)=0 by decide) hh⟩) λhfit wb H1 hwb w f1=>⟨λhh=>absurd rfl hh,λ_=>?_⟩
 refine Sr w hn hl hL hfit λM2 lv2 H2 r k2 nx2=>?_;refine Ad8 k2.w (by omega) (by simp) λM3 H3 g3 e3 f3=>?_;refine h0 hfit M3 H3 r g3 (Got.A4q k2 e3) (by rw[e3.nx];exact nx2) λc hc nc=>?_;have hcw:c≠wb:=λe=>hc (by rw[e];exact hwb);have e1:=f1 c hcw;have e2:=k2.f c (by rw[e1];exact hc) hcw nc;rw[f3 c (by rw[e2,e1];exact hc) hcw (nc.same k2.w.bs),e2,e1]
section
section
variable {κ β:Type} [DecidableEq κ]
theorem X0{k:κ}{v:β}:∀{m:List (κ×β)},(C4 m k v).Perm ((k,v)::Ez m k)
 | []=>.refl _
 |p::m=>by
  unfold C4 Ez;split
  .rename_i e;subst e;exact .refl _
  .exact(List.Perm.cons p X0).trans (.swap _ _ _)
theorem Aot{k:κ}{v:β}:∀{m:List (κ×β)},Ac m k=some v->m.Perm ((k,v)::Ez m k)
 |p::m,h=>by
  unfold Ac at h;unfold Ez;split
  .rename_i e;rw[if_pos e]at h;cases h;subst e;exact .refl _
  .rename_i e;rw[if_neg e]at h;exact(List.Perm.cons p (Aot h)).trans (.swap _ _ _)
theorem Adr{k:κ}:∀{m:List (κ×β)},Ac m k=none->Ez m k=m
 | [],_=>rfl
 |p::m,h=>by
  unfold Ac at h;unfold Ez;split at h
  .cases h
  .rename_i e;rw[if_neg e,Adr h]
end
def hsM(m:List (Int×Int))(G:Int->B.Fn):List (Int×B.Fn):=m.map λp=>(p.2,G p.1)
def Aep(G:Int->B.Fn)(n:Int)(F:B.Fn):Int->B.Fn:=λj=>if j=n then orF (G n) F else G j
theorem Aos{m:List (Int×Int)}{G:Int->B.Fn}{n:Int}{F:B.Fn}(h:mnd m):hsM (Ez m n) (Aep G n F)=hsM (Ez m n) G:=by
 refine List.map_congr_left λp hp=>?_;have hn:p.1≠n:=λe=>by have h1:=Lz (Abx h n) hp;rw[Nc h,if_pos e]at h1;cases h1
 show (p.2,Aep G n F p.1)=_;unfold Aep;rw[if_neg hn]
variable {H:HY} {wb b r:Nat} {M0 M:Mn} {L:Ae} {lv:List (Int×Bool)}
theorem WK.Ap9{y:Ob Y0}(w:WK H wb b M0 M L lv)(hr:r≠wb)(n:K0 b M r):WK (Ab H r y) wb b M0 M L lv:=
 ⟨by rw[Ad _ _ (Ne.symm hr)];exact w.ob,w.mg.at_ n λd hd=>Ad _ _ hd,w.bs,w.n0,w.nx,w.nd,w.tr,w.lo,w.hi,w.ln⟩
theorem Wk.Ap9{Hb:HY}{Mb:Mn}{lvb:List (Int×Bool)}{hs:List (Int×B.Fn)}{y:Ob Y0}(k:Wk Hb H wb b M0 Mb M L lvb lv hs)(hr:r≠wb)(n:K0 b M0 r)(hb:Hb r=none):Wk Hb (Ab H r y) wb b M0 Mb M L lvb lv hs:=
 ⟨k.w.Ap9 hr (n.same k.w.bs),k.h,λc a0 a1 a2=>by rw[Ad _ _ λe=>a0 (by rw[e];exact hb)];exact k.f c a0 a1 a2⟩
theorem Am6{Hb:HY}{Mb:Mn}{lvb:List (Int×Bool)}{hs:List (Int×B.Fn)}{m:List (Int×Int)}{G:Int->B.Fn}{n h:Int}{F:B.Fn}{X:PX}{Q:Unit->UU}(k:Wk Hb H wb b M0 Mb M L lvb lv ((h,F)::(hsM m G++hs)))(hn:M.nx<576460752303423486)(hl:M.hs.length<=60000)(hr:H r=some (.mp (.int .i64) (.int .i64) m))(hrw:r≠wb)(hrm:K0 b M0 r)(hrb:Hb r=none)(hm:mnd m)(hz:∀j,Ac m j=none->G j=λ_=>false)(post:∀M' lv' H' m',Wk Hb H' wb b M0 Mb M' L lvb lv' (hsM m' (Aep G n F)++hs)->M'.nx<=M.nx+1->H' r=some (.mp (.int .i64) (.int .i64) m')->mnd m'->(∀j,Ac m' j=none↔(Ac m j=none/\j≠n))->(∀c,H c≠none->c≠r->c≠wb->K0 b M0 c->H' c=H c)->Q () () H'):Wp Y0 C0 Cp (some wb,some r,n,h,()) H Q X:=by
 refine Ad2 _ _ _ _ _ _ _ ?_;unfold Uh;have keys:∀v j,Ac (C4 m n v) j=none↔(Ac m j=none/\j≠n):=λv j=>by
  rw[D4];by_cases e:j=n
  .rw[if_pos e];simp [e]
  .rw[if_neg e];simp [e]
 refine⟨r,rfl,m,hr,λhs_=>?_,λhs_=>?_⟩
 .have hs_:(Ac m n).isSome=true:=hs_;obtain⟨ho,he⟩:=Option.isSome_iff_exists.1 hs_;rw[he,Option.getD_some];have k1:Wk H H wb b M0 Mb M L lvb lv ((ho,G n)::(h,F)::(hsM (Ez m n) G++hs)):=by refine⟨k.w,k.h.perm ?_,.refl⟩;refine(List.Perm.swap _ _ _).trans (List.Perm.cons _ ?_);exact(((Aot he).map λp=>(p.2,G p.1)).append_right hs).symm
  refine k1.two hn (λhM ha hc=>A3j hM (by omega) hl ha hc) λM' lv' H' k2 nx2=>?_;have hr2:H' r=some (.mp (.int .i64) (.int .i64) m):=by rw[k2.f r (by rw[hr];simp) hrw hrm];exact hr
  refine⟨r,rfl,m,hr2,post M' lv' _ (C4 m n M.nx) ?_ (by omega) (Aj _ _ _) (Pm hm _ _) (keys _) λc a0 a1 a2 a3=>by rw[Ad _ _ a1];exact k2.f c a0 a2 a3⟩;refine Wk.Ap9 (Hb:=Hb) ⟨k2.w,k2.h.perm ?_,k.f.trans k2.f⟩ hrw hrm hrb;have p1:(hsM (C4 m n M.nx) (Aep G n F)).Perm ((M.nx,orF (G n) F)::hsM (Ez m n) G):=by
   have p2:=(X0 (k:=n) (v:=M.nx) (m:=m)).map λp=>(p.2,Aep G n F p.1)
   rw[List.map_cons]at p2;have e1:Aep G n F n=orF (G n) F:=if_pos rfl;have e2:=Aos (G:=G) (n:=n) (F:=F) hm;unfold hsM at e2 ⊢;rw[e2]at p2;rw[<-e1];exact p2
  exact p1.append_right hs
 .have hs_:¬(Ac m n).isSome=true:=hs_;have he:Ac m n=none:=by
   cases e:Ac m n with
   |none=>rfl
   |some v=>exact absurd (by rw[e];rfl) hs_
  refine⟨r,rfl,m,hr,post M lv _ (C4 m n h) ?_ (by omega) (Aj _ _ _) (Pm hm _ _) (keys _) λc a0 a1 a2 a3=>Ad _ _ a1⟩;refine(k.perm ?_).Ap9 hrw hrm hrb;have e0:orF (G n) F=F:=by rw[hz n he];funext a;simp [orF]
  have p2:=(X0 (k:=n) (v:=h) (m:=m)).map λp=>(p.2,Aep G n F p.1)
  rw[List.map_cons]at p2;have e1:Aep G n F n=F:=(if_pos rfl).trans e0;have e2:=Aos (G:=G) (n:=n) (F:=F) hm;unfold hsM at e2 ⊢;rw[e2,e1,Adr he]at p2;exact p2.append_right hs
end
section
variable {Mb M:Mn} {lvb lv:List (Int×Bool)} {hs1:List (Int×B.Fn)}
theorem Has.trans{Ma:Mn}{lva:List (Int×Bool)}{hs2:List (Int×B.Fn)}(h:Has Ma Mb lva lvb hs1)(k:Has Mb M lvb lv hs2):Has Ma M lva lv (hs2++hs1):=by
 have l1:∀j∈hs1.map (·.1),Ma.nx<=j/\j<Mb.nx:=λj hj=>by obtain⟨p,hp,rfl⟩:=List.mem_map.1 hj;exact h.ge p hp
 have l2:∀j∈hs2.map (·.1),Mb.nx<=j/\j<M.nx:=λj hj=>by obtain⟨p,hp,rfl⟩:=List.mem_map.1 hj;exact k.ge p hp
 have n1:=h.nx;have n2:=k.nx;refine⟨h.nb,?_,λp hp=>?_,λj=>?_,λp hp=>?_,λj hj=>?_,?_,by omega⟩
 .rw[List.map_append,List.nodup_append];exact⟨k.nd,h.nd,λa ha c hc e=>by have:=l1 c hc;have:=l2 a ha;omega⟩
 .rcases List.mem_append.1 hp with e|e
  .have:=k.ge p e;omega
  .have:=h.ge p e;omega
 .rw[k.get,h.get,List.map_append];by_cases e:j∈hs2.map (·.1)
  .rw[if_pos e,if_pos (List.mem_append_left _ e)]
  .rw[if_neg e];by_cases e2:j∈hs1.map (·.1)
   .rw[if_pos e2,if_pos (List.mem_append_right _ e2)]
   .rw[if_neg e2,if_neg λhm=>(List.mem_append.1 hm).elim e e2]
 .rcases List.mem_append.1 hp with e|e
  .exact k.Ba p e
  .rw[k.old _ λhm=>by have:=(l2 _ hm).1;have:=(h.ge p e).2;omega];exact h.Ba p e
 .rw[List.map_append]at hj;rw[k.old j λhm=>hj (List.mem_append_left _ hm),h.old j λhm=>hj (List.mem_append_right _ hm)]
 .rw[k.len,h.len,List.length_append];omega
theorem Wk.trans{Ha Hb H:HY}{wb b:Nat}{M0 Ma:Mn}{L:Ae}{lva:List (Int×Bool)}{hs2:List (Int×B.Fn)}(k:Wk Ha Hb wb b M0 Ma Mb L lva lvb hs1)(k2:Wk Hb H wb b M0 Mb M L lvb lv hs2):Wk Ha H wb b M0 Ma M L lva lv (hs2++hs1):=⟨k2.w,k.h.trans k2.h,k.f.trans k2.f⟩
theorem Wk.drop{Hb H:HY}{wb b:Nat}{M0:Mn}{L:Ae}{hs:List (Int×B.Fn)}{l:List Int}{X:PX}{Q:Unit->UU}(k:Wk Hb H wb b M0 Mb M L lvb lv (hs1++hs))(hn:M.nx<576460752303423486)(hl:l.length<=1000000)(hp:l.Perm (hs1.map (·.1)))(h:∀M' lv' H',Wk Hb H' wb b M0 Mb M' L lvb lv' hs->M'.nx=M.nx->FrW wb b M0 H H'->Q () () H'):Wp Y0 Ao Al (some wb,l,()) H Q X:=by
 have nd:=k.h.nd;rw[List.map_append,List.nodup_append]at nd;have hm:∀j,j∈l↔j∈hs1.map (·.1):=λj=>hp.mem_iff;have lt:∀j∈(hs1++hs).map (·.1),Mb.nx<=j/\j<M.nx:=λj hj=>by obtain⟨p,hp,rfl⟩:=List.mem_map.1 hj;exact k.h.ge p hp
 have live:∀j∈l,(Ac lv j).isSome=true:=λj hj=>by rw[k.h.get,if_pos (by rw[List.map_append];exact List.mem_append_left _ ((hm j).1 hj))];rfl
 refine Aa0 k.w (by omega) hl λM' lv' H' w2 nx2 e1 e2 le0 le1 f=>h M' lv' H' ⟨w2,?_,k.f.trans (f.same k.w.bs)⟩ nx2 (f.same k.w.bs);refine⟨k.h.nb,nd.2.1,λp hp=>?_,λj=>?_,λp hp=>?_,λj hj=>?_,?_,by have:=k.h.nx;omega⟩
 .have:=k.h.ge p (List.mem_append_right _ hp);omega
 .rw[e1,k.h.get,List.map_append];by_cases e:j∈l
  .have hj1:=(hm j).1 e;rw[if_pos e,if_neg λhj2=>nd.2.2 j hj1 j hj2 rfl];exact((k.h.nb j (lt j (by rw[List.map_append];exact List.mem_append_left _ hj1)).1).1).symm
  .rw[if_neg e];by_cases e3:j∈hs.map (·.1)
   .rw[if_pos e3,if_pos (List.mem_append_right _ e3)]
   .rw[if_neg e3,if_neg λhh=>(List.mem_append.1 hh).elim (λa=>e ((hm j).2 a)) e3]
 .have hk:p.1∈hs.map (·.1):=List.mem_map_of_mem hp;rw[e2,if_neg λhh=>nd.2.2 p.1 ((hm _).1 hh.1) p.1 hk rfl];exact k.h.Ba p (List.mem_append_right _ hp)
 .rw[e2];by_cases e:j∈l
  .rw[if_pos ⟨e,live j e⟩];exact((k.h.nb j (lt j (by rw[List.map_append];exact List.mem_append_left _ ((hm j).1 e))).1).2).symm
  .rw[if_neg λhh=>e hh.1];refine k.h.old j λhh=>?_;rw[List.map_append]at hh;exact(List.mem_append.1 hh).elim (λa=>e ((hm j).2 a)) hj
 .have h1:=le1 ((hp.nodup_iff).2 nd.1) live;have h2:=k.h.len;have h3:=hp.length_eq;rw[List.length_map]at h3;rw[List.length_append]at h2;omega
end
section
variable {H:HY} {b:Nat}
theorem Wk.fresh{Hb:HY}{wb r:Nat}{M0 Mb M:Mn}{L:Ae}{lvb lv:List (Int×Bool)}{hs:List (Int×B.Fn)}{y:Ob Y0}(k:Wk Hb H wb b M0 Mb M L lvb lv hs)(hr:H r=none):Wk Hb (Ab H r y) wb b M0 Mb M L lvb lv hs:=by
 have hrw:r≠wb:=λe=>by rw[e,k.w.ob]at hr;cases hr
 have hnm:K0 b M r:=k.w.mg.h.notM hr;refine⟨k.w.Ap9 hrw hnm,k.h,λc a0 a1 a2=>?_⟩;by_cases e:c=r
 .subst e;have:=k.f c a0 a1 a2;rw[hr]at this;exact absurd this.symm a0
 .rw[Ad _ _ e];exact k.f c a0 a1 a2
theorem Wk.A64{Hb:HY}{wb:Nat}{M0 Mb M:Mn}{L:Ae}{lvb lv:List (Int×Bool)}{hs:List (Int×B.Fn)}{p q:Int}{Fa Fc:B.Fn}{X:PX}{R:Int×Unit->UU}(k:Wk Hb H wb b M0 Mb M L lvb lv hs)(hn:M.nx<576460752303423486)(hl:M.hs.length<=60000)(ha:M.Ba p=some Fa)(hc:M.Ba q=some Fc)(h:∀M' lv' H',Wk Hb H' wb b M0 Mb M' L lvb lv' ((M.nx,Hw Fa Fc)::hs)->M'.nx=M.nx+1->FrW wb b M0 H H'->R (M.nx,()) () H'):Wp Y0 D6 Du (some b,[p,q],()) H (λ(bb:Int×Int×Unit)_ H'=>Wp Y0 Bh Be (some wb,bb.1,bb.2.1,()) H' R X) X:=by
 refine Agj k.w.mg (by omega) hl (by simp) (Gs:=[Fa,Fc]) (by simp [ha,hc]) λM' H' g nw f=>?_;have e:[Fa,Fc].foldl Hw (λ_=>true)=Hw Fa Fc:=by funext x;simp [Hw]
 rw[e]at nw;exact V4 k.w g nw f λlv' H'' w2 _ u f2=>h M' lv' H'' (k.step w2 (k.h.push u) f2) u.nx (f2.same k.w.bs)
theorem Aem{m:List (Int×Int)}{X:PX}{D:Nat->Nat->Loop->HP}{w:Option Nat}{P:Nat->Nat->Loop->Unit->UU}(hb:H b=some (.mp (.int .i64) (.int .i64) m))(hm:m.length<=1000000)(h:∀c l r r' x,H l=none->x.Perm (m.map (·.2))->Wp Y0 Ao Al (w,x,()) (Ab H l (Ob.lp r')) (P c l r) X):∀(c:Nat),H c=none->∀(l:Nat)(r:Loop),Ab H c (Ob.st Ak []) l=none->Wp Y0 Bx Bp (YL l c r,some b,()) (Ab (Ab H c (Ob.st Ak [])) l (Ob.lp r)) (λ(b_3 io:Unit)(H':HY)=>(H' l=some (Ob.lp r)/\∀(r':Loop),∃(x:List Int),Ab H' l (Ob.lp r') c=some (Ob.st Ak x)/\Wp Y0 Ao Al (w,x,()) (Dp (Ab H' l (Ob.lp r')) c) (P c l r) X)∨D c l r H') X:=by
 intro c hc l r hl;have hlc:l≠c:=λe=>by subst e;simp [Ab]at hl
 have hl':H l=none:=by rw[Ab,if_neg hlc]at hl;exact hl
 refine Ap3 hb hc hl' hlc hm λx hx=>.inl ⟨by simp [Ab],λr'=>⟨x,by simp [Ab,Ne.symm hlc],?_⟩⟩;have e1:Dp (Ab (Ab (Ab H c (Ob.st Ak x)) l (Ob.lp r)) l (Ob.lp r')) c=Ab H l (Ob.lp r'):=by
  funext k;by_cases e:k=c
  .subst e;simp [Ab,Dp,Ne.symm hlc,hc]
  .simp only[Ab,Dp,e,if_false];split<;>rfl
 rw[e1];exact h c l r r' x hl' hx
def Ajf(L:Ae)(n0:Int)(t:A6)(G:Int->B.Fn)(bd c pk:Nat):Prop:=∀{wb b:Nat}{M0 M:Mn}{lv:List (Int×Bool)}{H:HY}{X:PX}{Q:Option Nat×Unit->UU},WK H wb b M0 M L lv->M.nx+(c:Int)<576460752303420000->M.hs.length+pk<=59900->M.S.n=n0->(∀M' lv' H' r m,Wk H H' wb b M0 M M' L lv lv' (hsM m G)->H r=none->H' r=some (.mp (.int .i64) (.int .i64) m)->mnd m->(∀j,Ac m j=none->G j=λ_=>false)->m.length<=bd->M'.nx<=M.nx+(c:Int)->Q (some r,()) () H')->Wp Y0 Ds C5 (some wb,t,()) H Q X
end
theorem Aul{Hb H:HY}{wb b:Nat}{M0 Mb M:Mn}{L:Ae}{lvb lv:List (Int×Bool)}{hs:List (Int×B.Fn)}{hp hq x y:Int}{Fa Fc:B.Fn}{do_:Int×Int×Int×Unit->HY->(Unit->HP)->PX->Prop}{X:PX}{N:HP}(k:Wk Hb H wb b M0 Mb M L lvb lv hs)(hn:M.nx<576460752303423480)(hl:M.hs.length<=60000)(ha:M.Ba hp=some Fa)(hc:M.Ba hq=some Fc)(hskip:(∀a,Hw Fa Fc a=false)->∀M' lv' H',Wk Hb H' wb b M0 Mb M' L lvb lv' hs->M'.nx=M.nx+1->FrW wb b M0 H H'->N H')(hdo:(∃a,Hw Fa Fc a=true)->∀M' lv' H',Wk Hb H' wb b M0 Mb M' L lvb lv' ((M.nx,Hw Fa Fc)::hs)->M'.nx=M.nx+1->FrW wb b M0 H H'->do_ (x,y,M.nx,()) H' (λ(_:Unit)(H'':HY)=>N H'') X):Wp Y0 D6 Du (some b,[hp,hq],()) H (λ(b:Int×Int×Unit)_ H'=>Wp Y0 Bh Be (some wb,b.1,b.2.1,()) H' (λ(b:Int×Unit)_ H'=>∃(x_4:Ap),H' wb=some (Ob.st C3 x_4)/\x_4=x_4/\Wp Y0 Er D8 (x_4.m,b.1,(0:Int),()) H' (λ(b_9:Bool×Int×Unit)_ H'=>(b_9.1=true->Wp Y0 Ao Al (some wb,[b.1],()) H' (λ(_ _:Unit)(H':HY)=>N H') X)/\(¬b_9.1=true->(¬b_9.2.1=(0:Int)->Wp Y0 Ao Al (some wb,[b.1],()) H' (λ(_ _:Unit)(H':HY)=>N H') X)/\(¬¬b_9.2.1=(0:Int)->do_ (x,y,b.1,()) H' (λ_ H'=>N H') X))) X) X) X:=by
 refine k.A64 (by omega) hl ha hc λM' lv' H' k1 nx1 f1=>⟨_,k1.w.ob,rfl,?_⟩
 have hm:=k1.h.Ba (M.nx,Hw Fa Fc) (by simp);have hm:M'.Ba M.nx=some (Hw Fa Fc):=hm;refine Aog k1.w.mg.h k1.w.mg.i (λhh=>?_) λF G hF hG t ht=>?_
 .rcases hh with e|e
  .have e:M'.Ba M.nx=none:=e;rw[hm]at e;cases e
  .rw[k1.w.mg.i.Ax1]at e;cases e
 .have hF:M'.Ba M.nx=some F:=hF;rw[hm]at hF;cases hF;rw[k1.w.mg.i.Ax1]at hG;cases hG;refine⟨λhtt=>?_,λhtn=>⟨λh0=>absurd rfl h0,λ_=>?_⟩⟩
  .have hz:=ht.1 htt;refine Wk.drop (hs1:=[(M.nx,Hw Fa Fc)]) (hs:=hs) k1 (by omega) (by simp) (.refl _) λM2 lv2 H2 k2 nx2 f2=>?_;exact hskip (λa=>congrFun hz a) M2 lv2 H2 k2 (by omega) (f1.trans f2)
  .have htn:¬t=true:=htn;refine hdo (Classical.byContradiction λhne=>htn (ht.2 (funext λa=>?_))) M' lv' H' k1 nx1 f1;cases e:Hw Fa Fc a with
   |false=>rfl
   |true=>exact absurd ⟨a,e⟩ hne
end Go.Proofs.YtcbkbpjlbmalmaaGreatDoor
