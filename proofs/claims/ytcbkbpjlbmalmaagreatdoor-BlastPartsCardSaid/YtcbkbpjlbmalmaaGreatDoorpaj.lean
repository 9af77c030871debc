/-
  The law BlastParts, as a contract. (Merged by program out of 22 texts.)
-/
import Derived.Test.YtcbkbpjlbmalmaaGreatDoorpah
open List renaming take_succ_eq_append_getElem->a4,getElem?_eq_getElem->a6,replicate->a8,length_append->a9,mem_map->aa,range->ab,getElem_mem->ac,getElem_of_mem->ae,length_map->ag,getElem?_eq_none->ah,take_of_length_le->ai,mem_cons_self->ak,map_append->ao,append_nil->aq,length->av,length_take->aw,mem_cons->ay,mem_append_left->az,take->b9,length_nil->bb,ext_getElem?->bf,mem_append_right->bg,take_length->bh,length_cons->bj,mem_cons_of_mem->bk,dropLast_concat_getLast->bm,getElem?_range->bn,mem_singleton->bo,getElem?_map->br,append_assoc->bt,getElem_map->bw,range_succ->bx,nil_append->c0,sizeOf_lt_of_mem->c1,take_append_drop->c8,perm_append_comm->c9,mem_range->cc,drop->cd,mem_map_of_mem->ce,flatMap_append->cf,nodup_append->cg,getElem_take->ci,all_eq_true->cj,any_eq_true->ck,length_drop->cm,nodup_range->cn,mem_flatMap->co,nodup_cons->cp,map_cons->cr
open Nat renaming zero_le->a5,not_lt_zero->ad,le_refl->af,lt_succ_self->aj,mul_le_mul->bq,pow_le_pow_right->ca,div_le_self->cq,le_trans->cs
open Classical renaming byContradiction->a7,not_not->au
open Int renaming toNat->an,natCast_nonneg->ax,mul_comm->ch
open Option renaming some.inj->ap,isSome_iff_exists->ba,getD_some->bu
open Bool renaming false_ne_true->be,and_eq_true->bv,eq_iff_iff->bz
open Prod renaming ext->ct
namespace Go.Proofs.YtcbkbpjlbmalmaaGreatDoor
open Go Go.X Go.Y
section
def G0(op:Int):Int×Int:=if op=1∨op=2∨op=3∨op=4 then (0,0) else if op=5 then (1,1) else if op=6∨op=7 then (1,64) else if 8<=op/\op<=17 then (2,2) else if op=18 then (3,3) else (-1,-1)
theorem Ww{op:Int}{H:HY}{X:PX}{Q:Int×Int×Unit->UU}(h:Q ((G0 op).1,(G0 op).2,()) () H):Wp Y0 IP GI (op,()) H Q X:=by
 refine wF Tryz.f219 {} (?_:GF op H Q X);unfold GF;have c:∀a b,G0 op=(a,b)->Q (a,b,()) () H:=λa b e=>by grind
 repeat' (first|(refine And.intro ?_ ?_)|intro _)
 all_goals grind[G0]
theorem Ad4{s:ByteArray}:s={data:={toList:=[]:Array UInt8}:ByteArray}↔s.size=0:=by
 constructor
 .rintro rfl;rfl
 .intro h;obtain⟨⟨l⟩⟩:=s;have:l.length=0:=h;grind
def Anb(op:Int):Int:=if op=1 then -255 else 0
def Amy(op:Int):Int:=if op=1 then 255 else if op=2 then 1 else 0
def CA(t:Ae):Int:=
 if (G0 t.Op).1<0 then 11 else if t.N<Anb t.Op∨Amy t.Op<t.N then 2
 else if ((t.Op=3∨t.Op=4)/\(t.Name.size=0∨24<t.Name.size))∨(¬(t.Op=3∨t.Op=4)/\t.Name.size≠0) then 12
 else if (t.Kids.length:Int)<(G0 t.Op).1∨(G0 t.Op).2<(t.Kids.length:Int) then 3 else 0
theorem Yt(t:Ae){few many:Int}(g:G0 t.Op=(few,many)):∃le mo:Int,(few<0->CA t=11)/\(¬few<0->(t.N<le∨mo<t.N)->CA t=2)/\(¬few<0->¬(t.N<le∨mo<t.N)->(((t.Op=3∨t.Op=4)/\(t.Name.size=0∨24<t.Name.size))∨(¬(t.Op=3∨t.Op=4)/\t.Name.size≠0))->CA t=12)/\(¬few<0->¬(t.N<le∨mo<t.N)->¬(((t.Op=3∨t.Op=4)/\(t.Name.size=0∨24<t.Name.size))∨(¬(t.Op=3∨t.Op=4)/\t.Name.size≠0))->((t.Kids.length:Int)<few∨many<(t.Kids.length:Int))->CA t=3)/\(¬few<0->¬(t.N<le∨mo<t.N)->¬(((t.Op=3∨t.Op=4)/\(t.Name.size=0∨24<t.Name.size))∨(¬(t.Op=3∨t.Op=4)/\t.Name.size≠0))->¬((t.Kids.length:Int)<few∨many<(t.Kids.length:Int))->CA t=0)/\(t.Op=1->le=-255/\mo=255)/\(t.Op=2->le=0/\mo=1)/\(¬t.Op=1->¬t.Op=2->le=0/\mo=0):=by
 unfold CA;rw[g];exact⟨Anb t.Op,Amy t.Op,λa=>if_pos a,λa b=>(if_neg a).trans (if_pos b),λa b c=>(if_neg a).trans ((if_neg b).trans (if_pos c)),λa b c d=>(if_neg a).trans ((if_neg b).trans ((if_neg c).trans (if_pos d))),λa b c d=>(if_neg a).trans ((if_neg b).trans ((if_neg c).trans (if_neg d))),
  λe=>by rw[e];exact⟨rfl,rfl⟩,λe=>by rw[e];exact⟨rfl,rfl⟩,λf h=>⟨if_neg f,by unfold Amy;rw[if_neg f,if_neg h]⟩⟩
set_option maxHeartbeats 4000000 in
theorem UB{t:Ae}{H:HY}{X:PX}{Q:Int×Unit->UU}(h:Q (CA t,()) () H):Wp Y0 JK Hw (t,()) H Q X:=by
 refine wF Tryz.f166 {im:=[1]} (?_:FA t H Q X);unfold FA;refine Ww ?_;simp only[Ad4];have a:∀c,CA t=c->Q (c,()) () H:=λc e=>by rw[e]at h;exact h
 generalize j:G0 t.Op=d at *;obtain⟨f,b⟩:=d;simp only;obtain⟨k,l,g,p,i,o,q,m,r,n⟩:=Yt t j;generalize CA t=w at *;repeat' (first|(refine And.intro ?_ ?_)|intro _)
 all_goals grind
mutual
def GX(deep n:Int):Ae->Int×Int
 |⟨op,k,nm,ks⟩=>
  if 64<deep then (n+1,17)
  else if CA ⟨op,k,nm,ks⟩=0 then if 4096<n+1 then (n+1,4) else Ee (deep+1) (n+1) ks
  else (n+1,CA ⟨op,k,nm,ks⟩)
def Ee(deep n:Int):List Ae->Int×Int
 | []=>(n,0)
 |t::ts=>let r:=GX deep n t;if r.2=0 then Ee deep r.1 ts else r
end
theorem Uy(deep n:Int)(t:Ae):GX deep n t=if 64<deep then (n+1,17) else if CA t=0 then if 4096<n+1 then (n+1,4) else Ee (deep+1) (n+1) t.Kids else (n+1,CA t):=by cases t;rfl
theorem VY(a:Int)(t:Ae):∀(l:List Ae)(n m:Int),Ee a n l=(m,0)->Ee a n (l++[t])=GX a m t
 | [],n,m,h=>by
  have h:(n,(0:Int))=(m,0):=by grind[Ee]
  cases h;show Ee a n [t]=_;unfold Ee;show (if (GX a n t).2=0 then Ee a (GX a n t).1 [] else GX a n t)=_;by_cases e:(GX a n t).2=0
  .rw[if_pos e];grind[Ee]
  grind
 |s::l,n,m,h=>by show Ee a n (s::(l++[t]))=_;unfold Ee at h ⊢;simp only at h ⊢;by_cases e:(GX a n s).2=0;all_goals simp_all[VY]
theorem Yc(a:Int)(b:List Ae):∀(l:List Ae)(n:Int),(Ee a n l).2≠0->Ee a n (l++b)=Ee a n l
 | [],n,h=>by grind[Ee]
 |s::l,n,h=>by show Ee a n (s::(l++b))=_;unfold Ee at h ⊢;simp only at h ⊢;by_cases e:(GX a n s).2=0;all_goals simp_all[Yc]
abbrev At9(b1 b0:Nat):Ae×Int×Unit->HY->(Bool×Unit->HP)->PX->Prop:=λ(a:Ae×Int×Unit)(H:HY)(Q:Bool×Unit->HP)(X:Nat->Lf Y0.D->HP)=>Wp Y0 F7 Ep (a.1,a.2.1,some b1,some b0,()) H (λ(b:Bool×Unit)_ H'=>Q (b.1,()) H') X
structure Sv(b1 b0:Nat)(H0 H:HY)(n w:Int):Prop where
 ne:b1≠b0
 n:H b1=some (.st Ba n)
 w:H b0=some (.st Ba w)
 f:∀c,c≠b1->c≠b0->H c=H0 c
variable {b1 b0:Nat} {H0 H:HY} {n w:Int}
theorem Sv.sn{m:Int}(h:Sv b1 b0 H0 H n w):Sv b1 b0 H0 (Ab H b1 (.st Ba m)) m w:=
 ⟨h.ne,Ai _ _ _,by rw[Ag _ _ (Ne.symm h.ne)];exact h.w,λc a b=>by rw[Ag _ _ a];exact h.f c a b⟩
theorem Sv.sw{m:Int}(h:Sv b1 b0 H0 H n w):Sv b1 b0 H0 (Ab H b0 (.st Ba m)) n m:=
 ⟨h.ne,by rw[Ag _ _ h.ne];exact h.n,Ai _ _ _,λc b a=>by rw[Ag _ _ a];exact h.f c b a⟩
def PA(deep n:Int)(t:Ae):Int:=if 64<deep then 17 else if CA t=0 then if 4096<n+1 then 4 else 0 else CA t
theorem Asp{deep:Int}{t:Ae}{X:PX}{Q:Bool×Unit->UU}(i:Sv b1 b0 H0 H n w)(j:0<=n/\n<1000000000000)(h:∀H',Sv b1 b0 H0 H' (n+1) (PA deep n t)->Q (decide (PA deep n t=0),()) () H'):Wp Y0 F7 Ep (t,deep,some b1,some b0,()) H Q X:=by
 refine wF Tryz.f165 {im:=[4]} (?_:HN t deep (some b1) (some b0) H Q X);unfold HN;have f:Sv b1 b0 H0 (Ab H b1 (.st Ba (n+1))) (n+1) w:=i.sn;have b:∀v,PA deep n t=v->Q (decide (v=0),()) () (Ab (Ab H b1 (.st Ba (n+1))) b0 (.st Ba v)):=λv e=>by have:=h (Ab (Ab H b1 (.st Ba (n+1))) b0 (.st Ba v)) (by rw[e];exact f.sw);grind
 refine⟨b1,rfl,n,i.n,λ_=>⟨A7.2 (by omega),λc=>⟨b0,rfl,w,f.w,?_⟩,λc=>?_⟩⟩
 .exact b 17 (if_pos c)
 .refine UB ⟨b0,rfl,w,f.w,λa=>?_,λa=>?_⟩
  .have a:CA t=0:=a;have d:Sv b1 b0 H0 (Ab (Ab H b1 (.st Ba (n+1))) b0 (.st Ba (CA t))) (n+1) (CA t):=f.sw;refine⟨n+1,d.n,λg=>⟨rfl,CA t,d.w,?_⟩,λg=>⟨rfl,CA t,d.w,rfl,?_⟩⟩
   .have e:PA deep n t=4:=by unfold PA;rw[if_neg c,if_pos a,if_pos g]
    have:=h (Ab (Ab (Ab H b1 (.st Ba (n+1))) b0 (.st Ba (CA t))) b0 (.st Ba (4:Int))) (by rw[e];exact d.sw);grind
   .have e:PA deep n t=CA t:=by unfold PA;rw[if_neg c,if_pos a,if_neg g,a]
    grind
  .have a:¬CA t=0:=a;simp_all[PA]
theorem ZO{b1 b0:Nat}{H0:HY}{X:PX}:∀(z:Nat)(t:Ae){n w deep:Int}{H:HY}{Q:Bool×Unit->UU},SizeOf.sizeOf t<z->Sv b1 b0 H0 H n w->(0<=n/\n<=4096)->(0<=deep/\deep<=1000)->(∀H',Sv b1 b0 H0 H' (GX deep n t).1 (GX deep n t).2->n<=(GX deep n t).1->((GX deep n t).2=0->(GX deep n t).1<=4096)->Q (decide ((GX deep n t).2=0),()) () H')->Wp Y0 Fw Ex (t,deep,At9 b1 b0,()) H Q X
 |0,_,_,_,_,_,_,L,_,_,_,_=>absurd L (ad _)
 |z+1,t,n,w,deep,H,Q,L,T,hn,Y,h=>by
  apply Rb;unfold MK;have U:SizeOf.sizeOf t.Kids<SizeOf.sizeOf t:=by cases t;grind
  refine Asp T (by omega) λJ E=>⟨λa=>?_,λc _=>?_⟩
  .grind[decide,PA,decide_eq_true,GX,Uy]
  .have c:PA deep n t=0:=by grind
   rw[c]at E;have e:GX deep n t=Ee (deep+1) (n+1) t.Kids/\deep<=64/\n+1<=4096:=by grind[Uy,PA]
   obtain⟨e,K,C⟩:=e;rw[e]at h;refine⟨λm y v=>m=t.Kids.length-y.1/\y.1<=t.Kids.length/\∃d,Ee (deep+1) (n+1) (t.Kids.take y.1)=(d,0)/\Sv b1 b0 H0 v d 0/\n+1<=d/\d<=4096,⟨_,rfl,a5 _,n+1,?_,E,by omega,C⟩,?_⟩
   .rfl
   rintro m ⟨i,_⟩ v ⟨p,u,d,r,F,S,I⟩;have W:m=t.Kids.length-i:=p;have Z:i<=t.Kids.length:=u;have o:Ee (deep+1) (n+1) (t.Kids.take i)=(d,0):=r;refine⟨λs _=>?_,λq=>?_⟩
   .have j:i<t.Kids.length:=s;have D:SizeOf.sizeOf t.Kids[i]<z:=by have F:=c1 (ac j);omega
    have G:t.Kids.take (i+1)=t.Kids.take i++[t.Kids[i]]:=a4 j;have f:=VY (deep+1) t.Kids[i] _ _ _ o;rw[<-G]at f;refine⟨j,λ_=>⟨A7.2 (by omega),?_⟩⟩;show Wp Y0 Fw Ex (Ae.mk t.Kids[i].Op t.Kids[i].N t.Kids[i].Name t.Kids[i].Kids,deep+1,At9 b1 b0,()) v _ X;rw[Re];refine ZO z t.Kids[i] D F (by omega) (by omega) λR B l1 V=>⟨λa=>?_,λb=>⟨by grind,t.Kids.length-(i+1),by omega,rfl,by grind,(GX (deep+1) d t.Kids[i]).1,?_,?_,by omega,V (of_decide_eq_true (au.1 b))⟩⟩
    .have a:¬(GX (deep+1) d t.Kids[i]).2=0:=λe=>a (decide_eq_true e);grind[Ee,GX,Yc,c8,absurd,decide_eq_false]
    all_goals grind
   grind
theorem UD{t:Ae}{X:PX}{Q:Int×Unit->UU}(h:∀H',(∀c,H c≠none->H' c=H c)->Q ((GX 1 0 t).2,()) () H'):Wp Y0 Md JD (t,()) H Q X:=by
 refine wF Tryz.f90 {pr:=[(3,8),(4,8)],im:=[1]} (?_:JA t H Q X);unfold JA;intro b n f d;have a:f≠b:=λe=>by grind[Ai]
 have g:H f=none:=by grind[Ag]
 refine⟨0,by rw[Ag _ _ (Ne.symm a),Ai],0,by rw[Ag _ _ a,Ai],?_⟩;have m:Sv f b H (Ab (Ab (Ab (Ab H b (Ob.st Ba (0:Int))) f (Ob.st Ba (0:Int))) b (Ob.st Ba (0:Int))) f (Ob.st Ba (0:Int))) 0 0:=
  ⟨a,Ai _ _ _,by rw[Ag _ _ (Ne.symm a),Ai],λc j i=>by rw[Ag _ _ j,Ag _ _ i,Ag _ _ j,Ag _ _ i]⟩
 refine ZO (SizeOf.sizeOf t+1) t (by omega) m (by omega) (by omega) λH' k _ _=>⟨_,k.w,rfl,h H' λc l=>k.f c (λe=>l (by grind)) (λe=>l (by grind))⟩
end
section
abbrev Sz:Af:={Bool:=false,Lo:=0,Hi:=0}
abbrev N6:Af:={Bool:=true,Lo:=0,Hi:=0}
def Fe(lo hi:Int):Af×Int:=if lo < -1048576∨1048576<hi∨hi<lo∨4096<hi-lo then (Sz,2) else ({Bool:=false,Lo:=lo,Hi:=hi},0)
variable {H:HY} {X:PX} {Q:Af×Int×Unit->UU}
theorem E5{lo hi:Int}(h:Q ((Fe lo hi).1,(Fe lo hi).2,()) () H):Wp Y0 Bz Br (lo,hi,()) H Q X:=by
 refine wF Tryz.f220 {} (?_:KB lo hi H Q X);unfold KB;have a:(lo < -1048576∨1048576<hi∨hi<lo∨4096<hi-lo)->Q (Sz,2,()) () H:=λc=>by simp_all[Fe]
 refine⟨λb=>a (.inl b),λb=>⟨λe=>a (.inr (.inl e)),λe=>⟨λf=>a (.inr (.inr (.inl f))),λf _ _=>⟨A7.2 (by omega),λd=>a (.inr (.inr (.inr d))),λd=>?_⟩⟩⟩⟩;simp_all[Fe]
def TyR(y:Af):Prop:=-1048576<=y.Lo/\y.Lo<=y.Hi/\y.Hi<=1048576/\(y.Bool=true->y=N6)
theorem ZW{lo hi:Int}(h:(Fe lo hi).2=0):TyR (Fe lo hi).1/\(Fe lo hi).1={Bool:=false,Lo:=lo,Hi:=hi}:=by
 unfold Fe at h ⊢;by_cases c:lo < -1048576∨1048576<hi∨hi<lo∨4096<hi-lo
 .grind
 .rw[if_neg c];exact⟨⟨by grind,by grind,by grind,λe=>by cases e⟩,rfl⟩
def KA(l:List Af):Af×Int:=if l.all (·.Bool)=true then (N6,0) else (Sz,13)
theorem TR{l:List Af}(u:l.length<=1000)(h:Q ((KA l).1,(KA l).2,()) () H):Wp Y0 Eb D4 (l,()) H Q X:=by
 refine wF Tryz.f221 {lp:=[(2,⟨[(2,.blk [.dat .bool,.dat I6,.dat I6]),(8,.nat)],[6,7],false⟩)]} (?_:l.length<=2^63-1->∃(V:Nat->(Bool×Int×Int×UT)×Nat×UT->Prop),(∃(n:Nat),H=H/\V n ((false,0,0,()),0,()))/\∀n x,V n x->(x.2.1<l.length->x.2.1<=2^63-1->∃(h:x.2.1<l.length),(¬l[x.2.1].Bool->Q ({Bool:=false,Lo:=0,Hi:=0:Af},13,()) () H)/\(¬¬l[x.2.1].Bool->x.2.1+1<=2^63-1/\∃m,m<n/\H=H/\V m ((x.1.1,x.1.2.1,x.1.2.2.1,()),x.2.1+1,())))/\(¬x.2.1<l.length->Q ({Bool:=true,Lo:=0,Hi:=0:Af},0,()) () H));refine λ_=>⟨λm z=>m=l.length-z.2.1/\z.2.1<=l.length/\∀i(a:i<l.length),i<z.2.1->l[i].Bool=true,⟨_,rfl,rfl,a5 _,λi _ a=>absurd a (ad _)⟩,?_⟩
 rintro m ⟨⟨x,y,z,_⟩,k,_⟩ ⟨o,n,b⟩;have v:m=l.length-k:=o;have t:k<=l.length:=n;have p:∀i(a:i<l.length),i<k->l[i].Bool=true:=b;unfold KA at h;refine⟨λd _=>?_,λj=>?_⟩
 .have f:k<l.length:=d;refine⟨f,λg=>?_,λg=>⟨by grind,l.length-(k+1),by omega,rfl,rfl,by grind,λi a c=>?_⟩⟩;all_goals grind
 .have s:¬k<l.length:=j;rw[if_pos (cj.2 λx r=>by obtain⟨i,a,rfl⟩:=ae r;grind)]at h
  exact h
def Oa(op:Int)(a b:Af):Af×Int:=
 if op=15 then Fe (a.Lo + -b.Hi) (a.Hi + -b.Lo) else if op=14 then Fe (a.Lo+b.Lo) (a.Hi+b.Hi)
 else Fe (GZ false (a.Lo*b.Lo) [(.i64,a.Lo*b.Hi),(.i64,a.Hi*b.Lo),(.i64,a.Hi*b.Hi)]) (GZ true (a.Lo*b.Lo) [(.i64,a.Lo*b.Hi),(.i64,a.Hi*b.Lo),(.i64,a.Hi*b.Hi)])
theorem Rc{op:Int}{a b:Af}(g:TyR a)(f:TyR b)(h:Q ((Oa op a b).1,(Oa op a b).2,()) () H):Wp Y0 GQ EP (op,a,b,()) H Q X:=by
 refine wF Tryz.f222 {im:=[4]} (?_:GD op a b H Q X);unfold GD;obtain⟨s,o,r,_⟩:=g;obtain⟨j,m,n,_⟩:=f;unfold Oa at h;have c:∀x y:Int,-1048576<=x->x<=1048576->-1048576<=y->y<=1048576->Bn .i64 (x*y):=λx y k q l p=>by have:=Agh (x:=x) (y:=y) (by omega) (by omega);grind[A7]
 refine⟨λe _=>⟨A7.2 (by omega),λ_=>⟨A7.2 (by omega),λ_ _ _=>⟨A7.2 (by omega),λ_ _=>⟨A7.2 (by omega),E5 ?_⟩⟩,λi=>absurd rfl i⟩⟩,λe=>⟨λd _ _=>⟨A7.2 (by omega),λ_ _=>⟨A7.2 (by omega),E5 ?_⟩⟩,λd _ _=>⟨c _ _ (by omega) (by omega) (by omega) (by omega),λ_ _=>⟨c _ _ (by omega) (by omega) (by omega) (by omega),λ_ _=>⟨c _ _ (by omega) (by omega) (by omega) (by omega),λ_ _=>⟨c _ _ (by omega) (by omega) (by omega) (by omega),E5 ?_⟩⟩⟩⟩⟩⟩;all_goals grind
def Wf(vars:List Ar)(m:List (ByteArray×Int)):Prop:=∀nm,Ad m nm=if Cl vars nm<vars.length then some (Cl vars nm:Int) else none
theorem XK{l:List Ar}{v:Ar}{nm:ByteArray}:Cl (l++[v]) nm=if Cl l nm<l.length then Cl l nm else if v.Name=nm then l.length else l.length+1:=by grind[Cl]
theorem UC{vars:List Ar}{Q:List (ByteArray×Int)×Unit->UU}(y:vars.length<=1000)(h:∀m,Wf vars m->Q (m,()) () H):Wp Y0 Mc JC (vars,()) H Q X:=by
 refine wF Tryz.f92 {lp:=[(3,⟨[(3,.map .str I6),(11,.nat)],[9,10],false⟩)]} (?_:J9 vars H Q X);unfold J9;refine λ_=>⟨λn z=>n=vars.length-z.2.1/\z.2.1<=vars.length/\Wf (vars.take z.2.1) z.1,⟨_,rfl,rfl,a5 _,λb=>rfl⟩,?_⟩
 rintro n ⟨m,k,_⟩ ⟨p,d,i⟩;have A:n=vars.length-k:=p;have x:k<=vars.length:=d;have q:Wf (vars.take k) m:=i;refine⟨λl _=>?_,λs=>?_⟩
 .have r:k<vars.length:=l;have v:vars.take (k+1)=vars.take k++[vars[k]]:=a4 r;have j:(vars.take k).length=k:=by grind
  have c:(vars.take (k+1)).length=k+1:=by grind
  have d:=q vars[k].Name;refine⟨r,λg=>⟨by grind,vars.length-(k+1),by omega,rfl,rfl,by grind,λb=>?_⟩,λa=>⟨by show k+1<=_;omega,vars.length-(k+1),by omega,rfl,rfl,by grind,λb=>?_⟩⟩
  .have g:¬(Ad m vars[k].Name).isSome=true:=g;have o:¬Cl (vars.take k) vars[k].Name<(vars.take k).length:=λu=>by grind
   show Ad (BR m vars[k].Name (k:Int)) b=if Cl (vars.take (k+1)) b<(vars.take (k+1)).length then some (Cl (vars.take (k+1)) b:Int) else none
   rw[c,v,XK,Cw];by_cases e:vars[k].Name=b
   .subst e;rw[if_neg o,if_pos rfl,if_pos rfl,if_pos (by omega),j]
   .rw[if_neg (Ne.symm e),q b];grind
  .have a:¬¬(Ad m vars[k].Name).isSome=true:=a;have t:Cl (vars.take k) vars[k].Name<(vars.take k).length:=a7 λu=>by grind
   show Ad m b=if Cl (vars.take (k+1)) b<(vars.take (k+1)).length then some (Cl (vars.take (k+1)) b:Int) else none
   rw[c,v,XK,q b];grind
 grind
def R5(vars:List Ar)(op:Int)(nm:ByteArray)(next:Bool):Af×Int:=match vars[Cl vars nm]? with
 |none=>(Sz,12)
 |some v=>if op=4/\next=false then (Sz,24) else if v.Bool=true then (N6,0) else Fe v.Lo v.Hi
def ifE(l:List Af):Af×Int:=match l with
 | [a,b,c]=>if ¬a.Bool=true∨b.Bool≠c.Bool then (Sz,13) else if b.Bool=true then (b,0) else Fe (GZ false b.Lo [(.i64,c.Lo)]) (GZ true b.Hi [(.i64,c.Hi)])
 |_=>(Sz,0)
def eqE(l:List Af):Af×Int:=match l with
 | [a,b]=>if a.Bool≠b.Bool then (Sz,13) else (N6,0)
 |_=>(Sz,0)
def Ai6(ks:List Ae):Af×Int:=match ks with
 | [_,k]=>if k.Op≠1∨k.N<1 then (Sz,2) else Fe 0 (k.N-1)
 |_=>(Sz,0)
def Aq2(op:Int)(ks:List Ae)(l:List Af):Af×Int:=match l with
 | [a,b]=>if a.Bool=true∨b.Bool=true then (Sz,13) else if op=12∨op=13 then (N6,0) else if op=17 then Ai6 ks else Oa op a b
 |_=>(Sz,0)
def Cp(vars:List Ar)(next:Bool)(t:Ae)(l:List Af):Af×Int:=
 if t.Op=1 then Fe t.N t.N else if t.Op=2 then (N6,0) else if t.Op=3∨t.Op=4 then R5 vars t.Op t.Name next
 else if 5<=t.Op/\t.Op<=9 then KA l else if t.Op=18 then ifE l else if t.Op=10∨t.Op=11 then eqE l else Aq2 t.Op t.Kids l
theorem Agk(a:Int):(G0 a).2<=64:=by unfold G0;(repeat' split)<;>decide
theorem nb:∀x y:Bool,(not (decide (x=true)==decide (y=true))=true)↔x≠y:=by decide
theorem Wv{vars:List Ar}{at_:List (ByteArray×Int)}{t:Ae}{next:Bool}{l:List Af}{Q:Af×Int×Unit->List (ByteArray×Int)×Unit->HP}(_:vars.length<=1000)(hm:Wf vars at_)(n:CA t=0)(R:l.length=t.Kids.length)(W:∀y∈l,TyR y)(h:Q ((Cp vars next t l).1,(Cp vars next t l).2,()) (at_,()) H):Wp Y0 GR Fj (vars,at_,t,next,l,()) H Q X:=by
 refine wF Tryz.f167 {im:=[7]} (?_:Ev vars at_ t next l H Q X);unfold Ev;have d:∀y e,Cp vars next t l=(y,e)->Q (y,e,()) (at_,()) H:=λy e he=>by grind
 have r:0<=(G0 t.Op).1/\(G0 t.Op).1<=(t.Kids.length:Int)/\(t.Kids.length:Int)<=(G0 t.Op).2:=by grind[CA,absurd]
 have l64:l.length<=64:=by grind[G0,Agk]
 have L:8<=t.Op->t.Op<=17->∃a b,l=[a,b]:=λs C=>by
  have e:G0 t.Op=(2,2):=by unfold G0;rw[if_neg (by omega),if_neg (by omega),if_neg (by omega),if_pos (by omega)]
  rw[e]at r;have M:(2:Int)<=t.Kids.length:=r.2.1;have T:(t.Kids.length:Int)<=2:=r.2.2;match l,(show l.length=2 by omega) with
  | [a,b],_=>simp
 have l3:t.Op=18->∃a b c,l=[a,b,c]:=λs=>by
  have e:G0 t.Op=(3,3):=by rw[s];rfl
  rw[e]at r;have M:(3:Int)<=t.Kids.length:=r.2.1;have T:(t.Kids.length:Int)<=3:=r.2.2;match l,(show l.length=3 by omega) with
  | [a,b,c],_=>simp
 have Y:(t.Op=3∨t.Op=4)->(¬(Ad at_ t.Name).isSome=true->Q ({Bool:=false,Lo:=(0:Int),Hi:=(0:Int):Af},12,()) (at_,()) H)/\(¬¬(Ad at_ t.Name).isSome=true->(t.Op=(4:Int)->(¬next=true->Q ({Bool:=false,Lo:=(0:Int),Hi:=(0:Int):Af},24,()) (at_,()) H)/\(¬¬next=true->Bn .i64 ((Ad at_ t.Name).getD 0)->(Bn .i64 ((Ad at_ t.Name).getD 0)->(0:Int)<=(Ad at_ t.Name).getD 0)/\∃(h:((Ad at_ t.Name).getD 0).toNat<vars.length),(vars[((Ad at_ t.Name).getD 0).toNat].Bool=true->Q ({Bool:=true,Lo:=(0:Int),Hi:=(0:Int):Af},0,()) (at_,()) H)/\(¬vars[((Ad at_ t.Name).getD 0).toNat].Bool=true->Bn .i64 ((Ad at_ t.Name).getD 0)->(Bn .i64 ((Ad at_ t.Name).getD 0)->(0:Int)<=(Ad at_ t.Name).getD 0)/\∃(h:((Ad at_ t.Name).getD 0).toNat<vars.length),Bn .i64 ((Ad at_ t.Name).getD 0)->(Bn .i64 ((Ad at_ t.Name).getD 0)->(0:Int)<=(Ad at_ t.Name).getD 0)/\∃(z:((Ad at_ t.Name).getD 0).toNat<vars.length),Wp Y0 Bz Br (vars[((Ad at_ t.Name).getD 0).toNat].Lo,vars[((Ad at_ t.Name).getD 0).toNat].Hi,()) H (λ(b:Af×Int×Unit)(Z:Unit)(B:HY)=>Q (b.1,b.2.1,()) (at_,()) B) X)))/\(¬t.Op=(4:Int)->Bn .i64 ((Ad at_ t.Name).getD 0)->(Bn .i64 ((Ad at_ t.Name).getD 0)->(0:Int)<=(Ad at_ t.Name).getD 0)/\∃(h:((Ad at_ t.Name).getD 0).toNat<vars.length),(vars[((Ad at_ t.Name).getD 0).toNat].Bool=true->Q ({Bool:=true,Lo:=(0:Int),Hi:=(0:Int):Af},0,()) (at_,()) H)/\(¬vars[((Ad at_ t.Name).getD 0).toNat].Bool=true->Bn .i64 ((Ad at_ t.Name).getD 0)->(Bn .i64 ((Ad at_ t.Name).getD 0)->(0:Int)<=(Ad at_ t.Name).getD 0)/\∃(h:((Ad at_ t.Name).getD 0).toNat<vars.length),Bn .i64 ((Ad at_ t.Name).getD 0)->(Bn .i64 ((Ad at_ t.Name).getD 0)->(0:Int)<=(Ad at_ t.Name).getD 0)/\∃(z:((Ad at_ t.Name).getD 0).toNat<vars.length),Wp Y0 Bz Br (vars[((Ad at_ t.Name).getD 0).toNat].Lo,vars[((Ad at_ t.Name).getD 0).toNat].Hi,()) H (λ(b:Af×Int×Unit)(Z:Unit)(B:HY)=>Q (b.1,b.2.1,()) (at_,()) B) X))):=λq=>by
  have g:Cp vars next t l=R5 vars t.Op t.Name next:=by unfold Cp;rw[if_neg (by omega),if_neg (by omega),if_pos q]
  have A:=hm t.Name;refine⟨λG=>d _ _ ?_,λG=>?_⟩
  .have p:¬Cl vars t.Name<vars.length:=λi=>by grind
   rw[g];unfold R5;rw[ah (by omega)]
  .have u:Cl vars t.Name<vars.length:=a7 λi=>G (by grind);rw[A,if_pos u,bu,Int.toNat_natCast];have J:Cp vars next t l=if t.Op=4/\next=false then (Sz,24) else if vars[Cl vars t.Name].Bool=true then (N6,0) else Fe vars[Cl vars t.Name].Lo vars[Cl vars t.Name].Hi:=by rw[g];unfold R5;rw[a6 u]
   have F:¬(t.Op=4/\next=false)->(Bn .i64 (Cl vars t.Name:Int)->(Bn .i64 (Cl vars t.Name:Int)->(0:Int)<=(Cl vars t.Name:Int))/\∃(h:Cl vars t.Name<vars.length),(vars[Cl vars t.Name].Bool=true->Q (N6,0,()) (at_,()) H)/\(¬vars[Cl vars t.Name].Bool=true->Bn .i64 (Cl vars t.Name:Int)->(Bn .i64 (Cl vars t.Name:Int)->(0:Int)<=(Cl vars t.Name:Int))/\∃(h:Cl vars t.Name<vars.length),Bn .i64 (Cl vars t.Name:Int)->(Bn .i64 (Cl vars t.Name:Int)->(0:Int)<=(Cl vars t.Name:Int))/\∃(z:Cl vars t.Name<vars.length),Wp Y0 Bz Br (vars[Cl vars t.Name].Lo,vars[Cl vars t.Name].Hi,()) H
     (λ(b:Af×Int×Unit)(Z:Unit)(B:HY)=>Q (b.1,b.2.1,()) (at_,()) B) X)):=λj _=>by
    rw[if_neg j]at J
    refine⟨λ_=>ax _,u,λf=>d _ _ (by rw[J,if_pos f]),λf _=>⟨λ_=>ax _,u,λ_=>⟨λ_=>ax _,u,E5 (d _ _ (by rw[J,if_neg f]))⟩⟩⟩
   refine⟨λK=>⟨λv=>d _ _ ?_,λv=>F λj=>v (by grind)⟩,λK=>F λj=>K j.1⟩;rw[J,if_pos ⟨K,by grind⟩]
 have P5:5<=t.Op->t.Op<=9->Cp vars next t l=KA l:=λs C=>by unfold Cp;rw[if_neg (by omega),if_neg (by omega),if_neg (by omega),if_pos ⟨s,C⟩]
 have O:¬(t.Op=1∨t.Op=2∨t.Op=3∨t.Op=4∨(5<=t.Op/\t.Op<=9))->Cp vars next t l=if t.Op=18 then ifE l else if t.Op=10∨t.Op=11 then eqE l else Aq2 t.Op t.Kids l:=λi=>by unfold Cp;rw[if_neg (by omega),if_neg (by omega),if_neg (by omega),if_neg (by omega)]
 have D:5<=t.Op->t.Op<=9->Wp Y0 Eb D4 (l,()) H (λ(b:Af×Int×Unit)(_:Unit)(B:HY)=>Q (b.1,b.2.1,()) (at_,()) B) X:=λs C=>TR (by omega) (d _ _ (P5 s C));have V:∀a b,l=[a,b]->(t.Op=10∨t.Op=11)->(True->(0:Int)<=0)/\∃(h:an (0:Int)<[a,b].length),(True->(0:Int)<=1)/\∃(z:an (1:Int)<[a,b].length),(not (decide ([a,b][an (0:Int)].Bool=true)==decide ([a,b][an (1:Int)].Bool=true))=true->Q ({Bool:=false,Lo:=(0:Int),Hi:=(0:Int):Af},13,()) (at_,()) H)/\(¬not (decide ([a,b][an (0:Int)].Bool=true)==decide ([a,b][an (1:Int)].Bool=true))=true->Q ({Bool:=true,Lo:=(0:Int),Hi:=(0:Int):Af},0,()) (at_,()) H):=λa b R q=>by
  have g:Cp vars next t l=if a.Bool≠b.Bool then (Sz,13) else (N6,0):=by rw[O (by omega),if_neg (by omega),if_pos q,R];rfl
  grind
 refine⟨λe1=>E5 (d _ _ (by unfold Cp;rw[if_pos e1])),λn1=>⟨λe2=>d _ _ (by unfold Cp;rw[if_neg n1,if_pos e2]),λn2=>⟨λe3=>Y (.inl e3),λn3=>⟨λe4=>Y (.inr e4),λn4=>⟨λe=>D (by omega) (by omega),λn5=>⟨λe=>D (by omega) (by omega),λn6=>⟨λe=>D (by omega) (by omega),λn7=>⟨λe=>D (by omega) (by omega),λn8=>⟨λe=>D (by omega) (by omega),λn9=>⟨λe=>?_,λn18=>⟨λe=>?_,λn10=>⟨λe=>?_,λn11=>?_⟩⟩⟩⟩⟩⟩⟩⟩⟩⟩⟩⟩
 .obtain⟨a,b,c,rfl⟩:=l3 e;have g:Cp vars next t [a,b,c]=if ¬a.Bool=true∨b.Bool≠c.Bool then (Sz,13) else if b.Bool=true then (b,0) else Fe (GZ false b.Lo [(.i64,c.Lo)]) (GZ true b.Hi [(.i64,c.Hi)]):=by rw[O (by omega),if_pos e];rfl
  refine⟨λ_=>by decide,by simp,λp=>d _ _ ?_,λp=>⟨λ_=>by decide,by simp,λ_=>by decide,by simp,λf=>d _ _ ?_,λf=>⟨λ_=>by decide,by simp,λj=>⟨λ_=>by decide,by simp,d _ _ ?_⟩,λj=>⟨λ_=>by decide,by simp,λ_=>by decide,by simp,λ_=>by decide,by simp,λ_=>by decide,by simp,E5 (d _ _ ?_)⟩⟩⟩⟩;all_goals grind
 .grind
 .grind
 .have Mp:1<=t.Op/\t.Op<=18:=by
   refine a7 λi=>?_;have:G0 t.Op=(-1,-1):=by unfold G0;rw[if_neg (by omega),if_neg (by omega),if_neg (by omega),if_neg (by omega),if_neg (by omega)]
   rw[this]at r;exact absurd r.1 (by decide)
  obtain⟨a,b,rfl⟩:=L (by omega) (by omega);obtain⟨I,o,x⟩:∃I o,t.Kids=[I,o]:=by
   match t.Kids,(show t.Kids.length=2 from R.symm) with
   | [I,o],_=>exact⟨I,o,rfl⟩
  have w:1<t.Kids.length:=by rw[x];show 1<2;decide
  have k:t.Kids[an (1:Int)]'w=o:=by simp [x]
  have g:Cp vars next t [a,b]=if a.Bool=true∨b.Bool=true then (Sz,13) else if t.Op=12∨t.Op=13 then (N6,0) else if t.Op=17 then Ai6 t.Kids else Oa t.Op a b:=by rw[O (by omega),if_neg (by omega),if_neg (by omega)];rfl
  have U:Ai6 t.Kids=if o.Op≠1∨o.N<1 then (Sz,2) else Fe 0 (o.N-1):=by rw[x];rfl
  refine⟨λ_=>by decide,by show 0<2;decide,λS=>d _ _ (by rw[g,if_pos (.inl S)]),λS=>⟨λ_=>by decide,by show 1<2;decide,λf=>d _ _ (by rw[g,if_pos (.inr f)]),λf=>?_⟩⟩;have P:¬(a.Bool=true∨b.Bool=true):=λi=>i.elim S f;rw[if_neg P]at g;refine⟨λe=>d _ _ (by rw[g,if_pos (.inl e)]),λe12=>⟨λe=>d _ _ (by rw[g,if_pos (.inr e)]),λe13=>⟨λm=>⟨λ_=>by decide,w,λq=>d _ _ ?_,λq=>⟨λE=>d _ _ ?_,λE=>⟨λ_=>by decide,w,λu=>⟨?_,?_⟩⟩⟩⟩,λm=>⟨λ_=>by decide,by show 0<2;decide,λ_=>by decide,by show 1<2;decide,Rc (W a (by simp)) (W b (by simp)) (d _ _ ?_)⟩⟩⟩⟩;all_goals rw[if_neg (by omega)]at g
  .rw[k]at q;rw[g,if_pos m,U,if_pos (.inl q)]
  .rw[k]at E;rw[g,if_pos m,U,if_pos (.inr E)]
  .rw[k]at E u ⊢;have:=A7.1 u;exact A7.2 (by omega)
  .rw[k]at E q;show Wp Y0 Bz Br (0,t.Kids[an (1:Int)].N-1,()) H _ X;rw[k];refine E5 (d _ _ ?_);rw[g,if_pos m,U,if_neg (by omega)]
  grind
mutual
def Bf(vars:List Ar)(next:Bool):Ae->Af×Int
 |⟨op,n,nm,ks⟩=>let r:=Ct vars next ks;if r.2=0 then Cp vars next ⟨op,n,nm,ks⟩ r.1 else (Sz,r.2)
def Ct(vars:List Ar)(next:Bool):List Ae->List Af×Int
 | []=>([],0)
 |t::ts=>let y:=Bf vars next t;let r:=Ct vars next ts;if y.2=0 then if r.2=0 then (y.1::r.1,0) else ([],r.2) else ([],y.2)
end
theorem Yx(vars:List Ar)(next:Bool)(t:Ae):Bf vars next t=if (Ct vars next t.Kids).2=0 then Cp vars next t (Ct vars next t.Kids).1 else (Sz,(Ct vars next t.Kids).2):=by cases t;rfl
theorem FZ(vars:List Ar)(next:Bool)(t:Ae)(ts:List Ae):Ct vars next (t::ts)=if (Bf vars next t).2=0 then if (Ct vars next ts).2=0 then ((Bf vars next t).1::(Ct vars next ts).1,0) else ([],(Ct vars next ts).2) else ([],(Bf vars next t).2):=by rw[Ct]
theorem U6{vars:List Ar}{next:Bool}(t:Ae):∀(l:List Ae){ys:List Af},Ct vars next l=(ys,0)->Ct vars next (l++[t])=if (Bf vars next t).2=0 then (ys++[(Bf vars next t).1],0) else ([],(Bf vars next t).2)
 | [],ys,h=>by grind[Ct,FZ]
 |s::l,ys,h=>by
  show Ct vars next (s::(l++[t]))=_;rw[FZ]at h ⊢;by_cases e:(Bf vars next s).2=0
  .rw[if_pos e]at h ⊢;by_cases b:(Ct vars next l).2=0
   .rw[if_pos b]at h;have c:=U6 t l (ys:=(Ct vars next l).1) (ct rfl b);grind
   grind
  grind
theorem Xk{vars:List Ar}{next:Bool}(a:List Ae):∀(l:List Ae),(Ct vars next l).2≠0->Ct vars next (l++a)=Ct vars next l
 | [],h=>by grind[Ct]
 |s::l,h=>by
  show Ct vars next (s::(l++a))=_;rw[FZ]at h ⊢;rw[FZ];by_cases e:(Bf vars next s).2=0
  .rw[if_pos e]at h ⊢;rw[if_pos e];by_cases b:(Ct vars next l).2=0
   .grind
   .rw[Xk a l b]
  grind
theorem Xi{vars:List Ar}{next:Bool}:∀(l:List Ae),(Ct vars next l).2=0->(Ct vars next l).1.length=l.length
 | [],_=>by rfl
 |s::l,h=>by
  rw[FZ]at h ⊢;by_cases e:(Bf vars next s).2=0
  .rw[if_pos e]at h ⊢;by_cases a:(Ct vars next l).2=0;all_goals simp_all[Xi]
  grind
theorem Ra:TyR N6:=⟨by decide,by decide,by decide,λ_=>rfl⟩
variable {vars:List Ar} {next:Bool} {t:Ae}
theorem Al6{l:List Af}(n:∀y∈l,TyR y)(h:(Cp vars next t l).2=0):(Cp vars next t l).1=Sz∨TyR (Cp vars next t l).1:=by
 have d:∀f g,(Fe f g).2=0->TyR (Fe f g).1:=λf g m=>(ZW m).1;unfold Cp at h ⊢;split at h
 .grind
 rename_i o;rw[if_neg o];split at h
 .simp_all[Ra]
 rename_i j;rw[if_neg j];split at h
 .rename_i e;rw[if_pos e];unfold R5 at h ⊢;cases i:vars[Cl vars t.Name]? with
  |none=>simp
  |some v=>
   rw[i]at h;dsimp only at h ⊢;split at h
   .omega
   .rename_i c;rw[if_neg c];split at h;all_goals simp_all[Ra]
 rename_i s;rw[if_neg s];split at h
 .rename_i e;rw[if_pos e];unfold KA at h ⊢;split at h;all_goals simp_all[Ra]
 rename_i p;rw[if_neg p];split at h
 .rename_i e;rw[if_pos e];unfold ifE at h ⊢;grind
 rename_i k;rw[if_neg k];split at h
 .rename_i e;rw[if_pos e];unfold eqE at h ⊢;split at h
  .split at h;all_goals simp_all[Ra]
  simp
 rename_i r;rw[if_neg r];unfold Aq2 at h ⊢;split at h
 .split at h
  .omega
  .rename_i q;rw[if_neg q];split at h
   .simp_all[Ra]
   .rename_i q;rw[if_neg q];split at h
    .rename_i q;rw[if_pos q];unfold Ai6 at h ⊢;grind
    .rename_i q;rw[if_neg q];grind[Oa]
 simp
theorem Aus:TyR Sz:=⟨by decide,by decide,by decide,λh=>by cases h⟩
theorem Adx{l:List Af}(a:∀y∈l,TyR y)(h:(Cp vars next t l).2=0):TyR (Cp vars next t l).1:=by grind[Al6,Aus]
inductive Yk:Ae->Prop
 |mk {t:Ae}:CA t=0->(∀k∈t.Kids,Yk k)->Yk t
theorem Ms{k:Ae}(h:k∈t.Kids):SizeOf.sizeOf k<SizeOf.sizeOf t:=by
 have a:=c1 h;have b:SizeOf.sizeOf t.Kids<SizeOf.sizeOf t:=by cases t;grind
 omega
theorem Z5:∀(z:Nat)(t:Ae)(deep n:Int),SizeOf.sizeOf t<z->(GX deep n t).2=0->Yk t
 |0,_,_,_,g,_=>absurd g (ad _)
 |z+1,t,deep,n,g,h=>by
  rw[Uy]at h;split at h
  .omega
  .split at h
   .rename_i d;split at h
    .omega
    .refine .mk d ?_;have f:∀(l:List Ae)(m:Int),(∀k∈l,k∈t.Kids)->(Ee (deep+1) m l).2=0->∀k∈l,Yk k:=by
      intro l;induction l with
      |nil=>simp
      |cons s l i=>
       intro m a c k b;unfold Ee at c;simp only at c;by_cases e:(GX (deep+1) m s).2=0
       .rw[if_pos e]at c;rcases ay.1 b with rfl|b
        .exact Z5 z _ _ _ (by have:=Ms (a k ak);omega) e
        grind
       grind
     grind
   omega
theorem SH{vars:List Ar}{next:Bool}:∀(z:Nat)(t:Ae),SizeOf.sizeOf t<z->(Bf vars next t).2=0->TyR (Bf vars next t).1
 |0,_,g,_=>absurd g (ad _)
 |z+1,t,g,h=>by
  rw[Yx]at h ⊢;by_cases e:(Ct vars next t.Kids).2=0
  .rw[if_pos e]at h ⊢;refine Adx ?_ h;have f:∀(l:List Ae),(∀k∈l,k∈t.Kids)->(Ct vars next l).2=0->∀y∈(Ct vars next l).1,TyR y:=by
    intro l;induction l with
    |nil=>grind[Ct]
    |cons s l j=>
     intro b c y a;rw[FZ]at c a;by_cases e:(Bf vars next s).2=0
     .rw[if_pos e]at c a;by_cases d:(Ct vars next l).2=0
      .rw[if_pos d]at a;rcases ay.1 a with rfl|a
       .exact SH z s (by have:=Ms (b s ak);omega) e
       grind
      grind
     grind
   grind
  grind
theorem NN{vars:List Ar}{at_:List (ByteArray×Int)}{next:Bool}{X:PX}(J:vars.length<=1000)(K:Wf vars at_):∀(z:Nat)(t:Ae){H:HY}{Q:Af×Int×Unit->List (ByteArray×Int)×Unit->HP},SizeOf.sizeOf t<z->Yk t->Q ((Bf vars next t).1,(Bf vars next t).2,()) (at_,()) H->Wp Y0 DP Dy (vars,at_,t,next,()) H Q X
 |0,_,_,_,L,_,_=>absurd L (ad _)
 |z+1,t,H,Q,L,T,h=>by
  apply LJ;unfold J8;obtain⟨f,O⟩:CA t=0/\∀k∈t.Kids,Yk k:=by cases T with|mk a b=>exact⟨a,b⟩
  have C:(Ct vars next t.Kids).2=0->∀y∈(Ct vars next t.Kids).1,TyR y:=λe=>by
   have E:∀(l:List Ae),(Ct vars next l).2=0->∀y∈(Ct vars next l).1,TyR y:=by
    intro l;induction l with
    |nil=>intro _ y c;rw[Ct]at c;cases c
    |cons s l R=>
     intro o y c;rw[FZ]at o c;by_cases e:(Bf vars next s).2=0
     .rw[if_pos e]at o c;by_cases B:(Ct vars next l).2=0
      .rw[if_pos B]at c;rcases ay.1 c with rfl|c
       .exact SH _ s (aj _) e
       .exact R B y c
      .rw[if_neg B]at o;exact absurd o B
     .rw[if_neg e]at o;exact absurd o e
   exact E _ e
  have ar:(t.Kids.length:Int)<=64:=by
   have a1:(t.Kids.length:Int)<=(G0 t.Op).2:=by
    unfold CA at f;split at f
    .exact absurd f (by decide)
    .split at f
     .exact absurd f (by decide)
     .split at f
      .exact absurd f (by decide)
      .split at f
       .exact absurd f (by decide)
       .omega
   have V:(G0 t.Op).2<=64:=Agk t.Op;omega
  rw[Yx]at h;refine λ_=>⟨λn x=>n=t.Kids.length-x.2.2.2.1/\x.2.2.2.1<=t.Kids.length/\x.1=at_/\Ct vars next (t.Kids.take x.2.2.2.1)=(x.2.2.1,0),⟨_,rfl,rfl,a5 _,rfl,by show Ct vars next []=_;rw[Ct]⟩,?_⟩
  rintro n ⟨m,⟨Y,Z,W,_⟩,D,i,_⟩ ⟨r,A,p,w⟩;have U:n=t.Kids.length-i:=r;have hi:i<=t.Kids.length:=A;have F:m=at_:=p
  have c:Ct vars next (t.Kids.take i)=(D,0):=w;subst F;have G:D.length=i:=by grind[Xi,aw,min]
  refine⟨λu _=>?_,λq=>?_⟩
  .have g:i<t.Kids.length:=u;have I:t.Kids.take (i+1)=t.Kids.take i++[t.Kids[i]]:=a4 g;have d:=U6 (vars:=vars) (next:=next) t.Kids[i] _ c;rw[<-I]at d;refine⟨g,?_⟩;show Wp Y0 DP Dy (vars,m,Ae.mk t.Kids[i].Op t.Kids[i].N t.Kids[i].Name t.Kids[i].Kids,next,()) H _ X;rw[Re];refine NN J K z t.Kids[i] (by have:=Ms (ac g);omega) (O _ (ac g)) ⟨λv=>?_,λj=>⟨by grind,by grind,t.Kids.length-(i+1),by omega,rfl,rfl,by grind,rfl,?_⟩⟩
   .have v:¬(Bf vars next t.Kids[i]).2=0:=v;rw[if_neg v]at d;have M:Ct vars next t.Kids=([],(Bf vars next t.Kids[i]).2):=by have:=Xk (vars:=vars) (next:=next) (t.Kids.drop (i+1)) (t.Kids.take (i+1)) (by grind);rw[c8]at this;rw[this,d]
    grind
   grind
  .have P:¬i<t.Kids.length:=q;have S:i=t.Kids.length:=by omega
   subst S;rw[bh]at c;rw[c,if_pos rfl]at h;grind[Wv]
def Nq(vars:List Ar)(next:Bool)(t:Ae):Af×Int:=if (GX 1 0 t).2=0 then Bf vars next t else (Sz,(GX 1 0 t).2)
theorem PL{H:HY}{X:PX}{Q:Af×Int×Unit->UU}(b:vars.length<=1000)(h:∀H',(∀c,H c≠none->H' c=H c)->Q ((Nq vars next t).1,(Nq vars next t).2,()) () H'):Wp Y0 Fx Ey (vars,t,next,()) H Q X:=by
 refine wF Tryz.f41 {im:=[4]} (?_:KC vars t next H Q X);unfold KC;refine UD λH' f=>⟨λa=>?_,λa=>?_⟩
 .simp_all[Nq]
 .have a:(GX 1 0 t).2=0:=au.1 a;refine UC b λm d=>NN b d (SizeOf.sizeOf t+1) t (by omega) (Z5 _ t _ _ (aj _) a) ?_;simp_all[Nq]
end
section
def A5s(L:Ac)(n0:Int)(t:Ae)(F:B.Fn)(c pk:Nat):Prop:=∀{wb b:Nat}{M0 M:Mn}{lv:List (Int×Bool)}{H:HY}{X:PX}{Q:Int×Unit->UU},WK H wb b M0 M L lv->M.nx+(c:Int)<576460752303420000->M.hs.length+pk<=59900->M.S.n=n0->(∀M' lv' H' r,Wk H H' wb b M0 M M' L lv lv' [(r,F)]->M'.nx<=M.nx+(c:Int)->Q (r,()) () H')->Wp Y0 Ed Dq (some wb,t,()) H Q X
abbrev J5(L:Ac)(n0:Int)(t:Ae)(F:B.Fn):Prop:=A5s L n0 t F (1000000000*DV t) (1025*DV t)
variable {H:HY} {wb b:Nat} {M0 M:Mn} {L:Ac} {lv:List (Int×Bool)} {X:PX}
theorem Wk.A2v{Hb:HY}{Mb:Mn}{lvb:List (Int×Bool)}{hs1 hs:List (Int×B.Fn)}{l:List Int}{F:B.Fn}{J3:FT Y0 [.ptr,.sl I6] [.int .i64,.int .i64]}{Q:Int×Unit->UU}(k:Wk Hb H wb b M0 Mb M L lvb lv (hs1++hs))(s:M.nx<576460752303423486)(d:l=hs1.map (·.1))(r:l.length<=1000)(i:MG H b M->(∀p∈hs1,M.Aq p.1=some p.2)->DoS b M H l F J3)(h:∀M' lv' H',Wk Hb H' wb b M0 Mb M' L lvb lv' ((M.nx,F)::hs)->M'.nx=M.nx+1->Q (M.nx,()) () H'):Wp Y0 Bk AY (some wb,J3,l,()) H Q X:=by
 have g:=k.h.nd;rw[ao,cg]at g;refine NI k.w (by omega) (by omega) (λj c=>?_) (i k.w.mg λp a=>k.h.Aq p (az _ a)) λM' lv' H' q _ u f=>h M' lv' H' (k.step q ?_ f) u.nx
 .rw[d]at c;obtain⟨p,a,rfl⟩:=aa.1 c;exact(k.h.ge p (az _ a)).2
 .have:=k.h.use u (by grind) (λj c=>by grind);have e:((hs1++hs).filter λp=>decide (p.1∉l))=hs:=by
   rw[List.filter_append];have o:(hs1.filter λp=>decide (p.1∉l))=[]:=List.filter_eq_nil_iff.2 λp a=>by grind
   grind[decide,List.filter_eq_self]
  grind
variable {n0:Int} {t:Ae} {Fs:Nat->B.Fn}
theorem Wu(I:∀i(h:i<t.Kids.length),J5 L n0 t.Kids[i] (Fs i)){Q:List Int×Unit->UU}(w:WK H wb b M0 M L lv)(S:M.nx+(1000000000*GG t.Kids:Nat)<576460752303420000)(U:M.hs.length+1025*GG t.Kids<=59900)(P:M.S.n=n0)(g:∀M' lv' H' ps,Wk H H' wb b M0 M M' L lv lv' ps->ps.map (·.2)=(ab t.Kids.length).map Fs->M'.nx<=M.nx+(1000000000*GG t.Kids:Nat)->Q (ps.map (·.1),()) () H'):Wp Y0 Bp Bb (t,some wb,()) H Q X:=by
 refine wF Tryz.f93 {lp:=[(3,⟨[(3,.one (.own I6)),(9,.nat)],[1,7,8],true⟩)]} (?_:t.Kids.length<=2^63-1->∃(V:Nat->List Int×Nat×UT->HP),(∃(n:Nat),V n ([],0,()) H)/\∀n x H,V n x H->(x.2.1<t.Kids.length->x.2.1<=2^63-1->∃(h:x.2.1<t.Kids.length),Wp Y0 Ed Dq ((some wb),{Op:=t.Kids[x.2.1].Op,N:=t.Kids[x.2.1].N,Name:=t.Kids[x.2.1].Name,Kids:=t.Kids[x.2.1].Kids:Ae},()) H (λ(b:Int×UT)_ G=>(x.1.length+[b.1].length)*8<=2^47/\x.2.1+1<=2^63-1/\∃m,m<n/\V m (x.1++[b.1],x.2.1+1,()) G) X)/\(¬x.2.1<t.Kids.length->Q (x.1,()) () H));have D:=Rg t.Kids;refine λ_=>⟨λn z d=>n=t.Kids.length-z.2.1/\z.2.1<=t.Kids.length/\∃q a ps,Wk H d wb b M0 M q L lv a ps/\z.1=ps.map (·.1)/\ps.map (·.2)=(ab z.2.1).map Fs/\q.nx<=M.nx+(1000000000*GG (t.Kids.take z.2.1):Nat),⟨_,rfl,a5 _,M,lv,[],.of w,rfl,rfl,by omega⟩,?_⟩
 rintro n ⟨x,i,_⟩ d ⟨f,u,q,a,ps,m,p,k,o⟩;have F:n=t.Kids.length-i:=f;have Y:i<=t.Kids.length:=u;have A:x=ps.map (·.1):=p;have v:ps.map (·.2)=(ab i).map Fs:=k;have E:q.nx<=M.nx+(1000000000*GG (t.Kids.take i):Nat):=o;have R:ps.length=i:=by have:=congrArg av v;grind
 have J:=m.ln;have Z:=w.ln;refine⟨λs _=>?_,λj=>?_⟩
 .have c:i<t.Kids.length:=s;have V:=Xm c;have s2:=Aqc (l:=t.Kids) (i+1);have T:i<=GG (t.Kids.take i):=by grind[Rg,aw]
  refine⟨c,?_⟩;show Wp Y0 Ed Dq (some wb,Ae.mk t.Kids[i].Op t.Kids[i].N t.Kids[i].Name t.Kids[i].Kids,()) d _ X;rw[Re];refine I i c m.w (by omega) (by omega) (by rw[<-P];exact m.w.bs.n.trans w.bs.n.symm) λC y W r G K=>⟨?_,by grind,t.Kids.length-(i+1),by omega,rfl,by grind,C,y,ps++[(r,Fs i)],?_,?_,?_,?_⟩
  .grind
  .exact(m.trans G).perm (c9)
  .grind
  .show (ps++[(r,Fs i)]).map (·.2)=(ab (i+1)).map Fs;rw[ao,v,bx,ao];rfl
  .show C.nx<=M.nx+(1000000000*GG (t.Kids.take (i+1)):Nat);omega
 grind
theorem I7{F:B.Fn}{J3:FT Y0 [.ptr,.sl I6] [.int .i64,.int .i64]}(s:∀i(h:i<t.Kids.length),J5 L n0 t.Kids[i] (Fs i))(m:t.Kids.length<=64)(f:∀{b:Nat}{M:Mn}{H:HY}{ps:List (Int×B.Fn)},MG H b M->M.nx<576460752303423487->M.hs.length<=60000->(∀p∈ps,M.Aq p.1=some p.2)->ps.map (·.2)=(ab t.Kids.length).map Fs->DoS b M H (ps.map (·.1)) F J3){Q:Int×Unit->UU}(w:WK H wb b M0 M L lv)(I:M.nx+(1000000000*DV t:Nat)<576460752303420000)(J:M.hs.length+1025*DV t<=59900)(v:M.S.n=n0)(c:∀M' lv' a r,Wk H a wb b M0 M M' L lv lv' [(r,F)]->M'.nx<=M.nx+(1000000000*DV t:Nat)->Q (r,()) () a):Wp Y0 Bp Bb (t,some wb,()) H (λ(b:List Int×Unit)(_:Unit)(a:HY)=>Wp Y0 Bk AY (some wb,J3,b.1,()) a (λ(b:Int×Unit)(_:Unit)(a:HY)=>Q (b.1,()) () a) X) X:=by
 have E:=ML t;have G:=Rg t.Kids;refine Wu s w (by omega) (by omega) v λn d y ps l k z=>?_;have q:ps.length=t.Kids.length:=by have:=congrArg av k;grind
 have A:=l.ln;have K:=w.ln;have j:Wk H y wb b M0 M n L lv d (ps++[]):=by grind
 refine j.A2v (by omega) rfl (by grind) (λg C=>f g (by omega) (by omega) C k) λo e D u x=>?_;grind
theorem Aa6{ps:List (Int×B.Fn)}(h:∀p∈ps,M.Aq p.1=some p.2):(ps.map (·.1)).map M.Aq=(ps.map (·.2)).map some:=by (simp_all;omega)
theorem Ah5(d:t.Op=2):J5 L n0 t (λ_=>decide (t.N=1)):=by intro j b h M n H X Q w l i m a;have p:=Pb t;apply Bv;unfold Bl;refine⟨λ_=>(Wk.of w).const (by omega) λf c g k o=>a f c g _ k (by omega),λe=>absurd d e⟩
theorem Ak1(g:Ku L)(c:2*CR L<=n0)(x:t.Op=3∨t.Op=4)(hi:Cl L.Aa t.Name<L.Aa.length)(m:L.Aa[Cl L.Aa t.Name].Bool=true):J5 L n0 t (DQ (Gf (Cu L (Cl L.Aa t.Name) (decide (t.Op=4))) (DL L (Cl L.Aa t.Name) 1))):=by
 intro e b y M q H X Q w v s i a;have n:=Pb t;have j:Bn .i64 (DL L (Cl L.Aa t.Name) 1):=by grind[DL,Cl,A7]
 have h:Wp Y0 Ds CH (L,t.Name,()) H (λ(b:Int×Unit)(_:Unit)(d:HY)=>Wp Y0 BG B3 (some e,b.1,1,decide (t.Op=(4:Int)),()) d (λ(b:Int×Unit)(_:Unit)(d:HY)=>Q (b.1,()) () d) X) X:=
  Se g.toJf rfl hi ((Wk.of w).Adm (by omega) (by omega) g.toJf hi (by omega) j λl f d k r=>a l f d _ k (by omega))
 apply Bv;unfold Bl;refine⟨λu=>by omega,λ_=>⟨λ_=>⟨e,rfl,_,w.ob,rfl,h⟩,λp=>⟨λ_=>⟨e,rfl,_,w.ob,rfl,h⟩,λo=>by omega⟩⟩⟩
theorem Afm(E:∀i(h:i<t.Kids.length),J5 L n0 t.Kids[i] (Fs i))(k:t.Kids.length<=64):(t.Op=5->t.Kids.length=1->J5 L n0 t (λa=>!Fs 0 a))/\(t.Op=6->J5 L n0 t (((ab t.Kids.length).map Fs).foldl C6 (λ_=>true)))/\(t.Op=7->J5 L n0 t (((ab t.Kids.length).map Fs).foldl Q4 (λ_=>false)))/\(t.Op=18->t.Kids.length=3->J5 L n0 t (CU (Fs 0) (Fs 1) (Fs 2))):=by
 refine⟨λy N=>?_,λy=>?_,λy=>?_,λy J=>?_⟩
 .intro I b O M P H X Q w z C r c;apply Bv;unfold Bl;refine⟨λh=>by omega,λ_=>⟨λh=>by omega,λ_=>⟨λh=>by omega,λ_=>⟨λ_=>?_,λh=>absurd y h⟩⟩⟩⟩;refine I7 E k (λ{b M H n}g d m o j=>?_) w z C r c;intro Q X x;apply OM;unfold Ki;rw[N]at j;match n,(show n.length=1 by have:=congrArg av j;simpa using this) with
  | [p],_=>
   have e:p.2=Fs 0:=by have:=congrArg (λl:List B.Fn=>l[0]?) j;exact ap this
   refine⟨λ_=>by decide,by show 0<1;decide,?_⟩
   refine TD g d (F:=Fs 0) (by rw[<-e];exact o p (by simp)) λv D u A f=>x v D u A f
 .intro I b O M P H X Q w z C r c;apply Bv;unfold Bl;refine⟨λh=>by omega,λ_=>⟨λh=>by omega,λ_=>⟨λh=>by omega,λ_=>⟨λh=>by omega,λ_=>⟨λ_=>?_,λh=>absurd y h⟩⟩⟩⟩⟩;refine I7 E k (λ{b M H n}g d m o j=>?_) w z C r c;intro Q X x;exact MZ g d m (by have:=congrArg av j;simp at this;show (n.map (·.1)).length<=1000;rw[ag];omega) (by rw[Aa6 o,j]) λv D u A f=>x v D u A f
 .intro I b O M P H X Q w z C r c;apply Bv;unfold Bl;refine⟨λh=>by omega,λ_=>⟨λh=>by omega,λ_=>⟨λh=>by omega,λ_=>⟨λh=>by omega,λ_=>⟨λh=>by omega,λ_=>⟨λ_=>?_,λh=>absurd y h⟩⟩⟩⟩⟩⟩;refine I7 E k (λ{b M H n}g d m o j=>?_) w z C r c;intro Q X x;exact Pn g d m (by have:=congrArg av j;simp at this;show (n.map (·.1)).length<=1000;rw[ag];omega) (by rw[Aa6 o,j]) λv D u A f=>x v D u A f
 .intro I b O M P H X Q w z C r c;apply Bv;unfold Bl;refine⟨λh=>by omega,λ_=>⟨λh=>by omega,λ_=>⟨λh=>by omega,λ_=>⟨λh=>by omega,λ_=>⟨λh=>by omega,λ_=>⟨λh=>by omega,λ_=>⟨λh=>by omega,λ_=>⟨λh=>by omega,λ_=>⟨λ_=>?_,λh=>absurd y h⟩⟩⟩⟩⟩⟩⟩⟩⟩;refine I7 E k (λ{b M H n}g d m o j=>?_) w z C r c;intro Q X x;apply OK;unfold Kh;rw[J]at j;match n,(show n.length=3 by have:=congrArg av j;simpa using this) with
  | [p,q,s],_=>
   have R:p.2=Fs 0:=by have:=congrArg (λl:List B.Fn=>l[0]?) j;exact ap this
   have T:q.2=Fs 1:=by have:=congrArg (λl:List B.Fn=>l[1]?) j;exact ap this
   have S:s.2=Fs 2:=by have:=congrArg (λl:List B.Fn=>l[2]?) j;exact ap this
   refine⟨λ_=>by decide,by show 0<3;decide,λ_=>by decide,by show 1<3;decide,λ_=>by decide,by show 2<3;decide,?_⟩
   refine Abc g d m (F:=Fs 0) (G:=Fs 1) (K:=Fs 2) (by rw[<-R];exact o p (by simp)) (by rw[<-T];exact o q (by simp)) (by rw[<-S];exact o s (by simp)) λv D u A f=>x v D u A f
end
section
variable {M:Mn}
theorem Dx.symm{M':Mn}(h:Dx M M'):Dx M' M:=⟨h.sb.symm,h.mb.symm,h.bl.symm,h.bp.symm,h.tb.symm⟩
variable {wb b:Nat} {M0:Mn} {L:Ac}
theorem Wk.A23{Hb H:HY}{Mb:Mn}{lvb lv:List (Int×Bool)}{hs:List (Int×B.Fn)}{a c:Int}{Fa Fc F:B.Fn}{J3:FT Y0 [.ptr,.sl I6] [.int .i64,.int .i64]}{X:PX}{Q:Int×Unit->UU}(k:Wk Hb H wb b M0 Mb M L lvb lv ((a,Fa)::(c,Fc)::hs))(n:M.nx<576460752303423486)(d:MG H b M->M.Aq a=some Fa->M.Aq c=some Fc->DoS b M H [a,c] F J3)(h:∀M' lv' H',Wk Hb H' wb b M0 Mb M' L lvb lv' ((M.nx,F)::hs)->M'.nx=M.nx+1->QK wb b M0 H H'->Q (M.nx,()) () H'):Wp Y0 Bk AY (some wb,J3,[a,c],()) H Q X:=by
 have m:=k.h.ge (a,Fa) (by simp);have i:=k.h.ge (c,Fc) (by simp);refine NI k.w (by omega) (by simp) (λj l=>?_) (d k.w.mg (k.h.Aq (a,Fa) (by simp)) (k.h.Aq (c,Fc) (by simp))) λM' lv' H' g _ u f=>h M' lv' H' (k.step g (k.h.two u) f) u.nx (f.same k.w.bs);rcases ay.1 l with e|e
 .rw[e];exact m.2
 .rw[bo]at e;rw[e];exact i.2
def QJ(hF:Int->Int->Bool)(Va Vc:B.As->Option Int)(ds:List (Int×Int)):B.Fn:=λa=>ds.any λp=>hF p.1 p.2&&(gV Va p.1 a&&gV Vc p.2 a)
def WR(hF:Int->Int->Bool)(Va Vc:B.As->Option Int):B.Fn:=λa=>match Va a,Vc a with
 |some x,some y=>hF x y
 |_,_=>false
variable {hF:Int->Int->Bool} {Va Vc:B.As->Option Int} {ds:List (Int×Int)}
theorem Aoo{a:B.As}:QJ hF Va Vc ds a=true↔∃x y,(x,y)∈ds/\hF x y=true/\Va a=some x/\Vc a=some y:=by
 unfold QJ;rw[ck];constructor
 .rintro⟨⟨x,y⟩,b,h⟩;simp only[bv,FL]at h;exact⟨x,y,b,h.1,h.2.1,h.2.2⟩
 .rintro⟨x,y,b,e,d,c⟩;exact⟨(x,y),b,by simp only[bv,FL];exact⟨e,d,c⟩⟩
theorem Aon{a:B.As}:WR hF Va Vc a=true↔∃x y,Va a=some x/\Vc a=some y/\hF x y=true:=by
 unfold WR;cases b:Va a with
 |none=>simp
 |some x=>cases c:Vc a with
  |none|some y=>simp
theorem Aop(h:∀x y a,gV Va x a=true->gV Vc y a=true->(x,y)∈ds):QJ hF Va Vc ds=WR hF Va Vc:=by funext a;rw[bz,Aoo,Aon];exact⟨λ⟨x,y,_,d,b,c⟩=>⟨x,y,b,c,d⟩,λ⟨x,y,b,c,d⟩=>⟨x,y,h x y a (FL.2 b) (FL.2 c),d,b,c⟩⟩
theorem Ajp{x y:Int}(h:hF x y=true):Q4 (QJ hF Va Vc ds) (C6 (gV Va x) (gV Vc y))=QJ hF Va Vc (ds++[(x,y)]):=by funext a;simp [QJ,Q4,C6,h]
theorem Yb{x y:Int}(h:hF x y=false∨∀a,C6 (gV Va x) (gV Vc y) a=false):QJ hF Va Vc (ds++[(x,y)])=QJ hF Va Vc ds:=by
 funext a;rcases h with h|h
 .simp [QJ,h]
 .have:=h a;simp only[C6]at this;simp [QJ,this]
theorem Asi{Hb:HY}{cb:Nat}{Mb:Mn}{lvb:List (Int×Bool)}{KH:HP}{holds:Int×Int×Unit->HY->(Bool×Unit->HP)->PX->Prop}(t:cb≠wb)(w:Fb b M0 cb)(T:Hb cb=none)(W:∀x y H(R:Bool×Unit->HP)X,KH H->R (hF x y,()) H->holds (x,y,()) H R X)(m:∀H f,KH H->QK wb b M0 H f->KH f)(E:∀H v,KH H->KH (Ab H cb (.st Ba (v:Int)))):DoU Hb wb b M0 Mb L lvb (gV Va) (gV Vc) (λds H hs=>KH H/\∃r:Int,H cb=some (.st Ba r)/\hs=[(r,QJ hF Va Vc ds)]) cb 1 1 (λ(a:Int×Int×Int×Unit)(H:HY)(Q:Unit->HP)(X:Nat->Lf Y0.D->HP)=>Wp Y0 Fz DI (a.1,a.2.1,a.2.2.1,holds,some wb,some cb,()) H (λ(_ _:Unit)(f:HY)=>Q () f) X):=by
 refine⟨λds H hs⟨_,r,_,e⟩=>by rw[e];exact af 1,λds H f hs⟨j,r,d,s⟩J=>⟨m _ _ j J,r,by rw[J cb (by rw[d];simp) t w];exact d,s⟩,λds H hs x y⟨j,r,d,s⟩P=>⟨j,r,d,by rw[s,Yb (.inr P)]⟩,λds H hs M O x y h p N X⟨j,r,d,s⟩he k Y Z i=>?_⟩;subst s;apply Nj;unfold Jc;refine W x y H _ _ j ⟨λA=>?_,λq=>?_⟩
 .have A:hF x y=true:=A;refine⟨cb,rfl,r,d,rfl,?_⟩;have D:Wk Hb H wb b M0 Mb M L lvb O ((r,QJ hF Va Vc ds)::(h,C6 (gV Va x) (gV Vc y))::p):=k.perm (.swap _ _ _);refine D.A23 (by omega) (λg S U=>Aoc g (by omega) (by omega) S U) λF n f u G o=>?_;rw[Ajp A]at u;have V:f cb=some (.st Ba r):=by rw[o cb (by rw[d];simp) t w];exact d
  refine⟨r,V,i F n _ [(M.nx,QJ hF Va Vc (ds++[(x,y)]))] (u.Aac t w T) ⟨E _ _ (m _ _ j o),M.nx,Ai _ _ _,rfl⟩ (by omega) λc C K z I=>?_⟩;rw[Ag _ _ K];exact o c C z I
 .have q:hF x y=false:=by have q:¬hF x y=true:=q;simpa using q
  have D:Wk Hb H wb b M0 Mb M L lvb O ([(h,C6 (gV Va x) (gV Vc y))]++([(r,QJ hF Va Vc ds)]++p)):=k;refine D.drop (l:=[h]) (by omega) (by simp) (List.Perm.refl _) λF n f u G o=>?_;exact i F n f [(r,QJ hF Va Vc ds)] u ⟨m _ _ j o,r,by rw[o cb (by rw[d];simp) t w];exact d,by rw[Yb (.inl q)]⟩ (by omega) λc C K z I=>o c C z I
abbrev PG(L:Ac)(n0:Int)(t:Ae)(V:B.As->Option Int):Prop:=Uh L n0 t (gV V) (256*DV t) (1000000000*DV t) (1025*DV t)
theorem QI{n0:Int}{ta tb:Ae}{KH:HP}{holds:Int×Int×Unit->HY->(Bool×Unit->HP)->PX->Prop}(na:PG L n0 ta Va)(nc:PG L n0 tb Vc)(sa:DV ta<=40)(Y:DV tb<=40)(I:∀x y H(R:Bool×Unit->HP)X,KH H->R (hF x y,()) H->holds (x,y,()) H R X){lv:List (Int×Bool)}{H:HY}{X:PX}{Q:Int×Unit->UU}(i:∀H H',KH H->QK wb b M0 H H'->KH H')(j:∀H cb v,H cb=none->KH H->∀H',KH H'->KH (Ab H' cb (.st Ba (v:Int))))(o:KH H)(w:WK H wb b M0 M L lv)(V:M.nx+(1000000000*(1+DV ta+DV tb):Nat)<576460752303420000)(hl:M.hs.length+1025*(1+DV ta+DV tb)<=59900)(T:M.S.n=n0)(h:∀M' lv' H' r,Wk H H' wb b M0 M M' L lv lv' [(r,WR hF Va Vc)]->M'.nx<=M.nx+(1000000000*(1+DV ta+DV tb):Nat)->Q (r,()) () H'):Wp Y0 E3 D5 (some wb,ta,tb,holds,()) H Q X:=by
 refine wF Tryz.f102 {pr:=[(9,8)],im:=[4,5,6,7]} (?_:Kk (some wb) ta tb holds H Q X);unfold Kk;have wl:=w.ln;refine(Wk.of w).const (by omega) λN s z c P cb a=>?_;have f:=c.ln;have m:cb≠wb:=λe=>by rw[e,c.w.ob]at a;cases a
 have A:Fb b M0 cb:=(c.w.mg.h.notM a).same c.w.bs.symm;have n:H cb=none:=a7 λg=>by have:=c.f cb g m A;rw[a]at this;exact g this.symm
 have q:KH z:=i _ _ o c.f;have S:Wk H (Ab z cb (.st Ba M.nx)) wb b M0 M N L lv s ([(M.nx,λ_=>false)]++[]):=by have:=c.fresh (y:=.st Ba M.nx) a;exact this
 have D:=Asi (Hb:=H) (wb:=wb) (b:=b) (cb:=cb) (M0:=M0) (Mb:=M) (L:=L) (lvb:=lv) (hF:=hF) (Va:=Va) (Vc:=Vc) (KH:=KH) (holds:=holds) m A n I i (λH' v l=>j H cb v n o H' l);have C:256*DV ta*(256*DV tb*(1+1))<=500000000:=by
  have J:256*DV ta<=10240:=by omega
  have K:256*DV tb*(1+1)<=20480:=by omega
  have:=bq J K;omega
 refine PJ (ctx:=[]) (hsU:=[(M.nx,λ_=>false)]) (k:=S) (u:=⟨j H cb M.nx n o z q,M.nx,Ai _ _ _,by rfl⟩) (d:=D) (na:=na) (nc:=nc) (W:=256*DV tb*(1+1)) (Z:=256*DV ta*(256*DV tb*(1+1))) ((c.w.bs.n.trans w.bs.n.symm).trans T) (by rw[Ai];simp) m A (by omega) (by omega) rfl rfl (by generalize 256*DV ta*(256*DV tb*(1+1))=Z at C ⊢;simp only[bj,bb]at f;omega) (by simp only[bj,bb]at f;omega) (by simp only[bj,bb]at f;omega) (by simp only[bb];omega) λM' lv' H' F U E⟨_,r,O,G⟩p t=>?_;rw[aq,G,Aop p]at E;refine⟨r,O,rfl,h M' lv' H' r E ?_⟩;generalize 256*DV ta*(256*DV tb*(1+1))=Z at C t;omega
end
section
def Do2(do2:Option Nat×Int×Int×Unit->HY->(Int×Int×Unit->HP)->PX->Prop)(T:B.Fn->B.Fn->B.Fn):Prop:=∀{b:Nat}{M:Mn}{H:HY}{p q:Int}{F G:B.Fn}(Q:Int×Int×Unit->HP)(X:PX),MG H b M->M.nx<576460752303423487->M.hs.length<=60000->M.Aq p=some F->M.Aq q=some G->(∀M' H',MG H' b M'->Uz M M' (T F G)->Jd b M H H'->Q (M.nx,0,()) H')->do2 (some b,p,q,()) H Q X
variable {L:Ac} {n0:Int} {t:Ae}
theorem MJ{Fs:Nat->B.Fn}{T:B.Fn->B.Fn->B.Fn}{do2:Option Nat×Int×Int×Unit->HY->(Int×Int×Unit->HP)->PX->Prop}(v:Do2 do2 T)(y:∀i(h:i<t.Kids.length),J5 L n0 t.Kids[i] (Fs i))(k:t.Kids.length=2){wb b:Nat}{M0 M:Mn}{lv:List (Int×Bool)}{H:HY}{X:PX}{Q:Int×Unit->UU}(w:WK H wb b M0 M L lv)(u:M.nx+(1000000000*DV t:Nat)<576460752303420000)(z:M.hs.length+1025*DV t<=59900)(C:M.S.n=n0)(d:∀M' lv' c r,Wk H c wb b M0 M M' L lv lv' [(r,T (Fs 0) (Fs 1))]->M'.nx<=M.nx+(1000000000*DV t:Nat)->Q (r,()) () c):Wp Y0 CM Cm (do2,some wb,λ(_:Unit)(H:HY)(Q:List Int×Unit->HP)(X:Nat->Lf Y0.D->HP)=>Wp Y0 Bp Bb (t,some wb,()) H (λ(b:List Int×Unit)(_:Unit)(c:HY)=>Q (b.1,()) c) X,()) H (λ(b:Int×Unit)(_:Unit)(c:HY)=>Q (b.1,()) () c) X:=by
 apply ON;unfold Kj;refine Sf ?_;refine I7 y (by omega) (λ{b M H n}g f j m e=>?_) w u z C d;intro Q X o;apply Nh;unfold Ja;rw[k]at e;match n,(show n.length=2 by have:=congrArg av e;simpa using this) with
 | [p,q],_=>
  have s:p.2=Fs 0:=by have:=congrArg (λl:List B.Fn=>l[0]?) e;exact ap this
  have A:q.2=Fs 1:=by have:=congrArg (λl:List B.Fn=>l[1]?) e;exact ap this
  refine⟨λ_=>by decide,by show 0<2;decide,λ_=>by decide,by show 1<2;decide,?_⟩
  exact v _ _ g f j (by rw[<-s];exact m p (by simp)) (by rw[<-A];exact m q (by simp)) o
theorem Afl{Fs:Nat->B.Fn}(v:∀i(h:i<t.Kids.length),J5 L n0 t.Kids[i] (Fs i))(c:t.Kids.length=2):(t.Op=8->J5 L n0 t (Tg (Fs 0) (Fs 1)))/\(t.Op=9->J5 L n0 t (Th (Fs 0) (Fs 1))):=by
 refine⟨λp=>?_,λp=>?_⟩
 .intro z b x M y H X Q w j n q a;apply Bv;unfold Bl;refine⟨λh=>by omega,λ_=>⟨λh=>by omega,λ_=>⟨λh=>by omega,λ_=>⟨λh=>by omega,λ_=>⟨λh=>by omega,λ_=>⟨λh=>by omega,λ_=>⟨λ_=>?_,λh=>absurd p h⟩⟩⟩⟩⟩⟩⟩;exact MJ (T:=Tg) (λQ X g l o k u e=>Ad2 g l o k u λd r m s f=>e d r m s f) v c w j n q a
 .intro z b x M y H X Q w j n q a;apply Bv;unfold Bl;refine⟨λh=>by omega,λ_=>⟨λh=>by omega,λ_=>⟨λh=>by omega,λ_=>⟨λh=>by omega,λ_=>⟨λh=>by omega,λ_=>⟨λh=>by omega,λ_=>⟨λh=>by omega,λ_=>⟨λ_=>?_,λh=>absurd p h⟩⟩⟩⟩⟩⟩⟩⟩;exact MJ (T:=Th) (λQ X g l o k u e=>Vb g l o k u λd r m s f=>e d r m s f) v c w j n q a
theorem Ak2{ta tb:Ae}{Va Vc:B.As->Option Int}(c:t.Kids=[ta,tb])(na:PG L n0 ta Va)(nc:PG L n0 tb Vc)(q:DV t<=40):(t.Op=12->J5 L n0 t (WR (λx y=>decide (x<y)) Va Vc))/\(t.Op=13->J5 L n0 t (WR (λx y=>decide (x<=y)) Va Vc)):=by
 have l:DV t=1+DV ta+DV tb:=by rw[ML,c,DR,DR,JS];omega
 have f:0<t.Kids.length:=by rw[c];show 0<2;decide
 have k:1<t.Kids.length:=by rw[c];show 1<2;decide
 have m:t.Kids[an (0:Int)]'f=ta:=by simp [c]
 have n:t.Kids[an (1:Int)]'k=tb:=by simp [c]
 refine⟨λe=>?_,λe=>?_⟩
 .intro r b p M o H X Q w g d i a;rw[l]at g d a;apply Bv;unfold Bl;refine⟨λh=>by omega,λ_=>⟨λh=>by omega,λ_=>⟨λh=>by omega,λ_=>⟨λh=>by omega,λ_=>⟨λh=>by omega,λ_=>⟨λh=>by omega,λ_=>⟨λh=>by omega,λ_=>⟨λh=>by omega,λ_=>⟨λh=>by omega,λ_=>⟨λ_=>⟨λ_=>by decide,f,λ_=>by decide,k,?_⟩,λh=>absurd e h⟩⟩⟩⟩⟩⟩⟩⟩⟩⟩;rw[m,n];refine QI (hF:=λx y=>decide (x<y)) (KH:=λ_=>True) na nc (by omega) (by omega) (λx y H R X _ j=>?_) (λ_ _ _ _=>trivial) (λ_ _ _ _ _ _ _=>trivial) trivial w (by omega) d i a;refine OI _ _ _ _ _ ?_;exact j
 .intro r b p M o H X Q w g d i a;rw[l]at g d a;apply Bv;unfold Bl;refine⟨λh=>by omega,λ_=>⟨λh=>by omega,λ_=>⟨λh=>by omega,λ_=>⟨λh=>by omega,λ_=>⟨λh=>by omega,λ_=>⟨λh=>by omega,λ_=>⟨λh=>by omega,λ_=>⟨λh=>by omega,λ_=>⟨λh=>by omega,λ_=>⟨λh=>by omega,λ_=>⟨λ_=>⟨λ_=>by decide,f,λ_=>by decide,k,?_⟩,λh=>absurd e h⟩⟩⟩⟩⟩⟩⟩⟩⟩⟩⟩;rw[m,n];refine QI (hF:=λx y=>decide (x<=y)) (KH:=λ_=>True) na nc (by omega) (by omega) (λx y H R X _ j=>?_) (λ_ _ _ _=>trivial) (λ_ _ _ _ _ _ _=>trivial) trivial w (by omega) d i a;refine OG _ _ _ _ _ ?_;exact j
theorem Agd{ta tc:Ae}{Va Vc:B.As->Option Int}(u:t.Op=14∨t.Op=15∨t.Op=16∨t.Op=17)(i:t.Kids=[ta,tc])(na:PG L n0 ta Va)(nc:PG L n0 tc Vc)(x:DV t<=40)(h:VD 8 Va)(g:VD 8 Vc)(j:VB Va)(o:VB Vc)(l:t.Op=17->∀a y,Vc a=some y->1<=y):PG L n0 t (ZE (opF t.Op) Va Vc):=by
 have I:DV t=1+DV ta+DV tc:=by rw[ML,i,DR,DR,JS];omega
 have s:256*DV ta*(256*DV tc*2)<=500000000:=by
  have h:256*DV ta<=10240:=by omega
  have g:256*DV tc*2<=20480:=by omega
  have:=bq h g;omega
 have c:Uh L n0 t (gV (ZE (opF t.Op) Va Vc)) 256 (1000000000*DV ta+1000000000*DV tc+256*DV ta*(256*DV tc*2)+2000) (1025*DV t):=X7 (by omega) u i na nc h g j o l (by omega) (by omega) rfl rfl;generalize 256*DV ta*(256*DV tc*2)=Z at s c;intro G b F M J H X Q w E A p d;exact c w (by omega) A p λC f D r m k n e v z q K=>d C f D r m k n e v z (by omega) (by omega)
end
section
variable {t:Ae}
theorem Afp{k:Ae}(h:k∈t.Kids):DV k+1<=DV t:=by
 have a:∀(l:List Ae),k∈l->DV k<=GG l:=by
  intro l;induction l with
  |nil=>intro h;cases h
  |cons s l b=>
   intro h;rw[DR];rcases ay.1 h with rfl|h
   .omega
   .have:=b h;omega
 have:=a _ h;have:=ML t;omega
theorem Yk.w(h:Yk t):CA t=0:=by cases h with|mk a _=>exact a
theorem Yk.k(h:Yk t):∀k∈t.Kids,Yk k:=by cases h with|mk _ b=>exact b
theorem Ahi:∀(z:Nat)(t:Ae)(deep n:Int),SizeOf.sizeOf t<z->Yk t->deep+DV t<=65->n+DV t<=4096->GX deep n t=(n+DV t,0)
 |0,_,_,_,d,_,_,_=>absurd d (ad _)
 |z+1,t,deep,n,d,f,o,r=>by
  have q:=Pb t;have j:=ML t;rw[Uy,if_neg (by omega),if_pos f.w,if_neg (by omega)];have c:∀(l:List Ae)(m:Int),(∀k∈l,k∈t.Kids)->m+GG l<=4096->Ee (deep+1) m l=(m+GG l,0):=by
   intro l;induction l with
   |nil=>intro m _ _;unfold Ee;rw[JS];simp
   |cons s l g=>
    intro m a i;rw[DR]at i ⊢;have b:=a s ak;have p:=Afp b;have e:=Ahi z s (deep+1) m (by have:=Ms b;omega) (f.k s b) (by omega) (by omega);unfold Ee;show (if (GX (deep+1) m s).2=0 then Ee (deep+1) (GX (deep+1) m s).1 l else GX (deep+1) m s)=_;rw[e,if_pos rfl,g _ (λk b=>a k (bk _ b)) (by show m+DV s+GG l<=4096;omega)];refine ct ?_ rfl;show m+DV s+GG l=m+((DV s+GG l:Nat):Int);omega
  rw[c t.Kids (n+1) (λ_ h=>h) (by omega)];refine ct ?_ rfl;show n+1+GG t.Kids=n+DV t;omega
theorem Aky{vars:List Ar}{next:Bool}(a:Yk t)(hs:DV t<=60):Nq vars next t=Bf vars next t:=by unfold Nq;rw[Ahi (SizeOf.sizeOf t+1) t 1 0 (by omega) a (by omega) (by omega),if_pos rfl]
variable {L:Ac}
theorem QW{wb b:Nat}{M0 M:Mn}{lv:List (Int×Bool)}{H:HY}{X:PX}{Q:Bool×Unit->UU}(w:WK H wb b M0 M L lv)(e:L.Aa.length<=1000)(d:Yk t)(hs:DV t<=60)(h:∀H',(∀c,H c≠none->H' c=H c)->Q ((Bf L.Aa true t).1.Bool,()) () H'):Wp Y0 LC IH (some wb,t,()) H Q X:=by
 refine wF Tryz.f105 {im:=[3]} (?_:∃(b:Nat),(some wb)=some b/\(∃(x:Al),H b=some (Ob.st BJ x)/\dup ({x with l:={Aa:=x.l.Aa,Bits:=x.l.Bits,At:=x.l.At:Ac}}=x/\Wp Y0 Fx Ey (x.l.Aa,t,true,()) H (λ(b:Af×Int×UT)_ G=>Q (b.1.Bool,()) () G) X))/\∃(x:Al),H b=some (Ob.st BJ x)/\{x with l:={Aa:=x.l.Aa,Bits:=x.l.Bits,At:=x.l.At:Ac}}=x/\Wp Y0 Fx Ey (x.l.Aa,t,true,()) H (λ(b:Af×Int×UT)_ G=>Q (b.1.Bool,()) () G) X);have a:Wp Y0 Fx Ey (L.Aa,t,true,()) H (λ(b:Af×Int×Unit)_ H'=>Q (b.1.Bool,()) () H') X:=PL e λH' f=>by show Q ((Nq L.Aa true t).1.Bool,()) () H';rw[Aky d hs];exact h H' f
 exact⟨wb,rfl,⟨_,w.ob,Sf ⟨rfl,a⟩⟩,_,w.ob,rfl,a⟩
theorem Wk.KK{Hb H H':HY}{wb b:Nat}{M0 Mb M:Mn}{lvb lv:List (Int×Bool)}{hs:List (Int×B.Fn)}(k:Wk Hb H wb b M0 Mb M L lvb lv hs)(f:∀c,H c≠none->H' c=H c):Wk Hb H' wb b M0 Mb M L lvb lv hs:=
 ⟨k.w.KK f,k.h,λc a d g=>by have e:=k.f c a d g;rw[f c (by rw[e];exact a)];exact e⟩
def eqF(op:Int)(F G:B.Fn):B.Fn:=if op=10 then Th F G else S8 F G
theorem Ar9:Do2 (λ(a:Option Nat×Int×Int×Unit)(H:HY)(Q:Int×Int×Unit->HP)(X:Nat->Lf Y0.D->HP)=>Wp Y0 G3 E0 (a.1,a.2.1,a.2.2.1,()) H (λ(b:Int×Int×Unit)(_:Unit)(c:HY)=>Q (b.1,b.2.1,()) c) X) S8:=by
 intro b M H p q F G Q X g m j l n k;refine OC _ _ _ _ _ _ ?_;refine Ad1 g m j (by simp) (Gs:=[F,G]) (by simp [l,n]) λh c i d f=>k h c i ?_ f;have e:[F,G].foldl S8 (λ_=>false)=S8 F G:=by funext x;simp [S8]
 rw[e]at d;exact d
theorem Auu{n0:Int}{ta tb:Ae}(m:t.Kids=[ta,tb])(hv:L.Aa.length<=1000)(u:Yk ta)(hsz:DV t<=40)(ho:t.Op=10∨t.Op=11):(∀Va Vc,PG L n0 ta Va->PG L n0 tb Vc->(Bf L.Aa true ta).1.Bool=false->J5 L n0 t (WR (λx y=>decide (x=y)==decide (decide (t.Op=10)=true)) Va Vc))/\(∀Fa Fc,J5 L n0 ta Fa->J5 L n0 tb Fc->(Bf L.Aa true ta).1.Bool=true->J5 L n0 t (eqF t.Op Fa Fc)):=by
 have sz:DV t=1+DV ta+DV tb:=by rw[ML,m,DR,DR,JS];omega
 have G:0<t.Kids.length:=by rw[m];show 0<2;decide
 have l1:1<t.Kids.length:=by rw[m];show 1<2;decide
 have P:t.Kids[an (0:Int)]'G=ta:=by simp [m]
 have k1:t.Kids[an (1:Int)]'l1=tb:=by simp [m]
 have A:t.Kids.length=2:=by rw[m];rfl
 refine⟨λVa Vc na nc Y=>?_,λFa Fc fa fc Y=>?_⟩
 .intro I b K M E H X Q w J C N a;rw[sz]at J C a;apply Bv;unfold Bl;refine⟨λh=>by omega,λ_=>⟨λh=>by omega,λ_=>⟨λh=>by omega,λ_=>⟨λh=>by omega,λ_=>⟨λh=>by omega,λ_=>⟨λh=>by omega,λ_=>⟨λh=>by omega,λ_=>⟨λh=>by omega,λ_=>⟨λh=>by omega,λ_=>⟨λh=>by omega,λ_=>⟨λh=>by omega,λ_ c d=>⟨λ_=>by decide,G,?_⟩⟩⟩⟩⟩⟩⟩⟩⟩⟩⟩⟩;rw[P];have F:Wk H (Ab H c (.st Ho (decide (t.Op=10)))) I b K M M L E E []:=(Wk.of w).fresh d;have d1:c≠I:=λe=>by rw[e,w.ob]at d;cases d
  have n1:Fb b K c:=(w.mg.h.notM d).same w.bs.symm;refine QW F.w hv u (by omega) λZ z=>⟨λ_=>⟨λ_=>by decide,G,λ_=>by decide,l1,?_⟩,λO=>absurd (by show ¬(Bf L.Aa true ta).1.Bool=true;rw[Y];decide) O⟩
  rw[P,k1];have p:=F.KK z;have o:Z c=some (.st Ho (decide (t.Op=10))):=by rw[z c (by rw[Ai];simp),Ai]
  refine QI (hF:=λx y=>decide (x=y) == decide (decide (t.Op=10)=true)) (KH:=λH=>H c=some (.st Ho (decide (t.Op=10)))) na nc (by omega) (by omega) (λx y H R X n hR=>?_) (λH l n fr=>by rw[fr c (by rw[n];simp) d1 n1];exact n) (λH cb v S n l U=>?_) o p.w (by omega) C N λs j l r k D=>a s j l r ?_ D
  .refine OE _ _ _ _ _ _ ?_;exact⟨c,rfl,_,n,rfl,hR⟩
  .have V:c≠cb:=λe=>by rw[e,S]at n;cases n
   show Ab l cb _ c=_;rw[Ag _ _ V];exact U
  .have:=p.trans k;rw[aq]at this;exact this
 .intro I b K M E H X Q w J C N a;apply Bv;unfold Bl;refine⟨λh=>by omega,λ_=>⟨λh=>by omega,λ_=>⟨λh=>by omega,λ_=>⟨λh=>by omega,λ_=>⟨λh=>by omega,λ_=>⟨λh=>by omega,λ_=>⟨λh=>by omega,λ_=>⟨λh=>by omega,λ_=>⟨λh=>by omega,λ_=>⟨λh=>by omega,λ_=>⟨λh=>by omega,λ_ c d=>⟨λ_=>by decide,G,?_⟩⟩⟩⟩⟩⟩⟩⟩⟩⟩⟩⟩;rw[P];have F:Wk H (Ab H c (.st Ho (decide (t.Op=10)))) I b K M M L E E []:=(Wk.of w).fresh d;refine QW F.w hv u (by omega) λZ z=>⟨λO=>absurd Y O,λ_=>?_⟩
  have p:=F.KK z;have o:Z c=some (.st Ho (decide (t.Op=10))):=by rw[z c (by rw[Ai];simp),Ai]
  have B:∀i(h:i<t.Kids.length),J5 L n0 t.Kids[i] (if i=0 then Fa else Fc):=λi h=>by
   have h2:i<2:=by omega
   rcases(show i=0∨i=1 by omega) with rfl|rfl
   .have e:t.Kids[0]=ta:=by simp [m]
    rw[e];show J5 L n0 ta Fa;exact @fa
   .have e:t.Kids[1]=tb:=by simp [m]
    rw[e];show J5 L n0 tb Fc;exact @fc
  refine⟨_,o,λq=>⟨rfl,?_⟩,λq=>⟨rfl,?_⟩⟩
  .have q:t.Op=10:=of_decide_eq_true q;have W:eqF t.Op Fa Fc=Th Fa Fc:=if_pos q;rw[W]at a;refine MJ (T:=Th) (Fs:=λi=>if i=0 then Fa else Fc) (λQ X g h1 h2 hF hG hq=>Vb g h1 h2 hF hG λs l g' nw f=>hq s l g' nw f) B A p.w J C N λs j l r k D=>a s j l r ?_ D;have:=p.trans k;rw[aq]at this;exact this
  .have q:¬t.Op=10:=λe=>q (decide_eq_true e);have W:eqF t.Op Fa Fc=S8 Fa Fc:=if_neg q;rw[W]at a;refine MJ (T:=S8) (Fs:=λi=>if i=0 then Fa else Fc) Ar9 B A p.w J C N λs j l r k D=>a s j l r ?_ D;have:=p.trans k;rw[aq]at this;exact this
end
def ifV(F:B.Fn)(Va Vc:B.As->Option Int):B.As->Option Int:=λa=>if F a=true then Va a else Vc a
def ifG(F:B.Fn)(Va Vc:B.As->Option Int):Nat->Int->B.Fn
 |0=>λ_ _=>false
 |1=>λn=>Q4 (λ_=>false) (C6 (gV Va n) F)
 |_=>λn=>Q4 (Q4 (λ_=>false) (C6 (gV Va n) F)) (C6 (gV Vc n) λa=>!F a)
theorem Art{F:B.Fn}{Va Vc:B.As->Option Int}:ifG F Va Vc 2=gV (ifV F Va Vc):=by funext n a;show ((false ||(gV Va n a&&F a)) ||(gV Vc n a&&!F a))=_;unfold ifV gV;cases h:F a<;>simp [h]
def Sq(A G:Int->B.Fn)(ks:List Int):Int->B.Fn:=ks.foldl (λG n=>NM G n (A n)) G
theorem Yh{A G:Int->B.Fn}{ks:List Int}{n:Int}:Sq A G (ks++[n])=NM (Sq A G ks) n (A n):=by grind[Sq]
theorem Ao6{A:Int->B.Fn}:∀{ks:List Int}{G:Int->B.Fn},ks.Nodup->(∀n,n∉ks->A n=λ_=>false)->Sq A G ks=λn=>Q4 (G n) (A n):=by
 have c:∀{ks:List Int}{G:Int->B.Fn},ks.Nodup->∀n,Sq A G ks n=if n∈ks then Q4 (G n) (A n) else G n:=by
  intro ks;induction ks with
  |nil=>intro G _ n;rfl
  |cons k ks d=>
   intro G b n;have b:=cp.1 b;show Sq A (NM G k (A k)) ks n=_;grind[NM]
 intro ks G b h;funext n;rw[c b n];by_cases e:n∈ks
 .rw[if_pos e]
 .rw[if_neg e,h n e];grind[Q4]
theorem Av9{L:Ac}{n0:Int}{t ta tb tc:Ae}{F:B.Fn}{Va Vc:B.As->Option Int}(ho:t.Op=18)(hk:t.Kids=[ta,tb,tc])(fa:J5 L n0 ta F)(nb:PG L n0 tb Va)(nc:PG L n0 tc Vc)(hsz:DV t<=40):PG L n0 t (ifV F Va Vc):=by
 have sz:DV t=1+(DV ta+(DV tb+DV tc)):=by grind[ML,DR,JS]
 intro W b J M lv H X Q w hn hl hS post;apply E4;unfold D6;intro r hr c hc;obtain⟨k0,e1,e2,d1,d2,d3,m1,m2,hcn⟩:=Pr (z:=.st Ak (some r)) w hr hc;generalize Ab (Ab H r (.mp I6 I6 [])) c (.st Ak (some r))=H2 at k0 e1 e2;have wln:=w.ln;have l0:0<t.Kids.length:=by grind
 have k0l:t.Kids[an (0:Int)]'l0=ta:=by grind
 refine⟨λh=>by omega,λ_=>⟨λh=>by omega,λ_=>⟨λh=>by omega,λ_=>⟨λ_=>⟨λ_=>by decide,l0,?_⟩,λh=>absurd ho h⟩⟩⟩⟩;rw[k0l];refine fa k0.w (by omega) (by omega) hS λM1 lv1 H1 p s nx1=>?_;have f1:=s.f;have s:=k0.trans s;rw[aq]at s;have k1l:=s.ln;have k1l:M1.hs.length=J.hs.length+lv.length+1:=k1l;refine⟨W,rfl,_,s.w.ob,rfl,?_⟩;refine TD s.w.mg (by omega) (F:=F) (s.h.Aq (p,F) (by simp)) λM2 H2' g2 nw2 f2=>L2 s.w g2 nw2 f2 λlv2 H3 w3 _ u3 f3=>?_;have k3:=(s.step w3 (s.h.push u3) f3).perm (hs':=Jm [] (ifG F Va Vc 0)++[(p,F),(M1.nx,λa=>!F a)]) (.swap _ _ _);have nx3:=nw2.nx;have f3:=f1.trans (f3.same s.w.bs);have r3:H3 r=some (.mp I6 I6 []):=by rw[f3 r (by grind) d1 m1];exact e1
 have c3:H3 c=some (.st Ak (some r)):=by rw[f3 c (by grind) d2 m2];exact e2
 obtain⟨q,hq⟩:∃q,q=M1.nx:=⟨_,rfl⟩
 rw[<-hq]at k3 nx3 nx1;rw[<-hq];obtain⟨g,T⟩:∃g:Nat->B.As->Option Int,g=λi=>if i=0 then Va else Vc:=⟨_,rfl⟩
 obtain⟨v,I⟩:∃v:Nat->B.Fn,v=λi=>if i=0 then F else λa=>!F a:=⟨_,rfl⟩
 obtain⟨f,K⟩:∃f:Nat->Nat,f=λi=>if i=0 then 0 else if i=1 then DV tb else DV tb+DV tc:=⟨_,rfl⟩
 have sI0:f 0=0:=by grind
 have sI2:f 2=DV tb+DV tc:=by grind
 have kid:∀i:Nat,i<2->∃h:((1:Int)+(i:Int)).toNat<t.Kids.length,PG L n0 (t.Kids[((1:Int)+(i:Int)).toNat]'h) (g i)/\f i+DV (t.Kids[((1:Int)+(i:Int)).toNat]'h)=f (i+1)/\f (i+1)<=f 2:=by grind
 have so:∀i(h:i<[p,q].length),([p,q][i],v i)∈[(p,F),(q,λa=>!F a)]:=by
  intro i hi;have hi:i<2:=hi;rcases(show i=0∨i=1 by omega) with rfl|rfl
  all_goals grind
 have gI:∀i:Nat,i<2->∀ks:List Int,ks.Nodup->(∀n,n∉ks->gV (g i) n=λ_=>false)->Sq (λn=>C6 (gV (g i) n) (v i)) (ifG F Va Vc i) ks=ifG F Va Vc (i+1):=by
  intro i hi ks hd hz;rw[Ao6 hd λn hn=>by rw[hz n hn];funext a;rfl];rcases(show i=0∨i=1 by omega) with rfl|rfl
  .rw[T,I];rfl
  .rw[T,I];rfl
 refine⟨λn z H'=>n=2-z.1/\z.1<=2/\∃M' lv' m,Wk H H' W b J M M' L lv lv' (Jm m (ifG F Va Vc z.1)++[(p,F),(q,λa=>!F a)])/\H' r=some (.mp I6 I6 m)/\H' c=some (.st Ak (some r))/\N9 m/\(∀n,Ad m n=none->ifG F Va Vc z.1 n=λ_=>false)/\m.length<=256*f z.1/\M'.nx<=M.nx+(1000000000*DV ta:Nat)+1+(1000000600*f z.1:Nat),⟨_,rfl,a5 _,M2,lv2,[],k3,r3,c3,by simp [N9],λn _=>rfl,a5 _,by show M2.nx<=M.nx+(1000000000*DV ta:Nat)+1+(1000000600*f 0:Nat);omega⟩,?_⟩;rintro n ⟨i,u⟩ H4 ⟨hn0,hi0,M4,lv4,m,P,r4,c4,nd4,z4,N,nx4⟩;have hn1:n=2-i:=hn0;have hi:i<=2:=hi0;have P:Wk H H4 W b J M M4 L lv lv4 (Jm m (ifG F Va Vc i)++[(p,F),(q,λa=>!F a)]):=P;have z4:∀n,Ad m n=none->ifG F Va Vc i n=λ_=>false:=z4;have N:m.length<=256*f i:=N;have nx4:M4.nx<=M.nx+(1000000000*DV ta:Nat)+1+(1000000600*f i:Nat):=nx4;have Y:∀(m:List (Int×Int))G,(Jm m G).length=m.length:=λm G=>ag _;refine⟨λhlt0 _=>?_,λhge0=>?_⟩
 .have O:i<2:=hlt0;obtain⟨hkl,nk,hs1,hs2⟩:=kid i O;have k:=P.ln;rw[a9,Y]at k;have k:M4.hs.length=J.hs.length+lv.length+(m.length+2):=k;refine⟨O,λ_=>⟨A7.2 (by show _<=1+(i:Int)/\1+(i:Int)<=_;omega),λ_=>⟨λ_=>by show 0<=1+(i:Int);omega,hkl,?_⟩⟩⟩;refine nk P.w (by omega) (by omega) (by rw[<-hS];exact P.w.bs.n.trans w.bs.n.symm) λM5 lv5 H5 S d k5 V rf1 ndf zf lenf nx5=>?_;have XU:S≠W:=λe=>by rw[e,P.w.ob]at V;cases V
  have drm:Fb b J S:=(P.w.mg.h.notM V).back P.w.bs;have drr:S≠r:=λe=>by rw[e,r4]at V;cases V
  have R:∃A:Int->Int×B.Fn,∀n,A n=((Ad d n).getD 0,gV (g i) n):=⟨_,λ_=>rfl⟩
  obtain⟨A,R⟩:=R;have hperm:((AI d).map A).Perm (Jm d (gV (g i))):=by
   have e:Jm d (gV (g i))=(d.map (·.1)).map A:=by unfold Jm;rw[List.map_map];refine List.map_congr_left λx hx=>?_;show _=A x.1;rw[R,Gz ndf hx];rfl
   rw[e];exact(DW d).map A
  have ksl:=Pd d;have ksn:(AI d).Nodup:=(DW d).nodup_iff.2 ndf;have r5:H5 r=some (.mp I6 I6 m):=by rw[k5.f r (by rw[r4];simp) d1 m1];exact r4
  have c5:H5 c=some (.st Ak (some r)):=by rw[k5.f c (by rw[c4];simp) d2 m2];exact c4
  refine JB (b:=S) rf1 (by omega) λc2 l2 r2 D hl2=>?_;have ne:∀{c},H5 c≠none->c≠l2:=λh e=>h (by rw[e];exact hl2);have k6:=((P.trans k5).perm (List.Perm.append_right _ hperm)).fresh (y:=.lp D) hl2;have r6:Ab H5 l2 (.lp D) r=some (.mp I6 I6 m):=by rw[Ag _ _ (ne (by rw[r5];simp))];exact r5
  have c6:Ab H5 l2 (.lp D) c=some (.st Ak (some r)):=by rw[Ag _ _ (ne (by rw[c5];simp))];exact c5
  have f6:Ab H5 l2 (.lp D) S=some (.mp I6 I6 d):=by rw[Ag _ _ (ne (by rw[rf1];simp))];exact rf1
  generalize Ab H5 l2 (.lp D)=H6 at k6 r6 c6 f6;refine λ_=>⟨λn1 z H'=>n1=d.length-z.2.1/\z.2.1<=d.length/\z.1=AI d/\∃M' lv' m',Wk H H' W b J M M' L lv lv' (Jm m' (Sq (λn=>C6 (gV (g i) n) (v i)) (ifG F Va Vc i) ((AI d).take z.2.1))++(((AI d).drop z.2.1).map A++[(p,F),(q,λa=>!F a)]))/\H' r=some (.mp I6 I6 m')/\H' c=some (.st Ak (some r))/\H' S=some (.mp I6 I6 d)/\N9 m'/\(∀n,Ad m' n=none->Sq (λn=>C6 (gV (g i) n) (v i)) (ifG F Va Vc i) ((AI d).take z.2.1) n=λ_=>false)/\m'.length<=256*f i+z.2.1/\M'.nx+2*(n1:Int)<=M5.nx+2*(d.length:Int),⟨_,rfl,a5 _,rfl,M5,lv5,m,k6.perm (List.perm_append_comm_assoc _ _ _),r6,c6,f6,nd4,z4,N,Int.le_refl _⟩,?_⟩
  rintro n1 ⟨ks,j,u⟩ H7 ⟨hn70,hj0,hks0,M7,lv7,m7,C,r7,c7,f7,nd7,z7,len7,nx7⟩;have hn7:n1=d.length-j:=hn70;have hj:j<=d.length:=hj0;have hks:ks=AI d:=hks0;subst hks;replace C:Wk H H7 W b J M M7 L lv lv7 (Jm m7 (Sq (λn=>C6 (gV (g i) n) (v i)) (ifG F Va Vc i) ((AI d).take j))++(((AI d).drop j).map A++[(p,F),(q,λa=>!F a)])):=C;replace z7:∀n,Ad m7 n=none->Sq (λn=>C6 (gV (g i) n) (v i)) (ifG F Va Vc i) ((AI d).take j) n=λ_=>false:=z7;replace len7:m7.length<=256*f i+j:=len7;have k7l:=C.ln;rw[a9,a9,Y,ag,cm,ksl]at k7l;have k7l:M7.hs.length=J.hs.length+lv.length+(m7.length+(d.length-j+2)):=k7l;refine⟨λE _=>?_,λE=>?_⟩
  .have o:j<(AI d).length:=E;have hdr:=List.drop_eq_getElem_cons o;have htk:=a4 o;generalize hx:(AI d)[j]=x at hdr htk;generalize hG:Sq (λn=>C6 (gV (g i) n) (v i)) (ifG F Va Vc i) ((AI d).take j)=G7 at C z7;rw[hdr,cr]at C;refine⟨o,o,W,rfl,⟨_,C.w.ob,rfl,S,rfl,d,f7,?_⟩,S,rfl,d,f7,Sf ⟨_,C.w.ob,rfl,?_⟩⟩;all_goals
    show Wp Y0 Cy Ci (some b,[(Ad d ((AI d)[j]'o)).getD (0:Int),[p,q][i]],()) H7 _ X
    rw[hx]
    have mx:=C.h.Aq (A x) (bg _ (az _ ak))
    rw[R x]at mx
    refine C.Ao5 (by omega) (by omega) mx (C.h.Aq _ (bg _ (bg _ (so i O)))) λM8 lv8 H8 k8 nx8 f8=>?_
    refine⟨S,rfl,d,by rw[f8 S (by rw[f7];simp) XU drm];exact f7,?_⟩
    refine Wk.drop (hs1:=[A x]) (hs:=(M7.nx,C6 (gV (g i) x) (v i))::(Jm m7 G7++(((AI d).drop (j+1)).map A++[(p,F),(q,λa=>!F a)]))) (k8.perm ?_) (by omega) (by simp) ?_ λM9 lv9 H9 k9 nx9 f9=>?_
    .refine(List.Perm.swap _ _ _).trans (List.Perm.cons _ ?_)
     exact List.perm_middle.symm
    .rw[cr,R];exact .refl _
    have f9:=f8.trans f9
    have k9l:=k9.ln
    simp only[bj,a9,Y,ag,cm,ksl,bb]at k9l
    refine⟨some r,by rw[f9 c (by rw[c7];simp) d2 m2];exact c7,rfl,?_⟩
    refine T7 k9 (by omega) (by omega) (by rw[f9 r (by rw[r7];simp) d1 m1];exact r7) d1 m1 hr nd7 z7 λM10 lv10 H10 Z k10 nx10 r10 nd10 U fr10=>?_
    have gt:∀c,H7 c≠none->c≠r->c≠W->Fb b J c->H10 c=H7 c:=λc a0 a1 a2 a3=>by have e:=f9 c a0 a2 a3;rw[fr10 c (by rw[e];exact a0) a1 a2 a3];exact e
    have l10:Z.length<=m7.length+1:=by
     have:=GO (l:=Z.map λ(p:Int×Int)=>p.1) (m:=x::m7.map λ(p:Int×Int)=>p.1) nd10 λy hy=>by
      by_cases e:y=x
      .rw[e];exact ak
      .refine bk _ (a7 λhne=>?_);exact Er.1 ((U y).2 ⟨Er.2 hne,e⟩) hy
     simpa using this
    refine⟨by show j+1<=_;omega,d.length-(j+1),by omega,rfl,by show j+1<=_;omega,rfl,M10,lv10,Z,?_,r10,by rw[gt c (by rw[c7];simp) (Ne.symm d3) d2 m2];exact c7,by rw[gt S (by rw[f7];simp) drr XU drm];exact f7,nd10,λy hy=>?_,by show _<=_+(j+1);omega,by omega⟩
    .show Wk H H10 W b J M M10 L lv lv10 (Jm Z (Sq (λn=>C6 (gV (g i) n) (v i)) (ifG F Va Vc i) ((AI d).take (j+1)))++(((AI d).drop (j+1)).map A++[(p,F),(q,λa=>!F a)]))
     rw[htk,Yh,hG];exact k10
    .show Sq (λn=>C6 (gV (g i) n) (v i)) (ifG F Va Vc i) ((AI d).take (j+1)) y=_
     have hy:=(U y).1 hy
     rw[htk,Yh,hG]
     unfold NM
     rw[if_neg hy.2];exact z7 y hy.1
  .have o:¬j<(AI d).length:=E;have e:j=d.length:=by omega
   subst e;rw[List.drop_of_length_le (by omega),ai (by omega),gI i O _ ksn λn hn=>zf n (Er.2 λhh=>hn ((DW d).mem_iff.2 hh))]at C;rw[ai (by omega),gI i O _ ksn λn hn=>zf n (Er.2 λhh=>hn ((DW d).mem_iff.2 hh))]at z7;refine⟨by show i+1<=_;omega,2-(i+1),by omega,rfl,by show i+1<=_;omega,M7,lv7,m7,C,r7,c7,nd7,z7,by show _<=256*f (i+1);omega,?_⟩;show M7.nx<=M.nx+(1000000000*DV ta:Nat)+1+(1000000600*f (i+1):Nat);omega
 .have hge:¬i<2:=hge0;have e:i=2:=by omega
  subst e;have k:=P.ln;rw[a9,Y]at k;have k:M4.hs.length=J.hs.length+lv.length+(m.length+2):=k;refine Wk.drop (hs1:=[(p,F),(q,λa=>!F a)]) (hs:=Jm m (ifG F Va Vc 2)) (P.perm c9) (by omega) (by simp) (.refl _) λM5 lv5 H5 k5 nx5 f5=>?_;rw[Art]at k5 z4;refine⟨some r,by rw[f5 c (by rw[c4];simp) d2 m2];exact c4,rfl,post M5 lv5 H5 r m k5 hr (by rw[f5 r (by rw[r4];simp) d1 m1];exact r4) nd4 z4 (by omega) (by omega)⟩
section
abbrev SV:=B.Fn×(B.As->Option Int)
def Rh(s:List SV)(i:Nat):B.Fn:=match s[i]? with
 |some v=>v.1
 |none=>λ_=>false
def svV(s:List SV)(i:Nat):B.As->Option Int:=match s[i]? with
 |some v=>v.2
 |none=>λ_=>none
def Aca(op x y:Int):Bool:=if op=12 then decide (x<y) else if op=13 then decide (x<=y) else decide (x=y)==decide (decide (op=10)=true)
def A0u(L:Ac)(ks:List Ae):Bool:=match ks with
 |k::_=>(Bf L.Aa true k).1.Bool
 | []=>false
def opT(L:Ac)(op n:Int)(nm:ByteArray)(ks:List Ae)(s:List SV):B.Fn:=
 if op=2 then λ_=>decide (n=1) else if op=3∨op=4 then DQ (Gf (Cu L (Cl L.Aa nm) (decide (op=4))) (DL L (Cl L.Aa nm) 1))
 else if op=5 then λa=>!Rh s 0 a
 else if op=6 then ((ab ks.length).map (Rh s)).foldl C6 (λ_=>true) else if op=7 then ((ab ks.length).map (Rh s)).foldl Q4 (λ_=>false)
 else if op=8 then Tg (Rh s 0) (Rh s 1) else if op=9 then Th (Rh s 0) (Rh s 1)
 else if op=18 then CU (Rh s 0) (Rh s 1) (Rh s 2)
 else if (op=10∨op=11)/\A0u L ks=true then eqF op (Rh s 0) (Rh s 1) else WR (Aca op) (svV s 0) (svV s 1)
def opN(L:Ac)(op n:Int)(nm:ByteArray)(s:List SV):B.As->Option Int:=
 if op=1 then λ_=>some n else if op=3∨op=4 then Jk L (decide (op=4)) (Cl L.Aa nm)
 else if op=18 then ifV (Rh s 0) (svV s 1) (svV s 2) else ZE (opF op) (svV s 0) (svV s 1)
mutual
def D3(L:Ac):Ae->SV
 |⟨op,n,nm,ks⟩=>(opT L op n nm ks (Hv L ks),opN L op n nm (Hv L ks))
def Hv(L:Ac):List Ae->List SV
 | []=>[]
 |t::ts=>D3 L t::Hv L ts
end
variable {L:Ac}
theorem YA(t:Ae):D3 L t=(opT L t.Op t.N t.Name t.Kids (Hv L t.Kids),opN L t.Op t.N t.Name (Hv L t.Kids)):=by cases t;rw[D3]
theorem HO{L:Ac}:∀(l:List Ae),Hv L l=l.map (D3 L)
 | []=>by rfl
 |t::a=>by simp[Hv,HO]
variable {i:Nat}
theorem Afq{l:List Ae}(h:i<l.length):Rh (Hv L l) i=(D3 L l[i]).1:=by unfold Rh;rw[HO,br,a6 h];rfl
def SD(n:Int)(s:SV):Prop:=∀a b:B.As,(∀v,0<=v->v<n->a v=b v)->s.1 a=s.1 b/\s.2 a=s.2 b
theorem Adl(a:Jf L)(hi:¬i<L.Aa.length){next:Bool}:Cu L i next=[]:=by have h:=a.lb;unfold Cu Mq;rw[ah (l:=L.Bits) (by omega)];split<;>rfl
theorem All(b:Jf L){n:Int}(d:2*CR L<=n){next:Bool}{v:Int}(a:v∈Cu L i next):0<=v/\v<n:=by grind[Rk,Adl]
theorem Tj{f:B.Fn->B.Fn->B.Fn}{a b:B.As}(e:∀F G:B.Fn,F a=F b->G a=G b->f F G a=f F G b):∀{l:List B.Fn}{F:B.Fn},F a=F b->(∀G∈l,G a=G b)->l.foldl f F a=l.foldl f F b
 | [],_,c,_=>c
 |G::l,F,c,d=>Tj e (l:=l) (F:=f F G) (e F G c (d G ak)) λG g=>d G (bk _ g)
inductive Ata(op:Int)(nm:ByteArray):Ae->Prop
 |here {t:Ae}:t.Op=op->t.Name=nm->Ata op nm t
 |kid {t k:Ae}:k∈t.Kids->Ata op nm k->Ata op nm t
theorem Alk{L:Ac}{a b:B.As}:∀(z:Nat)(t:Ae),SizeOf.sizeOf t<z->(∀op nm,Ata op nm t->(op=3∨op=4)->∀v∈Cu L (Cl L.Aa nm) (decide (op=4)),a v=b v)->(D3 L t).1 a=(D3 L t).1 b/\(D3 L t).2 a=(D3 L t).2 b
 |0,_,hz,_=>absurd hz (ad _)
 |z+1,t,hz,e=>by
  have kid:∀s∈Hv L t.Kids,s.1 a=s.1 b/\s.2 a=s.2 b:=λs hs=>by rw[HO]at hs;obtain⟨k,hk,rfl⟩:=aa.1 hs;exact Alk z k (by have:=Ms hk;omega) λop nm h=>e op nm (.kid hk h)
  have c:∀i,Rh (Hv L t.Kids) i a=Rh (Hv L t.Kids) i b:=λi=>by
   unfold Rh;cases h:(Hv L t.Kids)[i]? with
   |none=>rfl
   |some s=>grind
  have d:∀i,svV (Hv L t.Kids) i a=svV (Hv L t.Kids) i b:=λi=>by
   unfold svV;cases h:(Hv L t.Kids)[i]? with
   |none=>rfl
   |some s=>grind
  have e':=e t.Op t.Name (.here rfl rfl);rw[YA];generalize Hv L t.Kids=s at c d;refine⟨?_,?_⟩
  .show opT L t.Op t.N t.Name t.Kids s a=opT L t.Op t.N t.Name t.Kids s b;unfold opT;split
   .rfl
   split
   .rename_i o;rw[bz,EX,EX];have:∀u∈Gf (Cu L (Cl L.Aa t.Name) (decide (t.Op=4))) (DL L (Cl L.Aa t.Name) 1),a u.Var=b u.Var:=λu f=>by have hm:u.Var∈(Gf (Cu L (Cl L.Aa t.Name) (decide (t.Op=4))) (DL L (Cl L.Aa t.Name) 1)).map (·.Var):=ce f;grind[Qs]
    grind
   split
   .show (!Rh s 0 a)=(!Rh s 0 b);rw[c]
   split
   .exact Tj (λF G h1 h2=>by unfold C6;rw[h1,h2]) rfl λG hG=>by obtain⟨i,_,rfl⟩:=aa.1 hG;grind
   split
   .exact Tj (λF G h1 h2=>by unfold Q4;rw[h1,h2]) rfl λG hG=>by obtain⟨i,_,rfl⟩:=aa.1 hG;grind
   split
   .unfold Tg;rw[c 0,c 1]
   split
   .unfold Th;rw[c 0,c 1]
   split
   .unfold CU;rw[c 0,c 1,c 2]
   split
   .unfold eqF Th S8;split<;>(grind)
   grind[WR]
  .show opN L t.Op t.N t.Name s a=opN L t.Op t.N t.Name s b;unfold opN;split;all_goals grind[Jk,OA,ifV,ZE]
theorem Afu(c:Jf L){n:Int}(f:2*CR L<=n)(z:Nat)(t:Ae)(d:SizeOf.sizeOf t<z):SD n (D3 L t):=λa b e=>
 Alk z t d λ_ _ _ _ v g=>by grind[All]
theorem Yk.len{t:Ae}(h:Yk t):1<=t.Op/\t.Op<=18/\(t.Op<=4->t.Kids.length=0)/\(t.Op=5->t.Kids.length=1)/\(t.Kids.length<=64)/\(8<=t.Op->t.Op<=17->t.Kids.length=2)/\(t.Op=18->t.Kids.length=3):=by
 have a:=h.w;unfold CA at a;split at a
 .omega
 rename_i b;split at a
 .omega
 split at a
 .omega
 split at a
 .omega
 rename_i c;unfold G0 at b c;(repeat' split at b)<;>simp_all<;>omega
theorem kl2{α:Type}:∀{l:List α},l.length=2->∃a b,l=[a,b]
 | [a,b],_=>⟨a,b,rfl⟩
theorem kl3{α:Type}:∀{l:List α},l.length=3->∃a b c,l=[a,b,c]
 | [a,b,c],_=>⟨a,b,c,rfl⟩
theorem Xj{vars:List Ar}{next:Bool}:∀{l:List Ae},(Ct vars next l).2=0->(Ct vars next l).1=l.map (λk=>(Bf vars next k).1)/\∀k∈l,(Bf vars next k).2=0
 | [],_=>by grind[Ct]
 |s::l,h=>by
  rw[FZ]at h ⊢;by_cases e:(Bf vars next s).2=0
  .rw[if_pos e]at h ⊢;by_cases b:(Ct vars next l).2=0
   .rw[if_pos b];obtain⟨d,c⟩:=Xj b;grind
   grind
  grind
variable {x:Int}
theorem Zl{a1 a2:Int}(a:a1<=x)(b:x<=a2)(c:Int):(a1*c<=x*c/\x*c<=a2*c)∨(a2*c<=x*c/\x*c<=a1*c):=by
 rcases Int.le_total 0 c with h|h
 all_goals simp_all[Int.mul_le_mul_of_nonneg_right,Int.mul_le_mul_of_nonpos_right]
theorem Arb{a1 a2 b1 b2 y:Int}(f:a1<=x)(a:x<=a2)(g:b1<=y)(i:y<=b2):GZ false (a1*b1) [(.i64,a1*b2),(.i64,a2*b1),(.i64,a2*b2)]<=x*y/\x*y<=GZ true (a1*b1) [(.i64,a1*b2),(.i64,a2*b1),(.i64,a2*b2)]:=by have k:=Zl f a b1;have l:=Zl f a b2;have h:=Zl g i x;rw[ch b1 x,ch b2 x,ch y x]at h;generalize x*y=p at *;generalize x*b1=j at *;generalize x*b2=m at *;generalize a1*b1=c at *;generalize a1*b2=e at *;generalize a2*b1=d at *;generalize a2*b2=b at *;show min (min (min c e) d) b<=p/\p<=max (max (max c e) d) b;omega
theorem Arc{y:Int}(h:1<=y):0<=opF 17 x y/\opF 17 x y<=y-1:=by show 0<=(x.tmod y+y).tmod y/\(x.tmod y+y).tmod y<=y-1;have m:=UA (x:=x) h;have b:=Int.tmod_nonneg (a:=x.tmod y+y) y (by omega);have c:(x.tmod y+y).tmod y<y:=Int.tmod_lt_of_pos _ (by omega);omega
end
structure Su(L:Ac)(n0:Int)(t:Ae)(y:Af):Prop where
 tr:y.Bool=true->J5 L n0 t (D3 L t).1
 nu:y.Bool=false->PG L n0 t (D3 L t).2
 rg:y.Bool=false->∀a v,(D3 L t).2 a=some v->y.Lo<=v/\v<=y.Hi
 tt:y.Bool=false->∀a,EA L false L.Aa.length a=true->EA L true L.Aa.length a=true->∃v,(D3 L t).2 a=some v
theorem Ali{L:Ac}{n0:Int}(hL:Ku L)(hfit:2*CR L<=n0)(h8:2*CR L<=8)(hv:L.Aa.length<=1000){t:Ae}(ok:Yk t)(hs:DV t<=40)(hT:∀k∈t.Kids,TyR (Bf L.Aa true k).1)(ks:∀k∈t.Kids,Su L n0 k (Bf L.Aa true k).1)(u:(Cp L.Aa true t (t.Kids.map λk=>(Bf L.Aa true k).1)).2=0):Su L n0 t (Cp L.Aa true t (t.Kids.map λk=>(Bf L.Aa true k).1)).1:=by
 obtain⟨o1,o18,l4,l5,l64,l8,l18⟩:=ok.len;have j:=YA (L:=L) t;have dep:∀k∈t.Kids,SD 8 (D3 L k):=λk _=>Afu hL.toJf h8 _ k (aj _);have vd:∀k∈t.Kids,VD 8 (D3 L k).2:=λk s a b e=>(dep k s a b e).2;have vb:∀k∈t.Kids,(Bf L.Aa true k).1.Bool=false->VB (D3 L k).2:=λk s Y a n e=>by have K:=(ks k s).rg Y a n e;obtain⟨r1,r2,r3,_⟩:=hT k s;omega
 have sp:∀{lo O:Int}{V:B.As->Option Int},Cp L.Aa true t (t.Kids.map λk=>(Bf L.Aa true k).1)=Fe lo O->(D3 L t).2=V->PG L n0 t V->(∀a v,V a=some v->lo<=v/\v<=O)->(∀a,EA L false L.Aa.length a=true->EA L true L.Aa.length a=true->∃v,V a=some v)->Su L n0 t (Cp L.Aa true t (t.Kids.map λk=>(Bf L.Aa true k).1)).1:=λ{lo O V}J e2 K W h3=>by rw[J]at u ⊢;rw[(ZW u).2];exact⟨λh=>absurd h be,λ_=>e2.symm▸K,λ_=>e2.symm▸W,λ_=>e2.symm▸h3⟩
 have N:∀{F:B.Fn},Cp L.Aa true t (t.Kids.map λk=>(Bf L.Aa true k).1)=(N6,0)->(D3 L t).1=F->J5 L n0 t F->Su L n0 t (Cp L.Aa true t (t.Kids.map λk=>(Bf L.Aa true k).1)).1:=λ{F}J e2 K=>by rw[J];exact⟨λ_=>e2.symm▸K,λh=>absurd h.symm be,λh=>absurd h.symm be,λh=>absurd h.symm be⟩
 have iT:∀{p:Prop}[Decidable p]{α:Type}{x y z:α},p->x=z->(if p then x else y)=z:=λh e=>(if_pos h).trans e;have d:∀{p:Prop}[Decidable p]{α:Type}{x y z:α},¬p->y=z->(if p then x else y)=z:=λh e=>(if_neg h).trans e;rcases(show t.Op=1∨t.Op=2∨(t.Op=3∨t.Op=4)∨(5<=t.Op/\t.Op<=9)∨t.Op=18∨(t.Op=10∨t.Op=11)∨(t.Op=12∨t.Op=13)∨t.Op=17∨(t.Op=14∨t.Op=15∨t.Op=16) by omega) with o|o|o|o|o|o|o|o|o
 .refine sp (lo:=t.N) (O:=t.N) (V:=λ_=>some t.N) (by unfold Cp;exact if_pos o) (by rw[j];unfold opN;exact if_pos o) ?_ (λa v e=>by cases e;omega) λa _ _=>⟨_,rfl⟩
  intro wb b M0 M lv H X Q w hn hl hS P;have sz:=Pb t;exact R1 o w (by omega) (by omega) hS λM' lv' H' r m k hr e nd z hm' nx=>P M' lv' H' r m k hr e nd z (by omega) (by omega)
 .exact N (F:=λ_=>decide (t.N=1)) (by unfold Cp;exact d (by omega) (if_pos o)) (by rw[j];unfold opT;exact if_pos o) (Ah5 o)
 .have E:Cp L.Aa true t (t.Kids.map λk=>(Bf L.Aa true k).1)=R5 L.Aa t.Op t.Name true:=by unfold Cp;exact d (by omega) (d (by omega) (if_pos o))
  rw[E]at u;unfold R5 at u;by_cases O:Cl L.Aa t.Name<L.Aa.length
  .rw[a6 O]at u;dsimp only at u;rw[if_neg (by rintro⟨_,h⟩;cases h)]at u;have l:R5 L.Aa t.Op t.Name true=if L.Aa[Cl L.Aa t.Name].Bool=true then (N6,0) else Fe L.Aa[Cl L.Aa t.Name].Lo L.Aa[Cl L.Aa t.Name].Hi:=by unfold R5;rw[a6 O];exact if_neg (by rintro⟨_,h⟩;cases h)
   by_cases Y:L.Aa[Cl L.Aa t.Name].Bool=true
   .exact N (by rw[E,l,if_pos Y]) (by rw[j];unfold opT;exact d (by omega) (if_pos o)) (Ak1 hL hfit o O Y)
   .have he':(Cp L.Aa true t (t.Kids.map λk=>(Bf L.Aa true k).1)).2=0:=by rw[E,l,if_neg Y];rw[if_neg Y]at u;exact u
    refine sp (lo:=L.Aa[Cl L.Aa t.Name].Lo) (O:=L.Aa[Cl L.Aa t.Name].Hi) (V:=Jk L (decide (t.Op=4)) (Cl L.Aa t.Name)) (by rw[E,l,if_neg Y]) (by rw[j];unfold opN;exact d (by omega) (if_pos o)) ?_ (λa v e=>?_) λa U T=>?_
    .intro wb b M0 M lv H X Q w hn hl hS P;have sz:=Pb t;exact TB hL hfit o O w (by omega) (by omega) hS λM' lv' H' r m k hr e nd z hm' nx=>P M' lv' H' r m k hr e nd z (by omega) (by omega)
    .have:=((Jx hL O).1 e).1;rw[show E8 L.Aa[Cl L.Aa t.Name]=L.Aa[Cl L.Aa t.Name].Lo from if_neg Y,show NF L.Aa[Cl L.Aa t.Name]=L.Aa[Cl L.Aa t.Name].Hi from if_neg Y]at this;exact this
    .refine ba.1 ?_;by_cases e4:t.Op=4
     .rw[decide_eq_true e4];exact(OS hL).1 T _ O
     .rw[decide_eq_false e4];exact(OS hL).1 U _ O
  .rw[ah (by omega)]at u;exact absurd (show (12:Int)=0 from u) (by decide)
 .have E:Cp L.Aa true t (t.Kids.map λk=>(Bf L.Aa true k).1)=KA (t.Kids.map λk=>(Bf L.Aa true k).1):=by unfold Cp;exact d (by omega) (d (by omega) (d (by omega) (if_pos o)))
  rw[E]at u;have hall:(t.Kids.map λk=>(Bf L.Aa true k).1).all (·.Bool)=true:=a7 λh=>by unfold KA at u;rw[if_neg h]at u;exact absurd u (by decide)
  have s:∀i(h:i<t.Kids.length),J5 L n0 t.Kids[i] (Rh (Hv L t.Kids) i):=λi h=>by rw[Afq h];have I:=ac h;exact(@Su.tr _ _ _ _ (ks _ I) (cj.1 hall _ (aa.2 ⟨_,I,rfl⟩)))
  have R:Cp L.Aa true t (t.Kids.map λk=>(Bf L.Aa true k).1)=(N6,0):=by rw[E];unfold KA;exact if_pos hall
  have t1:=Afm (t:=t) (Fs:=Rh (Hv L t.Kids)) s l64;rcases(show t.Op=5∨t.Op=6∨t.Op=7∨t.Op=8∨t.Op=9 by omega) with e|e|e|e|e
  .exact N R (by rw[j];unfold opT;exact d (by omega) (d (by omega) (if_pos e))) ((t1.1 e (l5 e)))
  .exact N R (by rw[j];unfold opT;exact d (by omega) (d (by omega) (d (by omega) (if_pos e)))) ((t1.2.1 e))
  .exact N R (by rw[j];unfold opT;exact d (by omega) (d (by omega) (d (by omega) (d (by omega) (if_pos e))))) ((t1.2.2.1 e))
  .exact N R (by rw[j];unfold opT;exact d (by omega) (d (by omega) (d (by omega) (d (by omega) (d (by omega) (if_pos e)))))) (((Afl (Fs:=Rh (Hv L t.Kids)) s (l8 (by omega) (by omega))).1 e))
  .exact N R (by rw[j];unfold opT;exact d (by omega) (d (by omega) (d (by omega) (d (by omega) (d (by omega) (d (by omega) (if_pos e))))))) (((Afl (Fs:=Rh (Hv L t.Kids)) s (l8 (by omega) (by omega))).2 e))
 .obtain⟨g,f,G,s⟩:=kl3 (l18 o);have E:Cp L.Aa true t (t.Kids.map λk=>(Bf L.Aa true k).1)=ifE (t.Kids.map λk=>(Bf L.Aa true k).1):=by unfold Cp;exact d (by omega) (d (by omega) (d (by omega) (d (by omega) (if_pos o))))
  rw[E,s]at u;have u:(if ¬(Bf L.Aa true g).1.Bool=true∨(Bf L.Aa true f).1.Bool≠(Bf L.Aa true G).1.Bool then (Sz,(13:Int)) else if (Bf L.Aa true f).1.Bool=true then ((Bf L.Aa true f).1,0) else Fe (GZ false (Bf L.Aa true f).1.Lo [(.i64,(Bf L.Aa true G).1.Lo)]) (GZ true (Bf L.Aa true f).1.Hi [(.i64,(Bf L.Aa true G).1.Hi)])).2=0:=u;by_cases c:¬(Bf L.Aa true g).1.Bool=true∨(Bf L.Aa true f).1.Bool≠(Bf L.Aa true G).1.Bool
  .rw[if_pos c]at u;exact absurd u (by decide)
  rw[if_neg c]at u;have S:(Bf L.Aa true g).1.Bool=true:=a7 λh=>c (.inl h);have bc:(Bf L.Aa true G).1.Bool=(Bf L.Aa true f).1.Bool:=(a7 λh=>c (.inr h):(Bf L.Aa true f).1.Bool=(Bf L.Aa true G).1.Bool).symm;have D:g∈t.Kids:=by rw[s];simp
  have C:f∈t.Kids:=by rw[s];simp
  have mc:G∈t.Kids:=by rw[s];simp
  have Z:Rh (Hv L t.Kids) 0=(D3 L g).1:=by rw[s,HO];rfl
  have l:Cp L.Aa true t (t.Kids.map λk=>(Bf L.Aa true k).1)=if (Bf L.Aa true f).1.Bool=true then ((Bf L.Aa true f).1,0) else Fe (GZ false (Bf L.Aa true f).1.Lo [(.i64,(Bf L.Aa true G).1.Lo)]) (GZ true (Bf L.Aa true f).1.Hi [(.i64,(Bf L.Aa true G).1.Hi)]):=by rw[E,s];exact if_neg c
  by_cases A:(Bf L.Aa true f).1.Bool=true
  .rw[if_pos A]at l;have hkk:∀i(h:i<t.Kids.length),J5 L n0 t.Kids[i] (Rh (Hv L t.Kids) i):=λi h=>by
    rw[Afq h];have I:=ac h;refine @Su.tr _ _ _ _ (ks _ I) ?_;generalize t.Kids[i]=k at I;rw[s]at I;rcases ay.1 I with rfl|I
    .exact S
    rcases ay.1 I with rfl|I
    .exact A
    rw[bo]at I;rw[I,bc];exact A
   exact N (by rw[l,(hT f C).2.2.2 A]) (by rw[j];unfold opT;exact d (by omega) (d (by omega) (d (by omega) (d (by omega) (d (by omega) (d (by omega) (d (by omega) (if_pos o)))))))) (((Afm (Fs:=Rh (Hv L t.Kids)) hkk l64).2.2.2 o (l18 o)))
  .rw[if_neg A]at l;have A:(Bf L.Aa true f).1.Bool=false:=by simpa using A
   have J:svV (Hv L t.Kids) 1=(D3 L f).2:=by rw[s,HO];rfl
   have e2:svV (Hv L t.Kids) 2=(D3 L G).2:=by rw[s,HO];rfl
   refine sp l (V:=ifV (D3 L g).1 (D3 L f).2 (D3 L G).2) (by rw[j];unfold opN;rw[Z,J,e2];exact d (by omega) (d (by omega) (if_pos o))) (Av9 o s (((ks g D).tr S)) (((ks f C).nu A)) (((ks G mc).nu (bc.trans A))) hs) (λa v e=>?_) λa U T=>?_
   .show min (Bf L.Aa true f).1.Lo (Bf L.Aa true G).1.Lo<=v/\v<=max (Bf L.Aa true f).1.Hi (Bf L.Aa true G).1.Hi;unfold ifV at e;split at e
    .have:=(ks f C).rg A a v e;omega
    .have:=(ks G mc).rg (bc.trans A) a v e;omega
   .unfold ifV;split
    .exact(ks f C).tt A a U T
    .exact(ks G mc).tt (bc.trans A) a U T
 .obtain⟨g,f,s⟩:=kl2 (l8 (by omega) (by omega));have E:Cp L.Aa true t (t.Kids.map λk=>(Bf L.Aa true k).1)=eqE (t.Kids.map λk=>(Bf L.Aa true k).1):=by unfold Cp;exact d (by omega) (d (by omega) (d (by omega) (d (by omega) (d (by omega) (if_pos o)))))
  rw[E,s]at u;have u:(if (Bf L.Aa true g).1.Bool≠(Bf L.Aa true f).1.Bool then (Sz,(13:Int)) else (N6,0)).2=0:=u;by_cases c:(Bf L.Aa true g).1.Bool≠(Bf L.Aa true f).1.Bool
  .rw[if_pos c]at u;exact absurd u (by decide)
  have c':(Bf L.Aa true g).1.Bool=(Bf L.Aa true f).1.Bool:=au.1 c;have l:Cp L.Aa true t (t.Kids.map λk=>(Bf L.Aa true k).1)=(N6,0):=by rw[E,s];exact if_neg c
  have D:g∈t.Kids:=by rw[s];simp
  have C:f∈t.Kids:=by rw[s];simp
  have q:=Auu (n0:=n0) s hv (ok.k g D) hs o;have hkB:A0u L t.Kids=(Bf L.Aa true g).1.Bool:=by rw[s];rfl
  by_cases A:(Bf L.Aa true g).1.Bool=true
  .have Z:Rh (Hv L t.Kids) 0=(D3 L g).1:=by rw[s,HO];rfl
   have J:Rh (Hv L t.Kids) 1=(D3 L f).1:=by rw[s,HO];rfl
   exact N l (by rw[j];unfold opT;rw[Z,J];exact d (by omega) (d (by omega) (d (by omega) (d (by omega) (d (by omega) (d (by omega) (d (by omega) (d (by omega) (if_pos ⟨o,by rw[hkB];exact A⟩))))))))) ((q.2 _ _ ((ks g D).tr A) ((ks f C).tr (c'.symm.trans A)) A))
  .have bb':(Bf L.Aa true g).1.Bool=false:=by simpa using A
   have Z:svV (Hv L t.Kids) 0=(D3 L g).2:=by rw[s,HO];rfl
   have J:svV (Hv L t.Kids) 1=(D3 L f).2:=by rw[s,HO];rfl
   have eo:Aca t.Op=λx y=>decide (x=y)==decide (decide (t.Op=10)=true):=by funext x y;unfold Aca;exact d (by omega) (if_neg (by omega))
   exact N l (by rw[j];unfold opT;rw[Z,J,eo];exact d (by omega) (d (by omega) (d (by omega) (d (by omega) (d (by omega) (d (by omega) (d (by omega) (d (by omega) (if_neg λh=>A (by rw[<-hkB];exact h.2)))))))))) ((q.1 _ _ ((ks g D).nu bb') ((ks f C).nu (c'.symm.trans bb')) bb'))
 all_goals
  obtain⟨g,f,s⟩:=kl2 (l8 (by omega) (by omega))
  have E:Cp L.Aa true t (t.Kids.map λk=>(Bf L.Aa true k).1)=Aq2 t.Op t.Kids (t.Kids.map λk=>(Bf L.Aa true k).1):=by unfold Cp;exact d (by omega) (d (by omega) (d (by omega) (d (by omega) (d (by omega) (if_neg (by omega))))))
  rw[E,s]at u
  have u:(if (Bf L.Aa true g).1.Bool=true∨(Bf L.Aa true f).1.Bool=true then (Sz,(13:Int)) else if t.Op=12∨t.Op=13 then (N6,0) else if t.Op=17 then Ai6 [g,f] else Oa t.Op (Bf L.Aa true g).1 (Bf L.Aa true f).1).2=0:=u
  have l:Cp L.Aa true t (t.Kids.map λk=>(Bf L.Aa true k).1)=if (Bf L.Aa true g).1.Bool=true∨(Bf L.Aa true f).1.Bool=true then (Sz,(13:Int)) else if t.Op=12∨t.Op=13 then (N6,0) else if t.Op=17 then Ai6 [g,f] else Oa t.Op (Bf L.Aa true g).1 (Bf L.Aa true f).1:=by rw[E,s];rfl
  by_cases c:(Bf L.Aa true g).1.Bool=true∨(Bf L.Aa true f).1.Bool=true
  .rw[if_pos c]at u;exact absurd u (by decide)
  rw[if_neg c]at u l
  have S:(Bf L.Aa true g).1.Bool=false:=by have h:¬(Bf L.Aa true g).1.Bool=true:=λh=>c (.inl h);simpa using h
  have A:(Bf L.Aa true f).1.Bool=false:=by have h:¬(Bf L.Aa true f).1.Bool=true:=λh=>c (.inr h);simpa using h
  have D:g∈t.Kids:=by rw[s];simp
  have C:f∈t.Kids:=by rw[s];simp
  have Z:svV (Hv L t.Kids) 0=(D3 L g).2:=by rw[s,HO];rfl
  have J:svV (Hv L t.Kids) 1=(D3 L f).2:=by rw[s,HO];rfl
 .rw[if_pos o]at l;have q:=Ak2 (n0:=n0) s (((ks g D).nu S)) (((ks f C).nu A)) hs;have eT:(D3 L t).1=WR (Aca t.Op) (D3 L g).2 (D3 L f).2:=by rw[j];unfold opT;rw[Z,J];exact d (by omega) (d (by omega) (d (by omega) (d (by omega) (d (by omega) (d (by omega) (d (by omega) (d (by omega) (if_neg (by omega)))))))))
  rcases o with e|e
  .have eo:Aca t.Op=λx y=>decide (x<y):=by funext x y;unfold Aca;exact if_pos e
   rw[eo]at eT;exact N l eT ((q.1 e))
  .have eo:Aca t.Op=λx y=>decide (x<=y):=by funext x y;unfold Aca;exact d (by omega) (if_pos e)
   rw[eo]at eT;exact N l eT ((q.2 e))
 .have n12:¬(t.Op=12∨t.Op=13):=by omega
  rw[if_neg n12,if_pos o]at u l;have u:(if f.Op≠1∨f.N<1 then (Sz,(2:Int)) else Fe 0 (f.N-1)).2=0:=u;by_cases c2:f.Op≠1∨f.N<1
  .rw[if_pos c2]at u;exact absurd u (by decide)
  have hp3:Cp L.Aa true t (t.Kids.map λk=>(Bf L.Aa true k).1)=Fe 0 (f.N-1):=l.trans (if_neg c2);have ob:f.Op=1:=a7 λh=>c2 (.inl h);have sb:(D3 L f).2=λ_=>some f.N:=by rw[YA];unfold opN;exact if_pos ob
  have hpos:1<=f.N:=by omega
  have I:∀a y,(D3 L f).2 a=some y->y=f.N:=λa y e=>by rw[sb]at e;cases e;rfl
  refine sp hp3 (V:=ZE (opF t.Op) (D3 L g).2 (D3 L f).2) (by rw[j];unfold opN;rw[Z,J];exact d (by omega) (d (by omega) (if_neg (by omega)))) (Agd (by omega) s (((ks g D).nu S)) (((ks f C).nu A)) hs (vd g D) (vd f C) (vb g D S) (vb f C A) λ_ a y e=>by rw[I a y e];exact hpos) (λa v e=>?_) λa U T=>?_
  .obtain⟨x,y,K,W,h3⟩:=Po.1 e;have:=I a y W;subst this;rw[<-h3,o];exact Arc hpos
  .obtain⟨x,hx⟩:=(ks g D).tt S a U T;obtain⟨y,hy⟩:=(ks f C).tt A a U T;exact⟨_,Po.2 ⟨x,y,hx,hy,rfl⟩⟩
 .have n12:¬(t.Op=12∨t.Op=13):=by omega
  have n17:¬t.Op=17:=by omega
  rw[if_neg n12,if_neg n17]at u l;have hrg:∀a v,ZE (opF t.Op) (D3 L g).2 (D3 L f).2 a=some v->∃x y,opF t.Op x y=v/\((Bf L.Aa true g).1.Lo<=x/\x<=(Bf L.Aa true g).1.Hi)/\((Bf L.Aa true f).1.Lo<=y/\y<=(Bf L.Aa true f).1.Hi):=λa v e=>by obtain⟨x,y,K,W,h3⟩:=Po.1 e;exact⟨x,y,h3,(ks g D).rg S a x K,(ks f C).rg A a y W⟩
  have hnu:PG L n0 t (ZE (opF t.Op) (D3 L g).2 (D3 L f).2):=Agd (by omega) s (((ks g D).nu S)) (((ks f C).nu A)) hs (vd g D) (vd f C) (vb g D S) (vb f C A) λh=>absurd h n17;have htt:∀a,EA L false L.Aa.length a=true->EA L true L.Aa.length a=true->∃v,ZE (opF t.Op) (D3 L g).2 (D3 L f).2 a=some v:=λa U T=>by obtain⟨x,hx⟩:=(ks g D).tt S a U T;obtain⟨y,hy⟩:=(ks f C).tt A a U T;exact⟨_,Po.2 ⟨x,y,hx,hy,rfl⟩⟩
  have eV:(D3 L t).2=ZE (opF t.Op) (D3 L g).2 (D3 L f).2:=by rw[j];unfold opN;rw[Z,J];exact d (by omega) (d (by omega) (if_neg (by omega)))
  rcases o with e|e|e
  .refine sp (l.trans (by unfold Oa;exact d (by omega) (if_pos e))) eV (@hnu) (λa v h=>?_) htt;obtain⟨x,y,rfl,K,W⟩:=hrg a v h;rw[e];show _<=x+y/\x+y<=_;omega
  .refine sp (l.trans (by unfold Oa;exact if_pos e)) eV (@hnu) (λa v h=>?_) htt;obtain⟨x,y,rfl,K,W⟩:=hrg a v h;rw[e];show _<=x-y/\x-y<=_;omega
  .refine sp (l.trans (by unfold Oa;exact d (by omega) (if_neg (by omega)))) eV (@hnu) (λa v h=>?_) htt;obtain⟨x,y,rfl,K,W⟩:=hrg a v h;rw[e];exact Arb K.1 K.2 W.1 W.2
theorem Alj{L:Ac}{n0:Int}(h:Ku L)(a:2*CR L<=n0)(i:2*CR L<=8)(g:L.Aa.length<=1000):∀(z:Nat)(t:Ae),SizeOf.sizeOf t<z->Yk t->DV t<=40->(Bf L.Aa true t).2=0->Su L n0 t (Bf L.Aa true t).1
 |0,_,d,_,_,_=>absurd d (ad _)
 |z+1,t,d,j,l,c=>by
  rw[Yx]at c ⊢;by_cases e:(Ct L.Aa true t.Kids).2=0
  .rw[if_pos e]at c ⊢;obtain⟨m,f⟩:=Xj e;rw[m]at c ⊢;exact Ali h a i g j l (λk b=>SH _ k (aj _) (f k b)) (λk b=>Alj h a i g z k (by have:=Ms b;omega) (j.k k b) (by have:=Afp b;omega) (f k b)) c
  grind
theorem Akx{vars:List Ar}{next:Bool}{t:Ae}(h:(Nq vars next t).2=0):Yk t/\(Bf vars next t).2=0/\Nq vars next t=Bf vars next t:=by
 unfold Nq at h ⊢;by_cases e:(GX 1 0 t).2=0
 .rw[if_pos e]at h ⊢;exact⟨Z5 _ t 1 0 (aj _) e,h,rfl⟩
 .rw[if_neg e]at h;exact absurd h e
theorem Avb{L:Ac}{n0:Int}(d:Ku L)(a:2*CR L<=n0)(c:2*CR L<=8)(b:L.Aa.length<=1000){t:Ae}(hs:DV t<=40)(h:(Nq L.Aa true t).2=0):Su L n0 t (Nq L.Aa true t).1:=by obtain⟨o,e,r⟩:=Akx h;rw[r];exact Alj d a c b _ t (aj _) o hs e
section
set_option maxRecDepth 100000
set_option maxHeartbeats 2000000
end
section
def IsV(l:List Ar)(s:List Int):Prop:=s.length=l.length/\∀i(h:i<l.length)(h':i<s.length),E8 l[i]<=s[i]/\s[i]<=NF l[i]
variable {v:Ar}
theorem PW(h:v.Bool=true):E8 v=0:=if_pos h
theorem XN(h:v.Bool=true):NF v=1:=if_pos h
theorem PV(h:¬v.Bool=true):E8 v=v.Lo:=if_neg h
theorem XM(h:¬v.Bool=true):NF v=v.Hi:=if_neg h
theorem Aic{L:Ac}(c:Jf L){i j:Nat}(hi:i<L.Aa.length)(b:i<L.Bits.length)(d:j<L.Bits[i].toNat){next:Bool}:(Cu L i next)[j]?=some (2*(D0 L.Bits i+(j:Int))+if next=true then 1 else 0):=by
 have a:i<L.At.length:=by rw[c.la];exact hi
 have e:(Mq L i)[j]?=some (2*(D0 L.Bits i+(j:Int))):=by unfold Mq;rw[br,a6 b,a6 a,bu,bu,bn d,c.at_ i a];rfl
 unfold Cu;split
 .rename_i f;rw[br,e];rfl
 .rename_i f;rw[e,Int.add_zero]
theorem Yw{m:Im}{s:List Int}{H:HY}{X:PX}{Q:Bool×Unit->UU}(I:m.Aa.length<=1000)(h:∀t:Bool,(t=true↔IsV m.Aa s)->Q (t,()) () H):Wp Y0 TI NU (m,s,()) H Q X:=by
 refine wF Tryz.f140 {lp:=[(4,⟨[(18,.nat)],[1,16,17],false⟩)],im:=[2]} (?_:s.length<=2^63-1->m.Aa.length<=2^63-1->(¬s.length=m.Aa.length->Q (false,()) () H)/\(¬¬s.length=m.Aa.length->m.Aa.length<=2^63-1->∃(V:Nat->Nat×UT->Prop),(∃(n:Nat),H=H/\V n (0,()))/\∀n x,V n x->(x.1<m.Aa.length->x.1<=2^63-1->∃(h:x.1<m.Aa.length),(m.Aa[x.1].Bool->x.1<=2^63-1->∃(h:x.1<s.length),(s[x.1]<0->Q (false,()) () H)/\(¬s[x.1]<0->x.1<=2^63-1->∃(h:x.1<s.length),((1:Int)<s[x.1]->Q (false,()) () H)/\(¬(1:Int)<s[x.1]->x.1+1<=2^63-1/\∃m,m<n/\H=H/\V m (x.1+1,()))))/\(¬m.Aa[x.1].Bool->x.1<=2^63-1->∃(h1:x.1<s.length),(s[x.1]<m.Aa[x.1].Lo->Q (false,()) () H)/\(¬s[x.1]<m.Aa[x.1].Lo->x.1<=2^63-1->∃(h2:x.1<s.length),(m.Aa[x.1].Hi<s[x.1]->Q (false,()) () H)/\(¬m.Aa[x.1].Hi<s[x.1]->x.1+1<=2^63-1/\∃m,m<n/\H=H/\V m (x.1+1,())))))/\(¬x.1<m.Aa.length->Q (true,()) () H)));intro _ _;refine⟨λx=>h false ⟨λg=>(by cases g),λg=>absurd g.1 x⟩,λy=>?_⟩;have y:s.length=m.Aa.length:=au.1 y;refine λ_=>⟨λn z=>n=s.length-z.1/\z.1<=s.length/\∀i,i<z.1->∀(h:i<m.Aa.length)(C:i<s.length),E8 m.Aa[i]<=s[i]/\s[i]<=NF m.Aa[i],⟨_,rfl,rfl,a5 _,λi B=>absurd B (ad _)⟩,?_⟩
 rintro n ⟨k,_⟩ ⟨p,r,j⟩;have G:n=s.length-k:=p;have F:k<=s.length:=r;have D:∀i,i<k->∀(h:i<m.Aa.length)(C:i<s.length),E8 m.Aa[i]<=s[i]/\s[i]<=NF m.Aa[i]:=j;refine⟨λq _=>?_,λw=>?_⟩
 .have o:k<m.Aa.length:=q;have d:k<s.length:=by omega
  have f:¬(E8 m.Aa[k]<=s[k]/\s[k]<=NF m.Aa[k])->Q (false,()) () H:=λg=>h false ⟨λe=>(by cases e),λe=>absurd (e.2 k o d) g⟩;have l:(E8 m.Aa[k]<=s[k]/\s[k]<=NF m.Aa[k])->k+1<=9223372036854775807/\∃(u:Nat),u<n/\H=H/\(u=s.length-(k+1)/\k+1<=s.length/\∀i,i<k+1->∀(h:i<m.Aa.length)(C:i<s.length),E8 m.Aa[i]<=s[i]/\s[i]<=NF m.Aa[i]):=λg=>⟨by omega,s.length-(k+1),by omega,rfl,rfl,by omega,λi B a A=>by
   by_cases e:i=k
   .subst e;exact g
   .exact D i (by omega) a A⟩
  refine⟨o,λb _=>⟨d,λc=>f ?_,λc _=>⟨d,λa=>f ?_,λa=>l ?_⟩⟩,λb _=>⟨d,λc=>f ?_,λc _=>⟨d,λa=>f ?_,λa=>l ?_⟩⟩⟩
  .have c:s[k]<0:=c;rw[PW (v:=m.Aa[k]) b,XN (v:=m.Aa[k]) b];omega
  .have a:1<s[k]:=a;rw[PW (v:=m.Aa[k]) b,XN (v:=m.Aa[k]) b];omega
  .have c:¬s[k]<0:=c;have a:¬1<s[k]:=a;rw[PW (v:=m.Aa[k]) b,XN (v:=m.Aa[k]) b];omega
  .have c:s[k]<m.Aa[k].Lo:=c;rw[PV (v:=m.Aa[k]) b,XM (v:=m.Aa[k]) b];omega
  .have a:m.Aa[k].Hi<s[k]:=a;rw[PV (v:=m.Aa[k]) b,XM (v:=m.Aa[k]) b];omega
  .have c:¬s[k]<m.Aa[k].Lo:=c;have a:¬m.Aa[k].Hi<s[k]:=a;rw[PV (v:=m.Aa[k]) b,XM (v:=m.Aa[k]) b];omega
 .have E:¬k<m.Aa.length:=w;exact h true ⟨λ_=>⟨y,λi a A=>D i (by omega) a A⟩,λ_=>rfl⟩
end
section
variable {α:Type}
def G6(f:Nat->List α)(k:Nat):List α:=(ab k).flatMap f
theorem Ye{f:Nat->List α}:G6 f 0=[]:=rfl
theorem Iw{f:Nat->List α}{k:Nat}:G6 f (k+1)=G6 f k++f k:=by unfold G6;rw[bx,cf];simp
theorem Kg{α:Type}{f:Nat->List α}{L:Ac}(b:Jf L)(a:∀i(hi:i<L.Bits.length),(f i).length=L.Bits[i].toNat):∀{k:Nat},k<=L.Bits.length->((G6 f k).length:Int)=D0 L.Bits k
 |0,_=>by simp [Ye,D0]
 |k+1,c=>by have e:=Kg (f:=f) b a (k:=k) (by omega);have d:=b.b0 k (by omega);rw[Iw,a9,a k (by omega),Eo (by omega)];omega
theorem Aw1{A C:List α}{z:α}{T p:Nat}(a:p=A.length)(h:A.length+C.length<=T):b9 p (A++a8 (T-A.length) z)++(b9 (min C.length ((A++a8 (T-A.length) z).length-p)) C++cd (p+min C.length ((A++a8 (T-A.length) z).length-p)) (A++a8 (T-A.length) z))=(A++C)++a8 (T-(A++C).length) z:=by
 subst a;have b:(A++a8 (T-A.length) z).length=T:=by simp;omega
 rw[b,Nat.min_eq_left (by omega),bh,a9,bt];congr 1
 .simp
 .congr 1;rw[List.drop_append,List.drop_eq_nil_of_le (by omega),c0,List.drop_replicate];congr 1;omega
variable {L:Ac} {H:HY} {X:PX} {Q:List Int×Unit->UU}
theorem VK{f:Nat->List Int}{one:Ac×Int×Unit->HY->(List Int×Unit->HP)->PX->Prop}(a:Jf L)(I:∀i(hi:i<L.Bits.length),(f i).length=L.Bits[i].toNat)(F:∀i,i<L.Aa.length->∀(H:HY)(R:List Int×Unit->HP),R (f i,()) H->one (L,(i:Int),()) H R X)(h:Q (G6 f L.Aa.length,()) () H):Wp Y0 J0 GJ (L,one,()) H Q X:=by
 refine wF Tryz.f142 {lp:=[(3,⟨[(5,.one (.own I6)),(13,.nat)],[1,2,5,12],true⟩)],im:=[2]} (?_:Wp Y0 Ik Fo (L,()) H (λ(b:Int×UT)_ G=>IK b.1->IK b.1->0<=b.1/\b.1=b.1/\b.1.toNat*8<=281474976710656/\(L.Aa.length<=2^63-1->∃(V:Nat->List Int×Nat×UT->HP),(∃(n:Nat),V n (a8 b.1.toNat (0:Int),0,()) G)/\∀n x H,V n x H->(x.2.1<L.Aa.length->x.2.1<=2^63-1->∃(h:x.2.1<L.At.length),(IK L.At[x.2.1]->0<=L.At[x.2.1]/\L.At[x.2.1].toNat<=x.1.length/\one (L,(↑x.2.1:Int),()) H (λ(b:List Int×UT)(G:HY)=>L.At[x.2.1].toNat<=x.1.length/\x.2.1+1<=2^63-1/\∃m,m<n/\V m (b9 L.At[x.2.1].toNat x.1++(b9 (min b.1.length (x.1.length-L.At[x.2.1].toNat)) b.1++cd (L.At[x.2.1].toNat+min b.1.length (x.1.length-L.At[x.2.1].toNat)) x.1),x.2.1+1,()) G) X)/\one (L,(↑x.2.1:Int),()) H (λ(b:List Int×UT)(G:HY)=>IK L.At[x.2.1]->0<=L.At[x.2.1]/\L.At[x.2.1].toNat<=x.1.length/\L.At[x.2.1].toNat<=x.1.length/\x.2.1+1<=2^63-1/\∃m,m<n/\V m (b9 L.At[x.2.1].toNat x.1++(b9 (min b.1.length (x.1.length-L.At[x.2.1].toNat)) b.1++cd (L.At[x.2.1].toNat+min b.1.length (x.1.length-L.At[x.2.1].toNat)) x.1),x.2.1+1,()) G) X)/\(¬x.2.1<L.Aa.length->Q (x.1,()) () H))) X);have K:=a.ln;have B:=a.lb;have O:=a.la;have G:=a.sum (af _);have A:0<=CR L:=G.1;have M:CR L<=1920:=by have:=G.2;unfold CR;omega
 refine Sd a λ_ _=>⟨A,rfl,by show (CR L).toNat*8<=_;omega,λ_=>⟨λn z o=>o=H/\n=L.Aa.length-z.2.1/\z.2.1<=L.Aa.length/\z.1=G6 f z.2.1++a8 ((CR L).toNat-(G6 f z.2.1).length) 0,⟨_,rfl,rfl,a5 _,by simp [Ye]⟩,?_⟩⟩
 rintro n ⟨x,i,_⟩ o ⟨rfl,u,w,l⟩;have T:n=L.Aa.length-i:=u;have hi:i<=L.Aa.length:=w;have d:x=G6 f i++a8 ((CR L).toNat-(G6 f i).length) 0:=l;have S:=Kg (f:=f) a I (k:=i) (by omega);have C:=a.NP (j:=i) (k:=L.Bits.length) (by omega) (af _);have c:x.length=(CR L).toNat:=by rw[d,a9,List.length_replicate];unfold CR at *;omega
 refine⟨λp _=>?_,λg=>?_⟩
 .have q:i<L.Aa.length:=p;have s:i<L.At.length:=by omega
  have N:i<L.Bits.length:=by omega
  have r:L.At[i]=D0 L.Bits i:=a.at_ i s;have b:L.At[i].toNat=(G6 f i).length:=by rw[r];omega
  have E:=Kg (f:=f) a I (k:=i+1) (by omega);have y:=a.NP (j:=i+1) (k:=L.Bits.length) (by omega) (af _);rw[Iw,a9]at E;have D:(G6 f i).length+(f i).length<=(CR L).toNat:=by unfold CR at *;omega
  have v:0<=L.At[i]:=by rw[r];exact(a.sum (k:=i) (by omega)).1
  have t:L.At[i].toNat<=x.length/\i+1<=9223372036854775807/\∃m,m<n/\o=o/\m=L.Aa.length-(i+1)/\i+1<=L.Aa.length/\(b9 L.At[i].toNat x++(b9 (min (f i).length (x.length-L.At[i].toNat)) (f i)++cd (L.At[i].toNat+min (f i).length (x.length-L.At[i].toNat)) x))=G6 f (i+1)++a8 ((CR L).toNat-(G6 f (i+1)).length) 0:=
   ⟨by rw[c,b];omega,by omega,L.Aa.length-(i+1),by omega,rfl,rfl,by omega,by rw[d,Iw];exact Aw1 b D⟩
  refine⟨s,λ_=>⟨v,by show L.At[i].toNat<=x.length;rw[c,b];omega,F i q _ _ t⟩,F i q _ _ λ_=>⟨v,by show L.At[i].toNat<=x.length;rw[c,b];omega,t⟩⟩
 .have P:¬i<L.Aa.length:=g;have e:i=L.Aa.length:=by omega
  subst e;have J:(CR L).toNat-(G6 f L.Aa.length).length=0:=by rw[<-B]at S ⊢;unfold CR;omega
  rw[J]at d;have d:x=G6 f L.Aa.length:=by rw[d];simp
  show Q (x,()) () o;rw[d];exact h
theorem Aj7(b:Jf L)(h:Q (G6 (λi=>Cu L i false) L.Aa.length,()) () H):Wp Y0 K7 Hn (L,()) H Q X:=by refine wF Tryz.f69 {im:=[1]} (?_:Wp Y0 J0 GJ (L,λ(a:Ac×Int×UT)(H:HY)(Q:List Int×UT->HP)(X:Nat->Lf Y0.D->HP)=>Wp Y0 GV ET (a.1,a.2.1,()) H (λ(b:List Int×UT)(x:UT)(G:HY)=>Q (b.1,()) G) X,()) H (λ(b:List Int×UT)_ G=>Q (b.1,()) () G) X);refine VK (f:=λi=>Cu L i false) b (λi a=>Jt a) (λi a H R c=>QH b a ?_) h;exact c
theorem Ae6(b:Jf L)(h:Q (G6 (λi=>Cu L i true) L.Aa.length,()) () H):Wp Y0 JY Gm (L,()) H Q X:=by refine wF Tryz.f70 {im:=[1]} (?_:Wp Y0 J0 GJ (L,λ(a:Ac×Int×UT)(H:HY)(Q:List Int×UT->HP)(X:Nat->Lf Y0.D->HP)=>Wp Y0 IV FV (a.1,a.2.1,()) H (λ(b:List Int×UT)(x:UT)(G:HY)=>Q (b.1,()) G) X,()) H (λ(b:List Int×UT)_ G=>Q (b.1,()) () G) X);refine VK (f:=λi=>Cu L i true) b (λi a=>Jt a) (λi a H R c=>TK b a ?_) h;exact c
def bitsOf(L:Ac)(s:List Int)(i:Nat):List Bool:=(ab ((L.Bits[i]?).getD 0).toNat).map λ(j:Nat)=>WW (DL L i (s.getD i 0)) j
theorem Nk{s:List Int}{i:Nat}(hi:i<L.Bits.length):(bitsOf L s i).length=L.Bits[i].toNat:=by unfold bitsOf;rw[a6 hi];simp
theorem Alm{i:Nat}{n:Int}(hi:i<L.Aa.length):DL L i n=n-E8 L.Aa[i]:=by
 unfold DL;rw[a6 hi];show (if L.Aa[i].Bool=true then n else n-L.Aa[i].Lo)=_;by_cases a:L.Aa[i].Bool=true
 .rw[if_pos a,PW a,Int.sub_zero]
 .rw[if_neg a,PV a]
theorem Ajj{v:Ar}{Q:Int×Unit->UU}(h:Q (E8 v,()) () H):Wp Y0 Ab0 UJ (v,()) H Q X:=by refine wF Tryz.f141 {im:=[1]} (?_:(v.Bool->Q (0,()) () H)/\(¬v.Bool->Q (v.Lo,()) () H));exact⟨λa=>by rw[PW a]at h;exact h,λa=>by rw[PV a]at h;exact h⟩
theorem Ate{s:List Int}{Q:List Bool×Int×Unit->UU}(l:Ku L)(hx:¬IsV L.Aa s->Q ([],21,()) () H)(h:IsV L.Aa s->Q (G6 (bitsOf L s) L.Aa.length,0,()) () H):Wp Y0 LB IC (L,s,()) H Q X:=by
 refine wF Tryz.f68 {lp:=[(8,⟨[(4,.one (.own .bool)),(8,.one (.dat I6)),(35,.nat)],[1,2,16,17,18,34],false⟩),(4,⟨[(4,.one (.own .bool)),(18,.nat)],[1,2,16,17],false⟩)],im:=[2]} (?_:Wp Y0 TI NU ({L with Defs:=[],Init:=[],Acu:=[],Next:=[],Trans:=[],Fair:=[],Acm:=[]},s,()) H (λ(b:Bool×UT)_ G=>(¬b.1->Q ([],21,()) () G)/\(¬¬b.1->L.Aa.length<=2^63-1->∃(V:Nat->List Bool×Nat×UT->Prop),(∃(n:Nat),G=G/\V n ([],0,()))/\∀n x,V n x->(x.2.1<L.Aa.length->x.2.1<=2^63-1->∃(h:x.2.1<L.Aa.length),x.2.1<=2^63-1->∃(h1:x.2.1<s.length),Wp Y0 Ab0 UJ (L.Aa[x.2.1],()) G (λ(b:Int×UT)(io:UT)(H'_1:HY)=>IK s[x.2.1]->IK b.1->IK (s[x.2.1]-b.1)/\(x.2.1<=2^63-1->∃(h:x.2.1<L.Bits.length),∃(V1:Nat->List Bool×Int×Nat×UT->Prop),(∃(n:Nat),H'_1=H'_1/\V1 n (x.1,s[x.2.1]-b.1,0,()))/\∀n1 x1,V1 n1 x1->((↑x1.2.2.1:Int)<L.Bits[x.2.1]->IK x1.2.1->¬(2:Int)=0/\IK (x1.2.1.tmod 2)/\(x1.1.length+[decide (x1.2.1.tmod (2:Int)=1)].length)*1<=2^47/\(IK x1.2.1->¬(2:Int)=0/\IK (x1.2.1.tdiv 2)/\x1.2.2.1+1<=2^63-1/\∃m,m<n1/\H'_1=H'_1/\V1 m (x1.1++[decide (x1.2.1.tmod (2:Int)=1)],x1.2.1.tdiv 2,x1.2.2.1+1,())))/\(¬(↑x1.2.2.1:Int)<L.Bits[x.2.1]->x.2.1+1<=2^63-1/\∃m,m<n/\H'_1=G/\V m (x1.1,x.2.1+1,())))) X)/\(¬x.2.1<L.Aa.length->Q (x.1,0,()) () G))) X);have hln:=l.ln;have hlb:=l.lb;refine Yw (by show L.Aa.length<=1000;omega) λt U=>⟨λO=>hx λhh=>O (U.2 hh),λO _=>?_⟩
 have N:IsV L.Aa s:=U.1 (au.1 O);have hsl:=N.1;refine⟨λn z=>n=L.Aa.length-z.2.1/\z.2.1<=L.Aa.length/\z.1=G6 (bitsOf L s) z.2.1,⟨_,rfl,rfl,a5 _,rfl⟩,?_⟩;rintro n ⟨x,i,_⟩ ⟨A,F,w⟩;have Z:n=L.Aa.length-i:=A;have T:i<=L.Aa.length:=F;have v:x=G6 (bitsOf L s) i:=w;have hc:=Kg (f:=bitsOf L s) l.toJf (λi T=>Nk T) (k:=i) (by omega);have Y:=(l.toJf.sum (k:=i) (by omega)).2;refine⟨λu _=>?_,λp=>?_⟩
 .have c:i<L.Aa.length:=u;have b:i<L.Bits.length:=by omega
  have g:i<s.length:=by omega
  obtain⟨f1,f2,f3,f4⟩:=l.fit i c b;obtain⟨v1,v2⟩:=N.2 i c g;have hb0:=l.b0 i b;obtain⟨d,P⟩:=Int.eq_ofNat_of_zero_le (show 0<=s[i]-E8 L.Aa[i] by omega);have M:(2:Nat)^L.Bits[i].toNat<=2^30:=ca (by omega) (by omega);have o:d<1073741824:=by
   have:(d:Int)<((2^L.Bits[i].toNat:Nat):Int):=by rw[<-P,<-Rt];omega
   have:=Int.ofNat_lt.1 this;exact Nat.lt_of_lt_of_le this M
  have C:DL L i (s.getD i 0)=(d:Int):=by rw[Alm c,List.getD_eq_getElem?_getD,a6 g];exact P
  refine⟨c,λ_=>⟨g,Ajj λ_ _=>⟨A7.2 (by show _<=s[i]-E8 L.Aa[i]/\s[i]-E8 L.Aa[i]<=_;omega),λ_=>⟨b,λm z=>m=L.Bits[i].toNat-z.2.2.1/\z.2.2.1<=L.Bits[i].toNat/\z.1=G6 (bitsOf L s) i++(bitsOf L s i).take z.2.2.1/\z.2.1=((d/2^z.2.2.1:Nat):Int),⟨_,rfl,rfl,a5 _,?_,?_⟩,?_⟩⟩⟩⟩
  .show x=_++[];rw[aq];exact v
  .show s[i]-E8 L.Aa[i]=_;rw[P];simp
  rintro m ⟨y,e,j,_⟩ ⟨B,E,D,r⟩;have hm:m=L.Bits[i].toNat-j:=B;have hj:j<=L.Bits[i].toNat:=E;have I:y=G6 (bitsOf L s) i++(bitsOf L s i).take j:=D;have W:e=((d/2^j:Nat):Int):=r;have hbl:=Nk (s:=s) b;have hq:d/2^j<=d:=cq _ _;have hyl:y.length<=2000:=by rw[I,a9,aw];omega
  refine⟨λa _=>?_,λa=>?_⟩
  .have R:(j:Int)<L.Bits[i]:=a;have G:j<(bitsOf L s i).length:=by omega
   have V:e.tmod 2=((d/2^j%2:Nat):Int):=by rw[W];exact(Int.ofNat_tmod _ 2).symm
   have S:e.tdiv 2=((d/2^(j+1):Nat):Int):=by rw[W,Nat.pow_succ,<-Nat.div_div_eq_div_mul];exact(Int.ofNat_tdiv _ 2).symm
   have K:d/2^j%2<2:=Nat.mod_lt _ (by omega);have J:d/2^(j+1)<=d:=cq _ _;refine⟨by decide,A7.2 ?_,by show (y.length+1)*1<=_;omega,λ_=>⟨by decide,A7.2 ?_,by show j+1<=_;omega,L.Bits[i].toNat-(j+1),by omega,rfl,rfl,by show j+1<=_;omega,?_,S⟩⟩
   .rw[V];generalize d/2^j%2=q at K;omega
   .rw[S];generalize d/2^(j+1)=q at J;omega
   .show y++[decide (e.tmod 2=1)]=G6 (bitsOf L s) i++(bitsOf L s i).take (j+1);rw[a4 G,<-bt,<-I];congr 2;have:(bitsOf L s i)[j]=WW (DL L i (s.getD i 0)) j:=by simp [bitsOf]
    rw[this,C,Wc o (by omega),V];exact decide_eq_decide.2 (by omega)
  .have R:¬(j:Int)<L.Bits[i]:=a;refine⟨by show i+1<=_;omega,L.Aa.length-(i+1),by omega,rfl,rfl,by show i+1<=_;omega,?_⟩;show y=G6 (bitsOf L s) (i+1);rw[I,Iw,ai (by omega)]
 .have hge:¬i<L.Aa.length:=p;have e:i=L.Aa.length:=by omega
  subst e;show Q (x,0,()) () H;rw[v];exact h N
end
theorem Tr{L:Ac}(b:Jf L){next:Bool}:∀{k:Nat},k<=L.Aa.length->G6 (λi=>Cu L i next) k=(ab (D0 L.Bits k).toNat).map λ(u:Nat)=>2*(u:Int)+if next=true then 1 else 0
 |0,_=>rfl
 |k+1,m=>by
  have f:=b.lb;have a:k<L.Bits.length:=by omega
  have l:=b.sum (k:=k) (by omega);have h:=b.b0 k a;rw[Iw,Tr b (by omega)];have e:(D0 L.Bits (k+1)).toNat=(D0 L.Bits k).toNat+L.Bits[k].toNat:=by grind[Eo]
  rw[e,List.range_add,ao];congr 1;apply bf;intro j;by_cases d:j<L.Bits[k].toNat
  .grind[Aic,Cu,bn,D0]
  grind[Cu,Jt,ah]
def PE(vars:List Int)(bits:List Bool):List BI:=List.zipWith (λv y=>{Var:=v,Ss:=y}) vars bits
theorem Ai9{vars:List Int}{n:Int}:PE vars ((ab vars.length).map λ(j:Nat)=>WW n j)=Gf vars n:=by
 apply bf;intro k;unfold PE;rw[List.getElem?_zipWith];by_cases h:k<vars.length
 .grind[Mi,a6,bn]
 grind[ah,Gf,Mh]
theorem Am7{v1 v2:List Int}{b1 b2:List Bool}(h:v1.length=b1.length):PE (v1++v2) (b1++b2)=PE v1 b1++PE v2 b2:=by grind[PE]
theorem Abh{L:Ac}(b:Jf L){s:List Int}{next:Bool}:∀{k:Nat},k<=L.Aa.length->PE (G6 (λi=>Cu L i next) k) (G6 (bitsOf L s) k)=G6 (λi=>Gf (Cu L i next) (DL L i (s.getD i 0))) k
 |0,_=>rfl
 |k+1,g=>by
  have d:=b.lb;have a:k<L.Bits.length:=by omega
  have h:=Kg (f:=λi=>Cu L i next) b (λi c=>Jt c) (k:=k) (by omega);have l:=Kg (f:=bitsOf L s) b (λi c=>Nk c) (k:=k) (by omega);rw[Iw,Iw,Iw,Am7 (by omega),Abh b (by omega)];congr 1;have e:bitsOf L s k=(ab (Cu L k next).length).map λ(j:Nat)=>WW (DL L k (s.getD k 0)) j:=by grind[Jt,bitsOf]
  grind[Ai9]
def stF(L:Ac)(s:List Int)(next:Bool):B.Fn:=DQ (G6 (λi=>Gf (Cu L i next) (DL L i (s.getD i 0))) L.Aa.length)
theorem Ul{L:Ac}(j:Ku L){s:List Int}{next:Bool}(hs:IsV L.Aa s){a:B.As}:stF L s next a=true↔∀i(_:i<L.Aa.length)(d:i<s.length),Jk L next i a=some s[i]:=by
 unfold stF;rw[EX];have f:∀i(b:i<L.Aa.length)(d:i<s.length),(Jk L next i a=some s[i]↔∀t∈Gf (Cu L i next) (DL L i (s.getD i 0)),a t.Var=t.Ss):=λi b d=>by
  have g:s.getD i 0=s[i]:=by grind
  rw[Jx j b,<-EX,g];exact⟨λc=>c.2,λc=>⟨hs.2 i b d,c⟩⟩
 have h:=hs.1;grind[G6]
theorem Ark{b:Nat}{M:Mn}{vars:List Int}{bits:List Bool}{H:HY}{X:PX}{Q:Int×Int×Unit->UU}(Z:MG H b M)(N:M.nx<576460752303423487)(R:M.hs.length<=60000)(L:vars.length=bits.length)(W:bits.length<=1000)(S:∀v∈vars,0<=v/\v<M.S.n)(P:vars.Nodup)(U:∀M' o,MG o b M'->Uz M M' (DQ (PE vars bits))->Jd b M H o->Q (M.nx,0,()) () o):∃(V:Nat->List Int×List BI×List Bool×Nat×Unit->HP),(∃(n:Nat),V n (vars,a8 (↑bits.length:Int).toNat {Var:=(0:Int),Ss:=false:BI},bits,0,()) H)/\∀(n:Nat)(x:List Int×List BI×List Bool×Nat×Unit)(H:HY),V n x H->(x.2.2.2.1<bits.length->x.2.2.2.1<=9223372036854775807->∃(_:x.2.2.2.1<x.2.2.1.length),∃(h:x.2.2.2.1<x.2.2.1.length),x.2.2.2.1<=9223372036854775807->∃(_:x.2.2.2.1<x.1.length),∃(h_2:x.2.2.2.1<x.1.length),x.2.2.2.1<=9223372036854775807->∃(_:x.2.2.2.1<x.2.1.length),x.2.2.2.1<x.2.1.length/\x.2.2.2.1+1<=9223372036854775807/\∃(m:Nat),m<n/\V m (x.1,x.2.1.set x.2.2.2.1 {Var:=x.1[x.2.2.2.1],Ss:=x.2.2.1[x.2.2.2.1]:BI},x.2.2.1,x.2.2.2.1+1,()) H)/\(¬x.2.2.2.1<bits.length->Wp Y0 J1 Ib (some b,x.2.1,()) H (λ(b:Int×Int×Unit)(_:Unit)(o:HY)=>Q (b.1,b.2.1,()) () o) X):=by
 refine⟨λn z K=>K=H/\n=bits.length-z.2.2.2.1/\z.2.2.2.1<=bits.length/\z.1=vars/\z.2.2.1=bits/\z.2.1.length=bits.length/\∀j(h:j<z.2.1.length),j<z.2.2.2.1->(z.2.1)[j]?=(PE vars bits)[j]?,⟨_,rfl,rfl,a5 _,rfl,rfl,by simp,λj _ y=>absurd y (ad _)⟩,?_⟩;rintro n ⟨c,d,a,i,_⟩ K ⟨rfl,p,C,s,A,r,u⟩;have T:n=bits.length-i:=p;have hi:i<=bits.length:=C;have E:c=vars:=s;have G:a=bits:=A;have F:d.length=bits.length:=r;have I:∀j(h:j<d.length),j<i->d[j]?=(PE vars bits)[j]?:=u;subst E G;refine⟨λB _=>?_,λw=>?_⟩
 .have l:i<a.length:=B;have g:i<c.length:=by omega
  have k:i<d.length:=by omega
  refine⟨l,l,λ_=>⟨g,g,λ_=>⟨k,k,by omega,a.length-(i+1),by omega,rfl,rfl,by grind,rfl,rfl,?_,λj D J=>?_⟩⟩⟩;all_goals grind[List.length_set,List.getElem?_set_self,PE,a6,List.getElem?_set_ne]
 .have O:¬i<a.length:=w;have e:d=PE c a:=by apply bf;grind[PE,List.length_zipWith,ah]
  subst e;have f:(PE c a).map (·.Var)=c:=by apply bf;grind[PE]
  have q:(PE c a).length<=1000:=by omega
  refine TM Z N R q (λt Y=>S t.Var ?_) (by grind) U;grind
theorem Wa{b:Nat}{M:Mn}{L:Ac}{s:List Int}{next:Bool}{H:HY}{X:PX}{Q:Int×Int×Unit->UU}(E:MG H b M)(W:M.nx<576460752303423487)(S:M.hs.length<=60000)(a:Ku L)(F:2*CR L<=M.S.n)(T:∀H',MG H' b M->¬IsV L.Aa s->Q (0,21,()) () H')(U:IsV L.Aa s->∀M' H',MG H' b M'->Uz M M' (stF L s next)->Q (M.nx,0,()) () H'):Wp Y0 Qg LV (some b,L,s,next,()) H Q X:=by
 refine wF Tryz.f21 {lp:=[(12,⟨[(14,.one (.own I6)),(15,.one (.own (.u 11))),(44,.one (.own .bool)),(46,.nat)],[0,14,15,44,45],true⟩)],im:=[5]} (?_:Qn (some b) L s next H Q X);unfold Qn;refine Lw E a.toJf (λo=>absurd o (by omega)) λ_ Z n K w Y=>⟨λm=>absurd rfl m,λ_=>?_⟩
 have l:MG n b M:=w.mg;refine Ate a (λr=>⟨λ_=>T n l r,λm=>absurd (show ¬(21:Int)=0 by decide) m⟩) λr=>⟨λm=>absurd rfl m,λ_=>?_⟩
 have z:=a.lb;have O:=a.ln;have P:=(a.toJf.sum (af _)).2;have R:=Kg (f:=bitsOf L s) a.toJf (λi t=>Nk t) (k:=L.Aa.length) (by omega);have N:=λ(c:Bool)=>Kg (f:=λi=>Cu L i c) a.toJf (λi t=>Jt t) (k:=L.Aa.length) (by omega);have j:D0 L.Bits L.Aa.length=CR L:=by unfold CR;rw[z]
 rw[j]at R;have B:CR L<=1920:=by grind
 have D:=(a.toJf.sum (af _)).1;have q:(G6 (bitsOf L s) L.Aa.length).length<=1000:=by have:=E.n8;omega
 have C:∀c:Bool,c=next->∀J,MG J b M->_:=λc d J p=>Ark (X:=X) (Q:=Q) (vars:=G6 (λi=>Cu L i c) L.Aa.length) (bits:=G6 (bitsOf L s) L.Aa.length) p W S (by have:=N c;omega) q
  (λv G=>by rw[Tr a.toJf (af _),j]at G;obtain⟨u,I,rfl⟩:=aa.1 G;have I:=cc.1 I;show 0<=2*(u:Int)+(if c=true then 1 else 0)/\2*(u:Int)+(if c=true then 1 else 0)<M.S.n;split<;>omega)
  (by rw[Tr a.toJf (af _)];grind[cn])
  (λM' H' g A _=>by rw[Abh a.toJf (af _)]at A;subst d;exact U r M' H' g A)
 have e:(↑(G6 (bitsOf L s) L.Aa.length).length:Int).toNat*16<=281474976710656:=by omega
 refine Aj7 a.toJf ⟨λd=>Ae6 a.toJf λ_ _ _=>⟨ax _,rfl,e,λ_=>C true d.symm n l⟩,λd _ _ _=>⟨ax _,rfl,e,λ_=>C false (by cases next<;>simp_all) n l⟩⟩
abbrev Rn:Bi:=⟨[.own I6,.dat I6],[.dat I6]⟩
def sgO:FuncId->Option Bi:=lkG ((173,Rn)::sgL)
section
set_option maxRecDepth 100000
set_option maxHeartbeats 2000000
def Ru(l:List Int)(H:HY)(Q:List Int×UT->UU)(_:PX):=l.length<=2^63-1->l.length<=2^63-1->l.length<=2^63-1->(0:Int)<=(↑l.length:Int)/\(↑l.length:Int)=(↑l.length:Int)/\(↑l.length:Int).toNat*8<=281474976710656/\0<=(a8 (↑l.length:Int).toNat (0:Int)).length/\Q (b9 0 (a8 (↑l.length:Int).toNat (0:Int))++(b9 (min l.length ((a8 (↑l.length:Int).toNat (0:Int)).length-0)) l++cd (0+min l.length ((a8 (↑l.length:Int).toNat (0:Int)).length-0)) (a8 (↑l.length:Int).toNat (0:Int))),()) () H
theorem YU l H Q X(h_:Ru l H Q X):Wp Y0 KL IA (l,()) H Q X:=wF Tryz.f275 {} h_
def T9(l:List Int)(H:HY)(Q:List Int×UT->UU)(X:PX):=Wp Y0 KL IA (l,()) H (λ(b:List Int×UT)_ G=>Wp Y0 HJ E6 (b.1,()) G (λ(_:UT)(io:List Int×UT)(G:HY)=>Q (io.1,()) () G) X) X
theorem Aav l H Q X(h_:T9 l H Q X):Wp Y0 Oy L6 (l,()) H Q X:=wF Tryz.f258 {} h_
def Abo(s:List Int)(v:Int)(H:HY)(Q:Int×UT->List Int×UT->HP)(_:PX):=s.length<=2^63-1->∃(V:Nat->List Int×Int×UT->Prop),(∃(n:Nat),H=H/\V n (s,0,()))/\∀n x,V n x->(x.2.1<(↑s.length:Int)->IK x.2.1->(IK x.2.1->0<=x.2.1)/\∃(h:x.2.1.toNat<x.1.length),∃(h:x.2.1.toNat<x.1.length),(v=x.1[x.2.1.toNat]->Q (x.2.1,()) (x.1,()) H)/\(¬v=x.1[x.2.1.toNat]->IK x.2.1->IK (x.2.1+1)/\∃m,m<n/\H=H/\V m (x.1,x.2.1+1,())))/\(¬x.2.1<(↑s.length:Int)->Q (-1,()) (x.1,()) H)
theorem Anm(s:List Int)(v:Int)(H:HY)(Q:Int×Unit->List Int×Unit->HP)(X:PX)(hyp_:Abo s v H Q X):Wp Y0 CX Rn (s,v,()) H Q X:=by refine U2 (sigs:=sgO) (NG:=QE) (pf:=pfT) (F:=Tryz.f173) (n:={lp:=[(2,⟨[(0,.one (.own I6)),(8,.one (.dat I6))],[0,1,7],false⟩)],pr:=[],im:=[]}) (by kernel_rfl) (mpF hyp_ _ ?_);kernel_rfl
def Rv(a b:List Int)(H:HY)(Q:List Int×Int×UT->UU)(X:PX):=Wp Y0 Na KD (a,()) H (λ(b1:Bool×UT)_ G=>(¬b1.1->Q ([],1,()) () G)/\(¬¬b1.1->Wp Y0 Na KD (b,()) G (λ(b2:Bool×UT)_ G=>(¬b2.1->Q ([],1,()) () G)/\(¬¬b2.1->a.length<=2^63-1->b.length<=2^63-1->(¬a.length=b.length->Q ([],3,()) () G)/\(¬¬a.length=b.length->Wp Y0 KL IA (a,()) G (λ(b3:List Int×UT)_ G=>b.length<=2^63-1->∃(V:Nat->List Int×List Int×Nat×UT->Prop),(∃(n:Nat),G=G/\V n ([],b3.1,0,()))/\∀n x,V n x->(x.2.2.1<b.length->x.2.2.1<=2^63-1->∃(h:x.2.2.1<b.length),Wp Y0 CX Rn (x.2.1,b[x.2.2.1],()) G (λ(b:Int×UT)(io:List Int×UT)(H'_1:HY)=>∃(V1:Nat->List Int×List Int×Int×UT->Prop),(∃(n:Nat),H'_1=H'_1/\V1 n (x.1,io.1,b.1,()))/\∀n1 x1,V1 n1 x1->((↑x.2.2.1:Int)<x1.2.2.1->IK x1.2.2.1->IK (x1.2.2.1-1)/\(IK x1.2.2.1->(IK x1.2.2.1->0<=x1.2.2.1)/\∃(h:x1.2.2.1.toNat<x1.2.1.length),∃(h:x1.2.2.1.toNat<x1.2.1.length),IK x1.2.2.1->IK (x1.2.2.1-1)/\(IK (x1.2.2.1-1)->(IK (x1.2.2.1-1)->0<=x1.2.2.1-1)/\∃(h1:(x1.2.2.1-1).toNat<x1.2.1.length),∃(h2:(x1.2.2.1-1).toNat<x1.2.1.length),IK (x1.2.2.1-1)->(IK (x1.2.2.1-1)->0<=x1.2.2.1-1)/\∃(h3:(x1.2.2.1-1).toNat<x1.2.1.length),(x1.2.2.1-1).toNat<x1.2.1.length/\(IK x1.2.2.1->(IK x1.2.2.1->0<=x1.2.2.1)/\∃(h4:x1.2.2.1.toNat<(x1.2.1.set (x1.2.2.1-1).toNat x1.2.1[x1.2.2.1.toNat]).length),x1.2.2.1.toNat<(x1.2.1.set (x1.2.2.1-1).toNat x1.2.1[x1.2.2.1.toNat]).length/\(IK x1.2.2.1->IK (x1.2.2.1-1)/\(x1.1.length+[x1.2.2.1-1].length)*(8:Nat)<=(2^47:Nat)/\(IK x1.2.2.1->IK (x1.2.2.1-1)/\∃m,m<n1/\H'_1=H'_1/\V1 m (x1.1++[x1.2.2.1-1],(x1.2.1.set (x1.2.2.1-1).toNat x1.2.1[x1.2.2.1.toNat]).set x1.2.2.1.toNat x1.2.1[(x1.2.2.1-1).toNat],x1.2.2.1-1,())))))))/\(¬(↑x.2.2.1:Int)<x1.2.2.1->x.2.2.1+1<=2^63-1/\∃m,m<n/\H'_1=G/\V m (x1.1,x1.2.1,x.2.2.1+1,()))) X)/\(¬x.2.2.1<b.length->Q (x.1,0,()) () G)) X))) X)) X
theorem YV(a b:List Int)(H:HY)(Q:List Int×Int×Unit->UU)(X:PX)(hyp_:Rv a b H Q X):Wp Y0 KM IB (a,b,()) H Q X:=by refine U2 (sigs:=sgO) (NG:=QE) (pf:=pfT) (F:=Tryz.f257) (n:={lp:=[(11,⟨[(6,.one (.own I6)),(7,.one (.own I6)),(10,.one (.dat I6))],[7,8,28,29,30],false⟩),(8,⟨[(6,.one (.own I6)),(7,.one (.own I6)),(30,.nat)],[7,28,29],false⟩)],pr:=[],im:=[]}) (by kernel_rfl) (mpF hyp_ _ ?_);kernel_rfl
end
section
variable {H:HY} {X:PX}
theorem Acb{l:List Int}{Q:List Int×Unit->UU}(a:l.length<=1000)(h:Q (l,()) () H):Wp Y0 KL IA (l,()) H Q X:=by grind[YU,Ru]
theorem Adr{s:List Int}{Q:Unit->List Int×Unit->HP}(r:s.length<=1000)(h:∀l:List Int,l.length=s.length->Q () (l,()) H):Wp Y0 HJ E6 (s,()) H Q X:=by
 refine wF Tryz.f276 {lp:=[(1,⟨[(0,.one (.own I6)),(2,.nat),(3,.one (.dat I6))],[0],false⟩)]} (?_:s.length<=2^63-1->s.length<=2^63-1->IK ((↑s.length:Int)-1)/\∃(V:Nat->List Int×Nat×Int×UT->Prop),(∃(n:Nat),H=H/\V n (s,0,(↑s.length:Int)-1,()))/\∀n x,V n x->((↑x.2.1:Int)<x.2.2.1->IK x.2.2.1->(IK x.2.2.1->0<=x.2.2.1)/\∃(h:x.2.2.1.toNat<x.1.length),∃(h:x.2.2.1.toNat<x.1.length),x.2.1<=2^63-1->∃(h1:x.2.1<x.1.length),∃(h2:x.2.1<x.1.length),x.2.1<=2^63-1->∃(h3:x.2.1<x.1.length),x.2.1<x.1.length/\(IK x.2.2.1->(IK x.2.2.1->0<=x.2.2.1)/\∃(h4:x.2.2.1.toNat<(x.1.set x.2.1 x.1[x.2.2.1.toNat]).length),x.2.2.1.toNat<(x.1.set x.2.1 x.1[x.2.2.1.toNat]).length/\x.2.1+1<=2^63-1/\(IK x.2.2.1->IK (x.2.2.1-1)/\∃m,m<n/\H=H/\V m ((x.1.set x.2.1 x.1[x.2.2.1.toNat]).set x.2.2.1.toNat x.1[x.2.1],x.2.1+1,x.2.2.1-1,()))))/\(¬(↑x.2.1:Int)<x.2.2.1->Q () (x.1,()) H));refine λ_ _=>⟨A7.2 (by omega),λn z=>n=s.length-z.2.1/\z.1.length=s.length/\z.2.1<=s.length/\(z.2.1:Int)+z.2.2.1=s.length-1,⟨_,rfl,rfl,rfl,a5 _,by simp⟩,?_⟩
 rintro n ⟨l,i,j,_⟩ ⟨f,g,m,d⟩;have q:n=s.length-i:=f;have c:l.length=s.length:=g;have t:i<=s.length:=m;have p:(i:Int)+j=s.length-1:=d;refine⟨λe _=>?_,λ_=>h l c⟩;have o:(i:Int)<j:=e;have b:j.toNat<l.length:=by omega
 have a:i<l.length:=by omega
 have k:j.toNat<(l.set i l[j.toNat]).length:=by grind
 refine⟨λ_=>by omega,b,b,λ_=>⟨a,a,λ_=>⟨a,a,λ_=>⟨λ_=>by omega,k,k,by grind,λ_=>⟨A7.2 (by grind),s.length-(i+1),by omega,rfl,rfl,?_,by grind,by grind⟩⟩⟩⟩⟩;grind
theorem Aak{l:List Int}{Q:Bool×Unit->UU}(G:l.length<=1000)(h:∀t:Bool,Q (t,()) () H):Wp Y0 Na KD (l,()) H Q X:=by
 refine wF Tryz.f274 {lp:=[(6,⟨[(4,.arr .bool),(16,.nat)],[0,3,14,15],false⟩),(2,⟨[(3,.nat)],[0],false⟩)]} (?_:∃(V:Nat->Nat×UT->Prop),(∃(n:Nat),H=H/\V n (0,()))/\∀n x,V n x->l.length<=2^63-1->(x.1<l.length->l.length<=2^63-1->∃(V1:Nat->List Bool×Nat×UT->Prop),(∃(n:Nat),H=H/\V1 n (a8 64 false,0,()))/\∀n1 x1,V1 n1 x1->(x1.2.1<l.length->x1.2.1<=2^63-1->∃(h:x1.2.1<l.length),(l[x1.2.1]<0->Q (false,()) () H)/\(¬l[x1.2.1]<0->l.length<=2^63-1->((↑l.length:Int)<=l[x1.2.1]->Q (false,()) () H)/\(¬(↑l.length:Int)<=l[x1.2.1]->IK l[x1.2.1]->x.1<=2^63-1->IK (l[x1.2.1]-(↑x.1:Int))/\(0<=l[x1.2.1]-(↑x.1:Int)->(l[x1.2.1]-(↑x.1:Int)<64->IK (l[x1.2.1]-(↑x.1:Int))->(IK (l[x1.2.1]-(↑x.1:Int))->0<=l[x1.2.1]-(↑x.1:Int))/\∃(h1:(l[x1.2.1]-(↑x.1:Int)).toNat<64),∃(h2:(l[x1.2.1]-(↑x.1:Int)).toNat<x1.1.length),(x1.1[(l[x1.2.1]-(↑x.1:Int)).toNat]->Q (false,()) () H)/\(¬x1.1[(l[x1.2.1]-(↑x.1:Int)).toNat]->IK (l[x1.2.1]-(↑x.1:Int))->(IK (l[x1.2.1]-(↑x.1:Int))->0<=l[x1.2.1]-(↑x.1:Int))/\∃(h3:(l[x1.2.1]-(↑x.1:Int)).toNat<64),(l[x1.2.1]-(↑x.1:Int)).toNat<x1.1.length/\x1.2.1+1<=2^63-1/\∃m,m<n1/\H=H/\V1 m (x1.1.set (l[x1.2.1]-(↑x.1:Int)).toNat true,x1.2.1+1,())))/\(¬l[x1.2.1]-(↑x.1:Int)<64->x1.2.1+1<=2^63-1/\∃m,m<n1/\H=H/\V1 m (x1.1,x1.2.1+1,())))/\(¬0<=l[x1.2.1]-(↑x.1:Int)->x1.2.1+1<=2^63-1/\∃m,m<n1/\H=H/\V1 m (x1.1,x1.2.1+1,())))))/\(¬x1.2.1<l.length->x.1+64<=2^63-1/\∃m,m<n/\H=H/\V m (x.1+64,())))/\(¬x.1<l.length->Q (true,()) () H));refine⟨λn z=>n=l.length+64-z.1/\z.1<=l.length+64,⟨_,rfl,rfl,a5 _⟩,?_⟩;rintro n ⟨b,_⟩ ⟨e,k⟩;have D:n=l.length+64-b:=e;have F:b<=l.length+64:=k;intro _;refine⟨λg _=>?_,λ_=>h true⟩;have C:b<l.length:=g;refine⟨λn z=>n=l.length-z.2.1/\z.2.1<=l.length/\z.1.length=64,⟨_,rfl,rfl,a5 _,rfl⟩,?_⟩;rintro m ⟨x,i,_⟩ ⟨c,j,d⟩;have I:m=l.length-i:=c;have E:i<=l.length:=j;have q:x.length=64:=d;refine⟨λf _=>?_,λ_=>⟨by grind,l.length+64-(b+64),by omega,rfl,rfl,by grind⟩⟩;have p:i<l.length:=f;have a:∀y:List Bool,y.length=64->i+1<=9223372036854775807/\∃w,w<m/\H=H/\w=l.length-(i+1)/\i+1<=l.length/\y.length=64:=λy B=>⟨by omega,l.length-(i+1),by omega,rfl,rfl,by omega,B⟩
 refine⟨p,λ_=>h false,λr _=>⟨λ_=>h false,λv _ _=>⟨A7.2 ?_,λo=>⟨λu _=>⟨λ_=>o,?_⟩,λ_=>a x q⟩,λ_=>a x q⟩⟩⟩
 .omega
 .have o:0<=l[i]-(b:Int):=o;have u:l[i]-(b:Int)<64:=u;have s:(l[i]-(b:Int)).toNat<64:=by omega
  have A:(l[i]-(b:Int)).toNat<x.length:=by omega
  exact⟨s,A,λ_=>h false,λ_ _=>⟨λ_=>o,s,A,a _ (by grind)⟩⟩
theorem Ajd{s:List Int}{v:Int}{Q:Int×Unit->List Int×Unit->HP}(p:s.length<=1000)(h:∀i:Int,-1<=i->i<s.length->Q (i,()) (s,()) H):Wp Y0 CX Rn (s,v,()) H Q X:=by
 apply Anm;unfold Abo;refine λ_=>⟨λn z=>n=s.length-z.2.1.toNat/\z.1=s/\0<=z.2.1/\z.2.1<=s.length,⟨_,rfl,rfl,rfl,by simp,by simp⟩,?_⟩
 rintro n ⟨l,i,_⟩ ⟨d,f,e,c⟩;have o:n=s.length-i.toNat:=d;have j:l=s:=f;have k:0<=i:=e;have m:i<=s.length:=c;subst j;refine⟨λb _=>?_,λ_=>h (-1) (by omega) (by omega)⟩;have g:i<(l.length:Int):=b;have a:i.toNat<l.length:=by omega
 exact⟨λ_=>k,a,a,λ_=>h i (by omega) g,λ_ _=>⟨A7.2 (by grind),l.length-(i+1).toNat,by omega,rfl,rfl,rfl,by grind,by grind⟩⟩
theorem Ak7{a b:List Int}{Q:List Int×Int×Unit->UU}(S:a.length<=64)(O:b.length<=64)(h:∀l e,l.length<=1000000->Q (l,e,()) () H):Wp Y0 KM IB (a,b,()) H Q X:=by
 apply YV;unfold Rv;refine Aak (by omega) λN=>⟨λ_=>h _ _ (a5 _),λ_=>Aak (by omega) λR=>⟨λ_=>h _ _ (a5 _),λ_ _ _=>⟨λ_=>h _ _ (a5 _),λ_=>Acb (by omega) λ_=>?_⟩⟩⟩
 refine⟨λn z=>n=b.length-z.2.2.1/\z.2.2.1<=b.length/\z.2.1.length=a.length/\z.1.length<=64*z.2.2.1,⟨_,rfl,rfl,a5 _,rfl,a5 _⟩,?_⟩;rintro n ⟨l,w,i,_⟩ ⟨o,v,t,q⟩;have M:n=b.length-i:=o;have P:i<=b.length:=v;have J:w.length=a.length:=t;have V:l.length<=64*i:=q;refine⟨λx _=>?_,λ_=>h l 0 (by omega)⟩;have D:i<b.length:=x;refine⟨D,Ajd (by grind) λr K C=>?_⟩;have C:r<(w.length:Int):=C;refine⟨λm z=>m=z.2.2.1.toNat/\z.2.1.length=a.length/\z.2.2.1<w.length/\(z.1.length:Int)<=64*i+(64-1-z.2.2.1)/\-1<=z.2.2.1,⟨_,rfl,rfl,J,C,by grind,K⟩,?_⟩;rintro m ⟨A,g,j,_⟩ ⟨k,c,s,f,d⟩;have T:m=j.toNat:=k;have u:g.length=a.length:=c;have U:j<(w.length:Int):=s;have G:(A.length:Int)<=64*i+(64-1-j):=f;have I:-1<=j:=d;refine⟨λp _=>?_,λ_=>⟨by grind,b.length-(i+1),by omega,rfl,rfl,by grind,u,by grind⟩⟩;have L:(i:Int)<j:=p;have E:j.toNat<g.length:=by omega
 have B:(j-1).toNat<g.length:=by omega
 have y:Bn .i64 (j-1):=A7.2 (by omega);have F:j.toNat<(g.set (j-1).toNat g[j.toNat]).length:=by grind
 refine⟨y,λ_=>⟨λ_=>by omega,E,E,λ_=>⟨y,λ_=>⟨λ_=>by omega,B,B,λ_=>⟨λ_=>by omega,B,B,λ_=>⟨λ_=>by omega,F,F,λ_=>⟨y,by grind,λ_=>⟨y,(j-1).toNat,by omega,rfl,rfl,?_,by grind,?_,by grind⟩⟩⟩⟩⟩⟩⟩⟩;all_goals grind
theorem Aut:Ao9:=by intro o H X Q b h;grind[Aav,T9,Acb,Adr,Ak7]
end
theorem Y7{v:Ar}(h:Wd v):BL v=NF v-E8 v+1:=by
 unfold BL;by_cases a:v.Bool=true
 .rw[if_pos a,XN a,PW a];rfl
 .obtain⟨e,d,c,b⟩:=h.nu (by simpa using a);rw[if_neg a,if_neg (by omega),XM a,PV a,Int.min_eq_left (by omega)]
theorem ZZ{α:Type}{P:List α->Prop}(d:P [])(hs:∀l a,P l->P (l++[a]))(l:List α):P l:=by
 have:∀n(l:List α),l.length=n->P l:=by
  intro n;induction n with
  |zero=>grind
  |succ n f=>
   intro l b;have c:l≠[]:=λe=>by grind
   rw[<-bm c];grind
 grind
def NT(v:Ar)(out:List (List Int)):List (List Int):=out.flatMap λs=>(ab (BL v).toNat).map λ(k:Nat)=>s++[E8 v+(k:Int)]
def GY(l:List Ar):List (List Int):=l.foldl (λout v=>NT v out) [[]]
theorem P7(l:List Ar)(v:Ar):GY (l++[v])=NT v (GY l):=by grind[GY]
theorem Xo(v:Ar)(x:List (List Int)):(NT v x).length=x.length*(BL v).toNat:=by
 unfold NT;induction x with
 |nil=>simp
 |cons s x a=>grind
def Uf(l:List Ar):Nat:=(GY l).length
theorem Ya(l:List Ar)(v:Ar):Uf (l++[v])=Uf l*(BL v).toNat:=by unfold Uf;rw[P7,Xo]
theorem Sn{l:List Ar}:(∀v∈l,Wd v)->∀s,s∈GY l↔IsV l s:=by
 refine ZZ (P:=λl=>(∀v∈l,Wd v)->∀s,s∈GY l↔IsV l s) ?_ ?_ l
 .intro _ s;show s∈[[]]↔_;rw[bo];refine⟨λh=>by subst h;exact⟨rfl,λi h=>absurd h (ad _)⟩,λh=>List.length_eq_zero_iff.1 h.1⟩
 .intro l v d n s;have d:=d λu t=>n u (az _ t);have y:=Y7 (n v (by simp));rw[P7];unfold NT;rw[co];constructor
  .rintro⟨r,w,p⟩;obtain⟨k,m,rfl⟩:=aa.1 p;have m:=cc.1 m;obtain⟨c,f⟩:=(d r).1 w;refine⟨by simp [c],λi h x=>?_⟩;grind
  .rintro⟨c,f⟩;have a:s≠[]:=λe=>by grind
   have g:s.dropLast.length=l.length:=by grind
   have j:l.length<s.length:=by grind
   have o:=f l.length (by simp) j;rw[List.getElem_append_right (af _)]at o;simp only[Nat.sub_self,List.getElem_cons_zero]at o;have b:s.getLast a=s[l.length]:=by grind
   refine⟨s.dropLast,(d _).2 ⟨g,λi h x=>?_⟩,aa.2 ⟨(s[l.length]-E8 v).toNat,cc.2 (by omega),?_⟩⟩
   .have:=f i (by simp;omega) (by omega);rw[List.getElem_append_left h]at this;rw[List.getElem_dropLast];exact this
   .have:E8 v+((s[l.length]-E8 v).toNat:Int)=s.getLast a:=by rw[b];omega
    rw[this];exact bm a
theorem Aew(l:List Ar):(GY l).Nodup:=by
 refine ZZ (P:=λl=>(GY l).Nodup) (by show [[]].Nodup;simp) (λl v c=>?_) l;rw[P7];unfold NT;generalize GY l=x at c;induction x with
 |nil=>simp
 |cons s x d=>
  rw[cp]at c;rw[List.flatMap_cons,cg];refine⟨?_,d c.2,?_⟩
  .grind[cn,List.append_cancel_left]
  .rintro u g w j rfl;obtain⟨k,_,rfl⟩:=aa.1 g;obtain⟨n,f,i⟩:=co.1 j;obtain⟨m,_,e⟩:=aa.1 i;simp_all
theorem Ahe{l:List Ar}(c:∀v∈l,Wd v):∀{i:Nat},i<=l.length->1<=Uf (l.take i)/\Uf (l.take i)<=2^(D0 (Ck l) i).toNat
 |0,_=>⟨af 1,Nat.one_le_two_pow⟩
 |i+1,h=>by
  obtain⟨j,f⟩:=Ahe c (i:=i) (by omega);have d:=c l[i] (ac (by omega));have q:=Y7 d;have r:=Rj l[i];have g:(2:Int)^31=2147483648:=by decide
  have b:=(Sm (n:=BL l[i]) (m:=31) (by omega)).2.1;have o:E8 l[i]<=NF l[i]:=by
   by_cases a:l[i].Bool=true
   .grind[PW,XN]
   .rw[PV a,XM a];exact(d.nu (by grind)).1
  have p:=(Y3 (l:=l) (k:=i) (by omega)).1;rw[a4 (by omega),Ya,Eo (by grind[Du]),Iy (by omega)];have e:(D0 (Ck l) i+(EC (BL l[i]):Int)).toNat=(D0 (Ck l) i).toNat+EC (BL l[i]):=by omega
  rw[e,Nat.pow_add];have b:(BL l[i]).toNat<=2^EC (BL l[i]):=by grind
  refine⟨Nat.mul_pos j (by omega),bq f b⟩
theorem Uv{l:List Ar}(e:OT l)(n:GC l<=4){i:Nat}(hi:i<=l.length):1<=Uf (l.take i)/\Uf (l.take i)<=16:=by
 have c:∀v∈l,Wd v:=λv h=>by obtain⟨j,d,rfl⟩:=ae h;exact e.ok j d
 obtain⟨g,m⟩:=Ahe c hi;have o:D0 (Ck l) i<=GC l:=by
  unfold GC;have a:∀j k,D0 (Ck l) j<=D0 (Ck l) (j+k)∨l.length<j+k:=by
   intro j k;induction k with
   |zero=>simp
   |succ k f=>
    grind[Nat.add_assoc,Eo,Du,Iy]
  have:=a i (l.length-i);grind
 exact⟨g,cs m (cs (ca (by omega) (show (D0 (Ck l) i).toNat<=4 by omega)) (by decide))⟩
theorem UI{v:Ar}(h:Wd v):1<=BL v/\BL v<=64:=by
 have:=Y7 h;by_cases a:v.Bool=true
 .grind[PW,XN]
 .rw[PV a,XM a]at this;have:=h.nu (by grind);omega
theorem TV{m:Im}{H:HY}{X:PX}{Q:Int×Bool×Unit->UU}(l:OT m.Aa)(x:m.Aa.length<=64)(s:GC m.Aa<=4)(h:Q ((Uf m.Aa:Int),true,()) () H):Wp Y0 IN Fi (m,()) H Q X:=by
 refine wF Tryz.f75 {lp:=[(8,⟨[(4,.one (.dat I6)),(6,.nat)],[1],false⟩),(3,⟨[(5,.nat)],[1,4],false⟩)],im:=[1]} (?_:∃(V:Nat->Nat×UT->Prop),(∃(n:Nat),H=H/\V n (0,()))/\∀n x,V n x->m.Aa.length<=2^63-1->(x.1<m.Aa.length->x.1<=2^63-1->∃(h:x.1<m.Aa.length),Wp Y0 BT BE (m.Aa[x.1],()) H (λ(b:Int×UT)_ G=>(b.1=0->Q (0,true,()) () G)/\(¬b.1=0->x.1+1<=2^63-1/\∃m,m<n/\G=H/\V m (x.1+1,()))) X)/\(¬x.1<m.Aa.length->∃(V:Nat->Int×Nat×UT->Prop),(∃(n:Nat),H=H/\V n (1,0,()))/\∀n x,V n x->m.Aa.length<=2^63-1->(x.2.1<m.Aa.length->x.2.1<=2^63-1->∃(h:x.2.1<m.Aa.length),Wp Y0 BT BE (m.Aa[x.2.1],()) H (λ(b:Int×UT)_ G=>IK x.1->IK b.1->IK (x.1*b.1)/\((1073741824:Int)<x.1*b.1->Q (0,false,()) () G)/\(¬(1073741824:Int)<x.1*b.1->x.2.1+1<=2^63-1/\∃m,m<n/\G=H/\V m (x.1*b.1,x.2.1+1,()))) X)/\(¬x.2.1<m.Aa.length->Q (x.1,true,()) () H)));refine⟨λn z=>n=m.Aa.length-z.1,⟨_,rfl,rfl⟩,?_⟩;rintro n ⟨k,_⟩ d _;have r:n=m.Aa.length-k:=d;refine⟨λb _=>?_,λ_=>?_⟩
 .have a:k<m.Aa.length:=b;have u:=UI (l.ok k a);exact⟨a,HD ⟨λt=>absurd t (by grind),λ_=>⟨by grind,m.Aa.length-(k+1),by omega,rfl,rfl⟩⟩⟩
 refine⟨λn z=>n=m.Aa.length-z.2.1/\z.2.1<=m.Aa.length/\z.1=(Uf (m.Aa.take z.2.1):Int),⟨_,rfl,rfl,a5 _,rfl⟩,?_⟩;rintro n ⟨c,k,_⟩ ⟨d,p,j⟩ _;have r:n=m.Aa.length-k:=d;have w:k<=m.Aa.length:=p;have o:c=(Uf (m.Aa.take k):Int):=j;refine⟨λb _=>?_,λf=>?_⟩
 .have a:k<m.Aa.length:=b;have u:=UI (l.ok k a);have y:=(Uv l s (i:=k+1) (by omega)).2;have e:c*BL m.Aa[k]=(Uf (m.Aa.take (k+1)):Int):=by rw[a4 a,Ya,o,Int.natCast_mul,Int.toNat_of_nonneg (by omega)]
  refine⟨a,HD λ_ _=>?_⟩;show Bn .i64 (c*BL m.Aa[k])/\(1073741824<c*BL m.Aa[k]->_)/\(¬1073741824<c*BL m.Aa[k]->_/\∃(g:Nat),g<n/\H=H/\g=m.Aa.length-(k+1)/\k+1<=m.Aa.length/\c*BL m.Aa[k]=(Uf (m.Aa.take (k+1)):Int));rw[e];exact⟨A7.2 (by omega),λq=>absurd q (by omega),λ_=>⟨by grind,_,by omega,rfl,rfl,by omega,rfl⟩⟩
 grind
theorem YF{m:Im}{H:HY}{X:PX}{Q:List (List Int)×Unit->UU}(D:OT m.Aa)(hl:m.Aa.length<=64)(R:GC m.Aa<=4)(h:Q (GY m.Aa,()) () H):Wp Y0 Kz Hg (m,16,()) H Q X:=by
 refine wF Tryz.f26 {lp:=[(16,⟨[(7,.one (.own (.sl I6))),(10,.one (.own (.sl I6))),(12,.nat)],[2,7,8,9,11],false⟩),(13,⟨[(7,.one (.own (.sl I6))),(10,.one (.own (.sl I6))),(11,.nat)],[2,7,8,9],false⟩),(6,⟨[(7,.one (.own (.sl I6))),(8,.nat)],[2],false⟩)],im:=[2]} (?_:Wp Y0 IN Fi (m,()) H (λ(b:Int×Bool×UT)_ G=>(¬b.2.1->Q ([],()) () G)/\(¬¬b.2.1->(16<b.1->Q ([],()) () G)/\(¬16<b.1->∃(V:Nat->List (List Int)×Nat×UT->Prop),(∃(n:Nat),G=G/\V n ([[]],0,()))/\∀n x,V n x->m.Aa.length<=2^63-1->(x.2.1<m.Aa.length->x.2.1<=2^63-1->∃(h:x.2.1<m.Aa.length),x.2.1<=2^63-1->∃(h1:x.2.1<m.Aa.length),(m.Aa[x.2.1].Bool->∃(V1:Nat->List (List Int)×List (List Int)×Nat×UT->Prop),(∃(n:Nat),G=G/\V1 n (x.1,[],0,()))/\∀n1 x1,V1 n1 x1->x1.1.length<=2^63-1->(x1.2.2.1<x1.1.length->∃(V:Nat->List (List Int)×List (List Int)×Nat×UT->Prop),(∃(n:Nat),G=G/\V n (x1.1,x1.2.1,0,()))/\∀n x2,V n x2->x.2.1<=2^63-1->∃(h:x.2.1<m.Aa.length),Wp Y0 BT BE (m.Aa[x.2.1],()) G (λ(b:Int×UT)(io:UT)(H'_1:HY)=>((↑x2.2.2.1:Int)<b.1->x1.2.2.1<=2^63-1->∃(h:x1.2.2.1<x2.1.length),∃(h:x1.2.2.1<x2.1.length),(0+x2.1[x1.2.2.1].length)*8<=2^47/\(x2.2.2.1<=2^63-1->IK (0+(↑x2.2.2.1:Int))/\(([]++x2.1[x1.2.2.1]).length+[(0:Int)+(↑x2.2.2.1:Int)].length)*8<=2^47/\(x2.2.1.length+[[]++x2.1[x1.2.2.1]++[(0:Int)+(↑x2.2.2.1:Int)]].length)*24<=2^47/\x2.2.2.1+1<=(2^63-1:Nat)/\∃m,m<n/\H'_1=G/\V m (x2.1,x2.2.1++[[]++x2.1[x1.2.2.1]++[(0:Int)+(↑x2.2.2.1:Int)]],x2.2.2.1+1,())))/\(¬(↑x2.2.2.1:Int)<b.1->x1.2.2.1+1<=2^63-1/\∃m,m<n1/\H'_1=G/\V1 m (x2.1,x2.2.1,x1.2.2.1+1,()))) X)/\(¬x1.2.2.1<x1.1.length->x.2.1+1<=2^63-1/\∃m,m<n/\G=G/\V m (x1.2.1,x.2.1+1,())))/\(¬m.Aa[x.2.1].Bool->∃(V1:Nat->List (List Int)×List (List Int)×Nat×UT->Prop),(∃(n:Nat),G=G/\V1 n (x.1,[],0,()))/\∀n1 x1,V1 n1 x1->x1.1.length<=2^63-1->(x1.2.2.1<x1.1.length->∃(V:Nat->List (List Int)×List (List Int)×Nat×UT->Prop),(∃(n:Nat),G=G/\V n (x1.1,x1.2.1,0,()))/\∀n x2,V n x2->x.2.1<=2^63-1->∃(h2:x.2.1<m.Aa.length),Wp Y0 BT BE (m.Aa[x.2.1],()) G (λ(b:Int×UT)(io:UT)(H'_1:HY)=>((↑x2.2.2.1:Int)<b.1->x1.2.2.1<=2^63-1->∃(h3:x1.2.2.1<x2.1.length),∃(h4:x1.2.2.1<x2.1.length),(0+x2.1[x1.2.2.1].length)*8<=2^47/\(IK m.Aa[x.2.1].Lo->x2.2.2.1<=2^63-1->IK (m.Aa[x.2.1].Lo+(↑x2.2.2.1:Int))/\(([]++x2.1[x1.2.2.1]).length+[m.Aa[x.2.1].Lo+(↑x2.2.2.1:Int)].length)*8<=2^47/\(x2.2.1.length+[[]++x2.1[x1.2.2.1]++[m.Aa[x.2.1].Lo+(↑x2.2.2.1:Int)]].length)*24<=2^47/\x2.2.2.1+1<=(2^63-1:Nat)/\∃m1,m1<n/\H'_1=G/\V m1 (x2.1,x2.2.1++[[]++x2.1[x1.2.2.1]++[m.Aa[x.2.1].Lo+(↑x2.2.2.1:Int)]],x2.2.2.1+1,())))/\(¬(↑x2.2.2.1:Int)<b.1->x1.2.2.1+1<=2^63-1/\∃m,m<n1/\H'_1=G/\V1 m (x2.1,x2.2.1,x1.2.2.1+1,()))) X)/\(¬x1.2.2.1<x1.1.length->x.2.1+1<=2^63-1/\∃m,m<n/\G=G/\V m (x1.2.1,x.2.1+1,()))))/\(¬x.2.1<m.Aa.length->Q (x.1,()) () G)))) X);have cl:=Uv D R (af m.Aa.length);rw[bh]at cl;refine TV D hl R ⟨λU=>absurd rfl U,λ_=>⟨λU=>absurd U (by omega),λ_=>?_⟩⟩;refine⟨λn z=>n=m.Aa.length-z.2.1/\z.2.1<=m.Aa.length/\z.1=GY (m.Aa.take z.2.1),⟨_,rfl,rfl,a5 _,rfl⟩,?_⟩;rintro n ⟨a,i,_⟩ ⟨M,N,L⟩ _;have hn:n=m.Aa.length-i:=M;have hi:i<=m.Aa.length:=N;have I:a=GY (m.Aa.take i):=L;refine⟨λC _=>?_,λG=>?_⟩
 .have d:i<m.Aa.length:=C;have ok:=D.ok i d;have sp:=UI ok;have lo64:-255<=E8 m.Aa[i]/\E8 m.Aa[i]<=255:=by
   by_cases y:m.Aa[i].Bool=true
   .grind[PW]
   .rw[PV y];have:=ok.nu (by grind);omega
  have c16:a.length<=16:=by rw[I];exact(Uv D R hi).2
  have el:∀s∈a,s.length<=64:=λs hs=>by rw[I]at hs;have:=((Sn λv V=>by obtain⟨j,hj,rfl⟩:=ae (List.mem_of_mem_take V);exact D.ok j hj) s).1 hs;have:=this.1;grind
  have T:GY (m.Aa.take (i+1))=NT m.Aa[i] a:=by rw[a4 d,P7,I]
  refine⟨d,λ_=>⟨d,λy=>?_,λy=>?_⟩⟩;all_goals
   refine⟨λY z=>Y=a.length-z.2.2.1/\z.2.2.1<=a.length/\z.1=a/\z.2.1=NT m.Aa[i] (a.take z.2.2.1),⟨_,rfl,rfl,a5 _,rfl,rfl⟩,?_⟩
   rintro Y ⟨o,l,k,_⟩ ⟨t,O,u,F⟩ _
   have hn1:Y=a.length-k:=t
   have hk:k<=a.length:=O
   have Z:o=a:=u
   have W:l=NT m.Aa[i] (a.take k):=F
   subst Z
   refine⟨λJ=>?_,λp=>⟨by grind,m.Aa.length-(i+1),by omega,rfl,rfl,by grind,?_⟩⟩
   .have g:k<o.length:=J
    have ek:=el _ (ac g)
    have tk:NT m.Aa[i] (o.take (k+1))=l++(ab (BL m.Aa[i]).toNat).map λ(q:Nat)=>o[k]++[E8 m.Aa[i]+(q:Int)]:=by rw[a4 g,W];unfold NT;rw[cf,List.flatMap_singleton]
    have nl:l.length<=16*64:=by rw[W,Xo,aw];exact bq (by omega) (by omega)
    refine⟨λP z=>P=(BL m.Aa[i]).toNat-z.2.2.1/\z.2.2.1<=(BL m.Aa[i]).toNat/\z.1=o/\z.2.1=l++(ab z.2.2.1).map λ(q:Nat)=>o[k]++[E8 m.Aa[i]+(q:Int)],⟨_,rfl,rfl,a5 _,rfl,by show l=l++[];rw[aq]⟩,?_⟩
    rintro P ⟨f,b,j,_⟩ ⟨w,E,x,r⟩ _
    have hn2:P=(BL m.Aa[i]).toNat-j:=w
    have hj:j<=(BL m.Aa[i]).toNat:=E
    have S:f=o:=x
    have A:b=l++(ab j).map λ(q:Nat)=>o[k]++[E8 m.Aa[i]+(q:Int)]:=r
    subst S
    have nl2:b.length<=16*64+64:=by rw[A,a9,ag,List.length_range];omega
    have K:∀B:Int,E8 m.Aa[i]=B->j<(BL m.Aa[i]).toNat->Bn .i64 (B+(j:Int))/\(([]++f[k]).length+[B+(j:Int)].length)*8<=140737488355328/\(b.length+[[]++f[k]++[B+(j:Int)]].length)*24<=140737488355328/\j+1<=9223372036854775807/\
      ∃m1,m1<P/\H=H/\m1=(BL m.Aa[i]).toNat-(j+1)/\j+1<=(BL m.Aa[i]).toNat/\f=f/\b++[[]++f[k]++[B+(j:Int)]]=l++(ab (j+1)).map λ(q:Nat)=>f[k]++[E8 m.Aa[i]+(q:Int)]:=λB e c=>by
     subst e
     refine⟨A7.2 (by omega),by rw[c0];show (f[k].length+1)*8<=_;omega,by show (b.length+1)*24<=_;omega,by omega,_,by omega,rfl,rfl,by omega,rfl,?_⟩
     rw[A,c0,bx,ao,bt];rfl
    refine⟨d,HD ⟨λc _=>⟨g,g,by show (0+f[k].length)*8<=_;omega,?_⟩,λc=>⟨by show k+1<=_;omega,f.length-(k+1),by omega,rfl,rfl,by show k+1<=_;omega,rfl,?_⟩⟩⟩
    .have c:(j:Int)<BL m.Aa[i]:=c
     first
      |exact λ_=>K _ (PW y) (by omega)
      |exact λ_ _=>K _ (PV y) (by omega)
    grind
   grind
 grind
section
theorem XA{α:Type}{l:List α}(h:l.Nodup){i j:Nat}(hi:i<l.length)(a:j<l.length)(e:l[i]=l[j]):i=j:=by grind[Nat.lt_trichotomy,absurd,List.pairwise_iff_getElem]
variable {M M':Mn} {F:B.Fn}
theorem Uz.BD{G:B.Fn}{k:Int}(a:MI M)(n:Uz M M' F)(h:M.Aq k=some G):M'.Aq k=some G:=by obtain⟨x,b,_⟩:=Mn.Es h;have:=(a.ok _ _ b).2.2;rw[n.Aq,if_neg (by omega)];exact h
theorem Uz.self(n:Uz M M' F):M'.Aq M.nx=some F:=by rw[n.Aq,if_pos rfl]
theorem Got.BD{G:B.Fn}{r k:Int}(a:MI M)(n:Got M M' r F)(h:M.Aq k=some G):M'.Aq k=some G:=by obtain⟨x,b,_⟩:=Mn.Es h;have:=(a.ok _ _ b).2.2;have:=n.ge;rw[n.Aq,if_neg (by omega)];exact h
theorem Got.self{r:Int}(n:Got M M' r F):M'.Aq r=some F:=by rw[n.Aq,if_pos rfl]
theorem Rw{l:List B.Fn}{a:B.As}:MY l a=true↔∃F∈l,F a=true:=by unfold MY;rw[ck]
theorem Af5{l:List B.Fn}:[MY l,F].foldl Q4 (λ_=>false)=MY (l++[F]):=by rw[<-Xz];funext a;rfl
theorem Aqw{l:List Ar}(g:OT l)(t:l.length<=64):MY ((GY l).map λs=>stF (Dg l) s false)=EA (Dg l) false l.length:=by
 have d:Ku (Dg l):=Zv g t;have f:=Sn (l:=l) λv h=>by obtain⟨j,m,rfl⟩:=ae h;exact g.ok j m
 funext a;rw[bz,Rw];have k:=OS (next:=false) (a:=a) d;rw[show (Dg l).Aa=l from rfl]at k;rw[k];constructor
 .rintro⟨F,r,p⟩ i b;obtain⟨s,q,rfl⟩:=aa.1 r;have c:=(f s).1 q;rw[(Ul d c).1 p i b (by rw[c.1];exact b)];rfl
 .intro h;have c:IsV l ((ab l.length).map λi=>(Jk (Dg l) false i a).getD 0):=by refine⟨by simp,λi b o=>?_⟩;obtain⟨n,e⟩:=ba.1 (h i b);rw[bw,List.getElem_range,e];exact((Jx d b).1 e).1
  refine⟨_,aa.2 ⟨_,(f _).2 c,rfl⟩,(Ul d c).2 λi b o=>?_⟩;grind[ba]
theorem Ak9{l:List Ar}(g:OT l)(w:l.length<=64){i:Nat}(hi:i<(GY l).length):¬∃a,stF (Dg l) (GY l)[i] false a=true/\MY (((GY l).take i).map λs=>stF (Dg l) s false) a=true:=by
 have q:Ku (Dg l):=Zv g w;have f:=Sn (l:=l) λv h=>by obtain⟨j,d,rfl⟩:=ae h;exact g.ok j d
 rintro⟨a,t,b⟩;obtain⟨F,r,b⟩:=Rw.1 b;obtain⟨s,u,rfl⟩:=aa.1 r;obtain⟨j,d,rfl⟩:=ae u;rw[ci]at b;rw[aw]at d;have c:=(f _).1 (ac hi);have n:=(f _).1 (ac (show j<(GY l).length by omega));have e:(GY l)[j]=(GY l)[i]:=by
  refine List.ext_getElem (by rw[c.1,n.1]) λk x m=>?_;have p:k<l.length:=by rw[<-c.1];exact m
  have y:=(Ul q c).1 t k p m;have o:=(Ul q n).1 b k p x;grind
 have:=XA (Aew l) (by omega) hi e;omega
theorem Xc{a:BH}{t:Ae}{H:HY}{X:PX}{Q:Bool×Unit->UU}(hl:a.Aa.length<=1000000000000000)(h:∀H',Q (true,()) () H'):Wp Y0 Ll Gj (a,t,()) H Q X:=by
 refine wF Tryz.f6 {lp:=[(28,⟨[(25,.one (.own (.u 10))),(27,.one (.dat I6)),(28,.nat)],[5,12,25],true⟩),(14,⟨[(6,.blk [.dat (.sl (.u 0)),.dat (.sl I6),.dat (.sl I6)]),(14,.one (.own (.sl I6))),(15,.one (.dat I6)),(16,.nat)],[3,5,8,12,14],true⟩)],im:=[2,3]} (?_:Wp Y0 Jq FH (a,()) H (λ(b:Bool×UT)_ G=>(¬b.1->Wp Y0 BM B7 () G (λ(b:Bool×UT)_ G=>Q (b.1,()) () G) X)/\(¬¬b.1->Wp Y0 EI DD (t,30,()) G (λ(b:Int×UT)_ G=>(b.1<0->Wp Y0 BM B7 () G (λ(b:Bool×UT)_ G=>Q (b.1,()) () G) X)/\(¬b.1<0->Wp Y0 FO Ej (a,()) G (λ(b:Option Nat×Ac×Bool×UT)_ G=>(¬b.2.2.1->Q (false,()) () G)/\(¬¬b.2.2.1->Wp Y0 JP HC (b.1,b.2.1,false,()) G (λ(b1:Int×Int×UT)_ G=>Wp Y0 JP HC (b.1,b.2.1,true,()) G (λ(b2:Int×Int×UT)_ G=>Wp Y0 Cy Ci (b.1,[b1.1,b2.1],()) G (λ(b3:Int×Int×UT)_ G=>(¬b1.2.1=0->Q (false,()) () G)/\(¬¬b1.2.1=0->(¬b2.2.1=0->Q (false,()) () G)/\(¬¬b2.2.1=0->(¬b3.2.1=0->Q (false,()) () G)/\(¬¬b3.2.1=0->Wp Y0 Kz Hg ({a with Defs:=[],Init:=[],Acu:=[],Next:=[],Trans:=[],Fair:=[],Acm:=[]},16,()) G (λ(b4:List (List Int)×UT)_ G=>∃(V:Nat->(List Ar×List Int×List Int×UT)×List (List Int)×Int×Nat×UT->HP),(∃(n:Nat),V n ((b.2.1.Aa,b.2.1.Bits,b.2.1.At,()),b4.1,0,0,()) G)/\∀n x H,V n x H->x.2.1.length<=2^63-1->(x.2.2.2.1<x.2.1.length->x.2.2.2.1<=2^63-1->∃(h:x.2.2.2.1<x.2.1.length),∃(h:x.2.2.2.1<x.2.1.length),Wp Y0 Qg LV (b.1,{Aa:=x.1.1,Bits:=x.1.2.1,At:=x.1.2.2.1:Ac},x.2.1[x.2.2.2.1],false,()) H (λ(b5:Int×Int×UT)_ G=>Wp Y0 Iv Gl (b.1,b5.1,x.2.2.1,()) G (λ(b6:Bool×Int×UT)_ G=>Wp Y0 IS Hx (b.1,[x.2.2.1,b5.1],()) G (λ(b:Int×Int×UT)_ G=>(¬b5.2.1=0->Q (false,()) () G)/\(¬¬b5.2.1=0->(¬b6.2.1=0->Q (false,()) () G)/\(¬¬b6.2.1=0->(¬b.2.1=0->Q (false,()) () G)/\(¬¬b.2.1=0->(b6.1->Q (false,()) () G)/\(¬b6.1->x.2.2.2.1+1<=(2^63-1:Nat)/\∃m,m<n/\V m ((x.1.1,x.1.2.1,x.1.2.2.1,()),x.2.1,b.1,x.2.2.2.1+1,()) G))))) X) X) X)/\(¬x.2.2.2.1<x.2.1.length->Wp Y0 CQ CB (b.1,x.2.2.1,b1.1,()) H (λ(b5:Bool×Int×UT)_ G=>Wp Y0 Me JE (b.1,{Aa:=x.1.1,Bits:=x.1.2.1,At:=x.1.2.2.1:Ac},t,()) G (λ(b6:List BU×Int×UT)_ G=>(¬b5.1->(b5.1->Wp Y0 BM B7 () G (λ(b:Bool×UT)_ G=>Q (b.1,()) () G) X)/\(¬b5.1->Q (false,()) () G))/\(¬¬b5.1->(¬b6.2.1=0->(b5.1->Wp Y0 BM B7 () G (λ(b:Bool×UT)_ G=>Q (b.1,()) () G) X)/\(¬b5.1->Q (false,()) () G))/\(¬¬b6.2.1=0->∃(V:Nat->List BU×Int×Nat×UT->HP),(∃(n:Nat),V n (b6.1,0,0,()) G)/\∀n x H,V n x H->x.1.length<=(2^63-1:Nat)->(x.2.2.1<x.1.length->x.2.2.1<=(2^63-1:Nat)->∃(h:x.2.2.1<x.1.length),∃(h:x.2.2.1<x.1.length),Wp Y0 Iv Gl (b.1,x.1[x.2.2.1].H,x.2.1,()) H (λ(b7:Bool×Int×UT)_ G=>x.2.2.1<=(2^63-1:Nat)->∃(h:x.2.2.1<x.1.length),∃(h:x.2.2.1<x.1.length),Wp Y0 Iv Gl (b.1,x.1[x.2.2.1].H,b3.1,()) G (λ(b8:Bool×Int×UT)_ G=>x.2.2.1<=(2^63-1:Nat)->∃(h:x.2.2.1<x.1.length),∃(h:x.2.2.1<x.1.length),Wp Y0 IS Hx (b.1,[x.2.1,x.1[x.2.2.1].H],()) G (λ(b:Int×Int×UT)_ G=>(¬b7.2.1=0->Q (false,()) () G)/\(¬¬b7.2.1=0->(¬b8.2.1=0->Q (false,()) () G)/\(¬¬b8.2.1=0->(¬b.2.1=0->Q (false,()) () G)/\(¬¬b.2.1=0->(b7.1->Q (false,()) () G)/\(¬b7.1->(¬b8.1->Q (false,()) () G)/\(¬¬b8.1->x.2.2.1+1<=(2^63-1:Nat)/\∃m,m<n/\V m (x.1,b.1,x.2.2.1+1,()) G)))))) X) X) X)/\(¬x.2.2.1<x.1.length->Wp Y0 RY MR (b.1,b3.1,x.2.1,()) H (λ(b:Bool×Int×UT)_ G=>(b.2.1=0->(b.1->Wp Y0 BM B7 () G (λ(b:Bool×UT)_ G=>Q (b.1,()) () G) X)/\(¬b.1->Q (false,()) () G))/\(¬b.2.1=0->Q (false,()) () G)) X)))) X) X)) X)))) X) X) X)) X)) X)) X);have lv:∀{H':HY},Wp Y0 BM B7 () H' (λ(b:Bool×Unit)io H'=>Q (b.1,()) () H') X:=λ{H'}=>Am6 λH2=>h H2;refine Apb hl λt0 hs=>⟨λ_=>lv,λhs'=>An4 (SizeOf.sizeOf t+1) t (by omega) (by decide) (by decide) λr _ _ hr=>⟨λ_=>lv,λhr0=>?_⟩⟩
 have J:=hs (au.1 hs');have hz:DV t<=31:=by omega
 have st:=J.t;have sn:=J.n;have hL:Ku (Dg a.Aa):=Zv J.v (by omega);have hL':(Dg a.Aa).Aa=a.Aa:=rfl;have tot:=Ab2 (l:=a.Aa);refine Acn J λb M1 H1 mn mi mv ws rm nm=>⟨λg=>absurd rfl g,λ_=>?_⟩
 have hn1:M1.S.n=2*GC a.Aa:=nm.n;have g1:MG H1 b M1:=⟨mn,mi,mv,λ_ _=>.inr (.inr Aut),by omega,rm⟩
 have hnx:=nm.nx;have hln:=nm.ln;refine Ly (L:=Dg a.Aa) (next:=false) g1 (by omega) (by omega) hL (λd=>absurd d (by omega)) λ_ M2 H2 r2 g2 q2 nx2 _=>?_;have n2:M2.S.n=2*GC a.Aa:=q2.bs.n.trans hn1;have ln2:=q2.ln;refine Ly (L:=Dg a.Aa) (next:=true) g2 (by omega) (by omega) hL (λd=>absurd d (by omega)) λ_ M3 H3 r3 g3 q3 nx3 _=>?_;have n3:M3.S.n=2*GC a.Aa:=q3.bs.n.trans n2;have ln3:=q3.ln;have A3:=q3.BD g2.i q2.self;refine MZ (Gs:=[EA (Dg a.Aa) false (Dg a.Aa).Aa.length,EA (Dg a.Aa) true (Dg a.Aa).Aa.length]) g3 (by omega) (by omega) (by simp) (by show [M3.Aq r2,M3.Aq r3]=_;rw[A3,q3.self];rfl) λo H4 g4 q4 _=>?_;have n4:o.S.n=2*GC a.Aa:=q4.n.trans n3;have ln4:=q4.ln;have nx4:=q4.nx;have A4:=q4.BD g3.i A3;have W4:=q4.self;have hW:[EA (Dg a.Aa) false (Dg a.Aa).Aa.length,EA (Dg a.Aa) true (Dg a.Aa).Aa.length].foldl C6 (λ_=>true)=C6 (EA (Dg a.Aa) false (Dg a.Aa).Aa.length) (EA (Dg a.Aa) true (Dg a.Aa).Aa.length):=by funext a;rfl
 rw[hW]at W4;have e0:=Aqw J.v (show a.Aa.length<=64 by omega);rw[show a.Aa.length=(Dg a.Aa).Aa.length from rfl]at e0;generalize hWW:C6 (EA (Dg a.Aa) false (Dg a.Aa).Aa.length) (EA (Dg a.Aa) true (Dg a.Aa).Aa.length)=W at W4;generalize EA (Dg a.Aa) false (Dg a.Aa).Aa.length=A at e0 A4;refine⟨λg=>absurd rfl g,λ_=>⟨λg=>absurd rfl g,λ_=>⟨λg=>absurd rfl g,λ_=>YF J.v (by grind) st.2 ?_⟩⟩⟩;have c16:(GY a.Aa).length<=16:=by have:=(Uv J.v st.2 (af a.Aa.length)).2;rw[bh]at this;exact this
 have am:=Sn (l:=a.Aa) λv h=>by obtain⟨j,hj,rfl⟩:=ae h;exact J.v.ok j hj
 refine⟨λn z H'=>n=(GY a.Aa).length-z.2.2.2.1/\z.2.2.2.1<=(GY a.Aa).length/\z.1.1=(Dg a.Aa).Aa/\z.1.2.1=(Dg a.Aa).Bits/\z.1.2.2.1=(Dg a.Aa).At/\z.2.1=GY a.Aa/\
  ∃m,MG H' b m/\m.S.n=2*GC a.Aa/\m.Aq z.2.2.1=some (MY (((GY a.Aa).take z.2.2.2.1).map λs=>stF (Dg a.Aa) s false))/\m.Aq r2=some A/\m.Aq M3.nx=some W/\m.nx<=o.nx+2*z.2.2.2.1/\m.hs.length<=o.hs.length+2*z.2.2.2.1,
  ⟨_,rfl,a5 _,rfl,rfl,rfl,rfl,o,g4,n4,?_,A4,W4,by omega,by omega⟩,?_⟩
 .show o.Aq 0=some (MY []);rw[g4.i.Aa7];rfl
 rintro n ⟨⟨v,bi,at',_⟩,al,so,i,_⟩ H5 ⟨y,hi0,hv0,hb0,ha0,hal0,S,g5,n5,hso0,A5,W5,U,P⟩ _;have g:n=(GY a.Aa).length-i:=y;have hi:i<=(GY a.Aa).length:=hi0;have hv:v=(Dg a.Aa).Aa:=hv0;have hb:bi=(Dg a.Aa).Bits:=hb0;have ha:at'=(Dg a.Aa).At:=ha0;have hal:al=GY a.Aa:=hal0;have K:S.Aq so=some (MY (((GY a.Aa).take i).map λs=>stF (Dg a.Aa) s false)):=hso0;have nx5:S.nx<=o.nx+2*(i:Int):=U;have ln5:S.hs.length<=o.hs.length+2*i:=P;subst hv hb ha hal;refine⟨λE _=>?_,λhge0=>?_⟩
 .have d:i<(GY a.Aa).length:=E;have iv:IsV (Dg a.Aa).Aa (GY a.Aa)[i]:=(am _).1 (ac d);refine⟨d,d,?_⟩;refine Wa (L:=Dg a.Aa) g5 (by omega) (by omega) hL (by omega) (λ_ _ hni=>absurd iv hni) λ_ p H6 g6 k=>?_;have ln6:=k.ln;have nx6:=k.nx;have hso6:=k.BD g5.i K;refine KJ g6 (by omega) (by omega) k.self hso6 λM7 H7 t7 ht7 g7 k7 _=>?_;have t7f:¬t7=true:=λf=>Ak9 J.v (show a.Aa.length<=64 by omega) d (ht7.1 f);have nx7:=k7.nx;have ln7:=congrArg av k7.hs;have hso7:=(k7.Aq so).trans hso6;have hst7:=(k7.Aq S.nx).trans k.self;refine Pn (Gs:=[_,_]) g7 (by omega) (by omega) (by simp) (by show [M7.Aq so,M7.Aq S.nx]=_;rw[hso7,hst7];rfl) λM8 H8 g8 q8 _=>?_;have nx8:=q8.nx;have ln8:=q8.ln;refine⟨λg=>absurd rfl g,λ_=>⟨λg=>absurd rfl g,λ_=>⟨λg=>absurd rfl g,λ_=>⟨λf=>absurd f t7f,λ_=>⟨by grind,(GY a.Aa).length-(i+1),by omega,rfl,by grind,rfl,rfl,rfl,rfl,M8,g8,?_,?_,?_,?_,?_,?_⟩⟩⟩⟩⟩
  .rw[q8.n,k7.bs.n,k.n,n5]
  .show M8.Aq M7.nx=some (MY (((GY a.Aa).take (i+1)).map λs=>stF (Dg a.Aa) s false));rw[q8.self,Af5,a4 d,ao];rfl
  .exact q8.BD g7.i ((k7.Aq r2).trans (k.BD g5.i A5))
  .exact q8.BD g7.i ((k7.Aq M3.nx).trans (k.BD g5.i W5))
  all_goals grind
 have hge:¬i<(GY a.Aa).length:=hge0;rw[ai (by omega),e0]at K;have i16:i<=16:=by omega
 refine TC g5.h g5.i (λf=>by rw[K,A5]at f;exact absurd f (by simp)) λF G hF hG ts hts=>?_;have C:ts=true:=hts.2 (by rw[K]at hF;rw[A5]at hG;cases hF;cases hG;rfl);have fitn:2*CR (Dg a.Aa)<=S.S.n:=by omega
 have f8:2*CR (Dg a.Aa)<=8:=by omega
 have D:(Dg a.Aa).Aa.length<=1000:=by show a.Aa.length<=1000;omega
 have sok:=λhe=>Avb (n0:=S.S.n) hL fitn f8 D (show DV t<=40 by omega) he;refine OO (L:=Dg a.Aa) (t:=t) (V:=(D3 (Dg a.Aa) t).2) (bd:=256*DV t) (c:=1000000000*DV t) (pk:=1025*DV t) g5 (by omega) (by omega) hL fitn (λH X Q hq=>PL D hq) (λhe hb=>@Su.nu _ _ _ _ (sok he) hb) (λhe H6 _ _=>⟨λf=>absurd C f,λ_=>⟨λ_=>⟨λ_=>lv,λf=>absurd C f⟩,λf=>absurd he f⟩⟩)
  (λhe _ H6 _ _=>⟨λf=>absurd C f,λ_=>⟨λ_=>⟨λ_=>lv,λf=>absurd C f⟩,λf=>absurd (show ¬(13:Int)=0 by decide) f⟩⟩) λhe hB p H6 B g6 k nx6 _=>⟨λf=>absurd C f,λ_=>⟨λf=>absurd rfl f,λ_=>?_⟩⟩
 have n6:p.S.n=S.S.n:=k.bs.n;rw[hWW]at k;have ln6:=k.ln;have nd:(B.map (·.N)).Nodup:=k.srt.imp λh=>by omega
 have few:B.length<=256:=by
  have:=ZP (V:=(D3 (Dg a.Aa) t).2) (λa b e=>(Afu hL.toJf f8 _ t (aj _) a b e).2) nd λn g=>by obtain⟨a,ha,_⟩:=(k.mem n).1 g;exact⟨a,ha⟩
  rw[ag]at this;exact this
 have W6:=k.KK _ _ W5;refine⟨λn z H'=>n=B.length-z.2.2.1/\z.2.2.1<=B.length/\z.1=B/\
  ∃m,MG H' b m/\m.Aq z.2.1=some (MY ((B.take z.2.2.1).map λc=>gV (D3 (Dg a.Aa) t).2 c.N))/\(∀c∈B,m.Aq c.H=some (gV (D3 (Dg a.Aa) t).2 c.N))/\m.Aq M3.nx=some W/\m.nx<=p.nx+z.2.2.1/\m.hs.length<=p.hs.length+z.2.2.1,
  ⟨_,rfl,a5 _,rfl,p,g6,?_,k.Aq,W6,by show p.nx<=p.nx+((0:Nat):Int);omega,af _⟩,?_⟩
 .show p.Aq 0=some (MY []);rw[g6.i.Aa7];rfl
 rintro n ⟨I,su,j,_⟩ H7 ⟨y,hj0,hc0,M7,g7,R,C7,W7,nx70,Y⟩ _;have g:n=B.length-j:=y;have hj:j<=B.length:=hj0;have hc:I=B:=hc0;have O:M7.Aq su=some (MY ((B.take j).map λc=>gV (D3 (Dg a.Aa) t).2 c.N)):=R;have nx7:M7.nx<=p.nx+(j:Int):=nx70;have ln7:M7.hs.length<=p.hs.length+j:=Y;subst hc;refine⟨λE _=>?_,λT=>?_⟩
 .have d:j<I.length:=E;have mj:=ac d;refine⟨d,d,KJ g7 (by omega) (by omega) (C7 _ mj) O λM8 H8 t8 ht8 g8 Z _ _=>⟨d,d,?_⟩⟩;have nx8:=Z.nx;have ln8:=congrArg av Z.hs;have t8f:¬t8=true:=λf=>by
   obtain⟨x,h1,h2⟩:=ht8.1 f;obtain⟨F,hF,h3⟩:=Rw.1 h2;obtain⟨c',hc',rfl⟩:=aa.1 hF;rw[FL]at h1 h3;rw[h1]at h3;obtain⟨q,hq,rfl⟩:=ae hc';rw[ci]at h3;rw[aw]at hq;have e:(I.map (·.N))[q]'(by rw[ag];omega)=(I.map (·.N))[j]'(by rw[ag];omega):=by rw[bw,bw];exact(ap h3).symm
   have:=XA nd _ _ e;omega
  refine KJ g8 (by omega) (by omega) ((Z.Aq _).trans (C7 _ mj)) ((Z.Aq _).trans W7) λM9 H9 t9 ht9 g9 k9 _ _=>⟨d,d,?_⟩
  have nx9:=k9.nx;have ln9:=congrArg av k9.hs;have t9t:t9=true:=ht9.2 (by obtain⟨x,h1,h2⟩:=(k.mem I[j].N).1 (ce mj);exact⟨x,FL.2 h1,h2⟩)
  refine Pn (Gs:=[_,_]) g9 (by omega) (by omega) (by show 2<=1000;decide) (by show [M9.Aq su,M9.Aq I[j].H]=_;rw[k9.Aq,Z.Aq,k9.Aq,Z.Aq,O,C7 _ mj];rfl) λM H10 g10 w _=>?_;have nx10:=w.nx;have ln10:=w.ln;refine⟨λg=>absurd rfl g,λ_=>⟨λg=>absurd rfl g,λ_=>⟨λg=>absurd rfl g,λ_=>⟨λf=>absurd f t8f,λ_=>⟨λf=>absurd t9t f,λ_=>⟨by show j+1<=_;omega,I.length-(j+1),by omega,rfl,by show j+1<=_;omega,rfl,M,g10,?_,?_,?_,?_,?_⟩⟩⟩⟩⟩⟩
  .show M.Aq M9.nx=some (MY ((I.take (j+1)).map λc=>gV (D3 (Dg a.Aa) t).2 c.N));rw[w.self,Af5,a4 d,ao];rfl
  .intro c hc;exact w.BD g9.i (((k9.Aq _).trans (Z.Aq _)).trans (C7 c hc))
  .exact w.BD g9.i (((k9.Aq _).trans (Z.Aq _)).trans W7)
  .show M.nx<=p.nx+((j+1:Nat):Int);omega
  .show M.hs.length<=p.hs.length+(j+1);omega
 .have T:¬j<I.length:=T;rw[ai (by omega)]at O;refine WB g7 (by omega) (by omega) W7 O λM8 H8 t8 ht8 _ _ _=>?_;have t8t:t8=true:=ht8.2 λx hx=>by have u:=hx;rw[<-hWW]at u;unfold C6 at u;rw[bv]at u;obtain⟨v,hv⟩:=(sok he).tt hB x u.1 u.2;obtain⟨c,hc,e⟩:=aa.1 ((k.mem v).2 ⟨x,hv,hx⟩);exact Rw.2 ⟨_,aa.2 ⟨c,hc,rfl⟩,FL.2 (by rw[e];exact hv)⟩
  exact⟨λ_=>⟨λ_=>lv,λf=>absurd t8t f⟩,λf=>absurd rfl f⟩
end
end Go.Proofs.YtcbkbpjlbmalmaaGreatDoor
