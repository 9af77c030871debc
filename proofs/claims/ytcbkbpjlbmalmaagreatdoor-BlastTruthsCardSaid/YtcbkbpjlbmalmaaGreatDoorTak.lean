/-
  The reference's value at an assignment; the law BlastTruths, as a contract. (Merged by program out of 8 texts.)
-/
import Derived.Test.YtcbkbpjlbmalmaaGreatDoorTaj
open List renaming range->a0,getElem_map->a3,take_succ_eq_append_getElem->a4,getElem_mem->a6,length_map->a7,length_range->a8,getElem_range->ab,mem_map->af,mem_singleton->ag,mem_range->ah,take_of_length_le->ai,mem_append->aj,length_append->al,all_eq_true->ao,foldl_cons->ap
open Classical renaming byContradiction->a5,not_not->ad
open Nat renaming lt_succ_self->a9,not_lt_zero->aa,zero_le->ac
open Option renaming some.inj->ae
open Int renaming natCast_nonneg->ak,toNat_natCast->am,tdiv->ar
open Bool renaming eq_iff_iff->aq
namespace Go.Proofs.YtcbkbpjlbmalmaaGreatDoor
open Go Go.X Go.Y
section
variable {H:HY} {X:PX}
theorem Ard{l:List ByteArray}{s:ByteArray}{Q:Bool×Unit->UU}(hl:l.length<=1000000)(h:∀t:Bool,(t=true↔s∈l)->Q (t,()) () H):qK Aes YF (l,s,()) H Q X:=by
 refine wF Tryz.f225 {lp:=[(2,⟨[(5,.nat)],[0,1],false⟩)]} (?_:∃(V:Nat->Nat×UT->Prop),(∃(n:Nat),H=H/\V n (0,()))/\∀n x,V n x->l.length<=2^63-1->(x.1<l.length->x.1<=2^63-1->∃(h:x.1<l.length),(l[x.1]=s->Q (true,()) () H)/\(¬l[x.1]=s->x.1+1<=2^63-1/\∃m,m<n/\H=H/\V m (x.1+1,())))/\(¬x.1<l.length->Q (false,()) () H));refine⟨λm z=>m=l.length-z.1/\z.1<=l.length/\s∉l.take z.1,⟨_,rfl,rfl,ac _,by simp⟩,?_⟩;rintro m ⟨k,_⟩ ⟨hm0,hk0,hs0⟩ _;have hm:m=l.length-k:=hm0;have hk:k<=l.length:=hk0;have hs:s∉l.take k:=hs0;refine⟨λhlt0 _=>?_,λhge0=>h false ⟨λe=>(by cases e),λe=>?_⟩⟩
 .have hlt:k<l.length:=hlt0;refine⟨hlt,λe=>h true ⟨λ_=>?_,λ_=>rfl⟩,λe=>⟨by grind,l.length-(k+1),by omega,rfl,rfl,by grind,?_⟩⟩
  .grind
  .show s∉l.take (k+1);rw[a4 hlt,aj,ag];rintro(h1|h1)
   .exact hs h1
   .exact e h1.symm
 grind
theorem Ano{vars:List Ar}{names:List ByteArray}{i:Nat}{Q:Bool×Unit->UU}(hl:names.length<=1000000)(_:vars.length<=1000)(hi:i<vars.length)(h:∀t:Bool,(t=true↔vars[i].qJ∈names)->Q (t,()) () H):qK Acv UI (vars,names,(i:Int),()) H Q X:=by
 refine wF Tryz.f116 {lp:=[(2,⟨[(7,.nat)],[0,1,2],false⟩)]} (?_:∃(V:Nat->Nat×UT->Prop),(∃(n:Nat),H=H/\V n (0,()))/\∀n x,V n x->names.length<=2^63-1->(x.1<names.length->x.1<=2^63-1->∃(h:x.1<names.length),IK (i:Int)->(IK (i:Int)->0<=(i:Int))/\∃(h1:(i:Int).toNat<vars.length),(names[x.1]=vars[(i:Int).toNat].qJ->Q (true,()) () H)/\(¬names[x.1]=vars[(i:Int).toNat].qJ->x.1+1<=2^63-1/\∃m,m<n/\H=H/\V m (x.1+1,())))/\(¬x.1<names.length->Q (false,()) () H));refine⟨λm z=>m=names.length-z.1/\z.1<=names.length/\vars[i].qJ∉names.take z.1,⟨_,rfl,rfl,ac _,by simp⟩,?_⟩;rintro m ⟨k,_⟩ ⟨hm0,hk0,hs0⟩ _;have hm:m=names.length-k:=hm0;have hk:k<=names.length:=hk0;have hs:vars[i].qJ∉names.take k:=hs0;have ei:((i:Nat):Int).toNat=i:=am _;have hi':((i:Nat):Int).toNat<vars.length:=by omega
 have ev:vars[((i:Nat):Int).toNat]'hi'=vars[i]:=by rfl
 refine⟨λhlt0 _=>?_,λhge0=>h false ⟨λe=>(by cases e),λe=>?_⟩⟩
 .have hlt:k<names.length:=hlt0;refine⟨hlt,λ_=>⟨λ_=>ak _,hi',λe=>h true ⟨λ_=>?_,λ_=>rfl⟩,λe=>⟨by grind,names.length-(k+1),by omega,rfl,rfl,by grind,?_⟩⟩⟩
  .grind
  .have e:¬names[k]=(vars[((i:Nat):Int).toNat]'hi').qJ:=e;rw[ev]at e;show vars[i].qJ∉names.take (k+1);rw[a4 hlt,aj,ag];rintro(h1|h1)
   .exact hs h1
   .exact e h1.symm
 grind
theorem Apv{l:List ByteArray}{s:ByteArray}{Q:List ByteArray×Unit->UU}(hl:l.length<=100000)(h:∀l':List ByteArray,(∀x,x∈l'↔x∈l∨x=s)->l'.length<=l.length+1->Q (l',()) () H):qK Ac1 W6 (l,s,()) H Q X:=by
 refine wF Tryz.f178 {lp:=[(6,⟨[(5,.one (.own .str)),(6,.one (.dat .bool)),(7,.nat)],[0,1],false⟩)]} (?_:qK Aes YF (l,s,()) H (λ(b:Bool×UT)_ G=>(b.1->Q (l,()) () G)/\(¬b.1->∃(V:Nat->List ByteArray×Bool×Nat×UT->Prop),(∃(n:Nat),G=G/\V n ([],false,0,()))/\∀n x,V n x->l.length<=2^63-1->(x.2.2.1<l.length->(¬x.2.1->x.2.2.1<=2^63-1->∃(h:x.2.2.1<l.length),(gtS l[x.2.2.1] s->(x.1.length+[s].length)*16<=2^47/\(x.2.2.1<=2^63-1->∃(h:x.2.2.1<l.length),((x.1++[s]).length+[l[x.2.2.1]].length)*16<=2^47/\x.2.2.1+1<=2^63-1/\∃m,m<n/\G=G/\V m (x.1++[s]++[l[x.2.2.1]],true,x.2.2.1+1,())))/\(¬gtS l[x.2.2.1] s->x.2.2.1<=2^63-1->∃(h:x.2.2.1<l.length),(x.1.length+[l[x.2.2.1]].length)*16<=2^47/\x.2.2.1+1<=2^63-1/\∃m,m<n/\G=G/\V m (x.1++[l[x.2.2.1]],x.2.1,x.2.2.1+1,())))/\(¬¬x.2.1->x.2.2.1<=2^63-1->∃(h:x.2.2.1<l.length),(x.1.length+[l[x.2.2.1]].length)*16<=2^47/\x.2.2.1+1<=2^63-1/\∃m,m<n/\G=G/\V m (x.1++[l[x.2.2.1]],x.2.1,x.2.2.1+1,())))/\(¬x.2.2.1<l.length->(¬x.2.1->(x.1.length+[s].length)*16<=2^47/\Q (x.1++[s],()) () G)/\(¬¬x.2.1->Q (x.1,()) () G)))) X);refine Ard (by omega) λt ht=>⟨λe=>h l (λx=>⟨.inl,λhx=>hx.elim id λe2=>by rw[e2];exact ht.1 e⟩) (by omega),λ_=>?_⟩
 refine⟨λm z=>m=l.length-z.2.2.1/\z.2.2.1<=l.length/\(∀x,x∈z.1↔x∈l.take z.2.2.1∨(z.2.1=true/\x=s))/\z.1.length=z.2.2.1+if z.2.1=true then 1 else 0,⟨_,rfl,rfl,ac _,λx=>by simp,rfl⟩,?_⟩;rintro m ⟨out,d,k,_⟩ ⟨hm0,hk0,hx0,hn0⟩ _;have hm:m=l.length-k:=hm0;have hk:k<=l.length:=hk0;have hx:∀x,x∈out↔x∈l.take k∨(d=true/\x=s):=hx0;have hn:out.length=k+if d=true then 1 else 0:=hn0
 have hn2:out.length<=k+1:=by rw[hn];split<;>omega
 refine⟨λhlt0=>?_,λhge0=>?_⟩
 .have hlt:k<l.length:=hlt0;have tk:∀x,x∈l.take (k+1)↔x∈l.take k∨x=l[k]:=λx=>by rw[a4 hlt,aj,ag]
  have plain:(out.length+1)*16<=140737488355328/\k+1<=9223372036854775807/\∃m1,m1<m/\H=H/\m1=l.length-(k+1)/\k+1<=l.length/\(∀x,x∈out++[l[k]]↔x∈l.take (k+1)∨(d=true/\x=s))/\(out++[l[k]]).length=(k+1)+if d=true then 1 else 0:=by refine⟨by omega,by omega,_,by omega,rfl,rfl,by omega,λx=>?_,by rw[al,hn];show _+1=_;omega⟩;grind
  refine⟨λhd _=>⟨hlt,λ_=>⟨by grind,λ_=>⟨hlt,by rw[al];show (out.length+1+1)*16<=_;omega,by grind,l.length-(k+1),by omega,rfl,rfl,by grind,λx=>?_,?_⟩⟩,λ_ _=>⟨hlt,plain⟩⟩,λ_ _=>⟨hlt,plain⟩⟩;all_goals grind
 grind
theorem A0q{op:Int}{nm:ByteArray}{t:Ae}:Ata op nm t↔(t.Op=op/\t.qJ=nm)∨∃k∈t.qZ,Ata op nm k:=
 ⟨λh=>by cases h with|here a b=>grind|kid a b=>grind,λh=>h.elim (λe=>.here e.1 e.2) λ⟨_,a,b⟩=>.kid a b⟩
theorem Aeq{op:Int}{X:PX}:∀(z:Nat)(t:Ae){l:List ByteArray}{H:HY}{Q:List ByteArray×Unit->UU},SizeOf.sizeOf t<z->l.length+DV t<=10000->(∀l':List ByteArray,(∀x,x∈l'↔x∈l∨Ata op x t)->l'.length<=l.length+DV t->Q (l',()) () H)->qK J0 Hg (t,op,l,()) H Q X
 |0,_,_,_,_,hz,_,_=>qG hz (aa _)
 |z+1,t,l,H,Q,hz,hs,h=>by
  apply Ahj;unfold Ab0;have sz:=ML t;have loop:∀{l0:List ByteArray},(∀x,x∈l0↔x∈l∨(t.Op=op/\t.qJ=x))->l0.length<=l.length+1->∃(V:Nat->List ByteArray×Nat×Unit->Prop),(∃(n:Nat),H=H/\V n (l0,0,()))/\∀(n:Nat)(x:List ByteArray×Nat×Unit),V n x->t.qZ.length<=9223372036854775807->(x.2.1<t.qZ.length->x.2.1<=9223372036854775807->∃(h:x.2.1<t.qZ.length),qK J0
    Hg (t.qZ[x.2.1],op,x.1,()) H (λ(b:List ByteArray×Unit)(io:Unit)(H'_1:HY)=>x.2.1+1<=9223372036854775807/\∃(m:Nat),m<n/\H'_1=H/\V m (b.1,x.2.1+1,())) X)/\(¬x.2.1<t.qZ.length->Q (x.1,()) () H):=λ{l0}hx0 hl0=>by
   refine⟨λn x=>n=t.qZ.length-x.2.1/\x.2.1<=t.qZ.length/\(∀y,y∈x.1↔y∈l0∨∃k∈t.qZ.take x.2.1,Ata op y k)/\x.1.length<=l.length+1+GG (t.qZ.take x.2.1),⟨_,rfl,rfl,ac _,λy=>by simp,by grind⟩,?_⟩
   rintro n ⟨l1,i,_⟩ ⟨hn0,hi0,hy0,hl10⟩ _
   have hn:n=t.qZ.length-i:=hn0
   have hi:i<=t.qZ.length:=hi0
   have hy:∀y,y∈l1↔y∈l0∨∃k∈t.qZ.take i,Ata op y k:=hy0
   have hl1:l1.length<=l.length+1+GG (t.qZ.take i):=hl10
   refine⟨λhlt0 _=>?_,λhge0=>?_⟩
   .have hlt:i<t.qZ.length:=hlt0
    have s1:=Xm hlt
    have s2:=Aqc (l:=t.qZ) (i+1)
    refine⟨hlt,Aeq z t.qZ[i] (by have:=Ms (a6 hlt);omega) (by grind) λl2 h2 h3=>⟨by omega,t.qZ.length-(i+1),by omega,rfl,rfl,by grind,λy=>?_,?_⟩⟩
    .show y∈l2↔y∈l0∨∃k∈t.qZ.take (i+1),Ata op y k
     have h2:y∈l2↔y∈l1∨Ata op y t.qZ[i]:=h2 y
     rw[h2,hy,a4 hlt]
     grind
    grind
   grind[ai,A0q]
  refine⟨λe=>Apv (by omega) λl' h1 h2=>loop (λx=>?_) h2,λe=>loop (λx=>?_) (by omega)⟩
  .rw[h1];exact⟨λh3=>h3.elim .inl λh4=>.inr ⟨e,h4.symm⟩,λh3=>h3.elim .inl λh4=>.inr h4.2.symm⟩
  .exact⟨.inl,λh3=>h3.elim id λh4=>qG h4.1 e⟩
theorem Anu{t:Ae}{Q:List ByteArray×List ByteArray×Unit->UU}(hs:DV t<=1000)(h:∀l m:List ByteArray,(∀x,x∈l↔Ata 3 x t)->(∀x,x∈m↔Ata 4 x t)->l.length<=1000->m.length<=1000->Q (l,m,()) () H):qK Acw UJ (t,()) H Q X:=by refine wF Tryz.f47 {im:=[1]} (?_:qK J0 Hg (t,3,[],()) H (λ(b:List ByteArray×UT)_ G=>qK J0 Hg (t,4,[],()) G (λ(b1:List ByteArray×UT)_ G=>Q (b.1,b1.1,()) () G) X) X);refine Aeq _ t (a9 _) (by grind) λl h1 h2=>Aeq _ t (a9 _) (by grind) λm h3 h4=>h l m (λx=>(h1 x).trans (by simp)) (λx=>(h3 x).trans (by simp)) (by grind) (by grind)
theorem Aj2{X:PX}:∀(z:Nat)(t:Ae){H:HY}{Q:Bool×Unit->UU},SizeOf.sizeOf t<z->t.qZ.length<=1000->(∀k,Yk k->k.qZ.length<=1000)->Yk t->(∀r:Bool,Q (r,()) () H)->qK Tr LV (t,()) H Q X
 |0,_,_,_,hz,_,_,_,_=>qG hz (aa _)
 |z+1,t,H,Q,hz,hk,ha,ok,h=>by apply Ah7;unfold Acs;refine⟨λ_=>h _,λ_=>⟨λn x=>n=t.qZ.length-x.1,⟨_,rfl,rfl⟩,?_⟩⟩;rintro n ⟨i,_⟩ hn0 _;have hn:n=t.qZ.length-i:=hn0;refine⟨λhlt0 _=>?_,λ_=>h _⟩;have hlt:i<t.qZ.length:=hlt0;have m:=a6 hlt;exact⟨hlt,Aj2 z t.qZ[i] (by have:=Ms m;omega) (ha _ (ok.k _ m)) ha (ok.k _ m) λr=>⟨λ_=>h _,λ_=>⟨by grind,t.qZ.length-(i+1),by omega,rfl,rfl⟩⟩⟩
end
theorem A11{l:List Ar}(hv:OT l){a:B.As}{next:Bool}{i:Nat}(hi:i<l.length):Akd (Dg l) next a i=if rdB l a next (Dg l) i=true then rdV l a next (Dg l) i else E8 l[i]:=by unfold Akd;rw[Avo hv hi,show (Dg l).Aa[i]?=some l[i] from List.getElem?_eq_getElem hi];split<;>rfl
theorem Afn{l:List Ar}{names:List ByteArray}{a:B.As}{next:Bool}{H:HY}{X:PX}{Q:List Int×Bool×Unit->UU}(hv:OT l)(hl:l.length<=64)(hn:names.length<=1000000)(h:∀t:Bool,(t=true↔∀i(hi:i<l.length),l[i].qJ∈names->(Jk (Dg l) next i a).isSome=true)->Q ((a0 l.length).map (Akd (Dg l) next a),t,()) () H):qK Ul NU (l,(a0 l.length).map (rdV l a next (Dg l)),(a0 l.length).map (rdB l a next (Dg l)),names,()) H Q X:=by
 refine wF Tryz.f48 {lp:=[(3,⟨[(10,.one (.own I6)),(11,.one (.dat .bool)),(12,.nat)],[0,1,2,3],false⟩)]} (?_:∃(V:Nat->List Int×Bool×Nat×UT->Prop),(∃(n:Nat),H=H/\V n ([],true,0,()))/\∀n x,V n x->l.length<=2^63-1->(x.2.2.1<l.length->x.2.2.1<=2^63-1->∃(h:x.2.2.1<((a0 l.length).map (rdB l a next (Dg l))).length),(((a0 l.length).map (rdB l a next (Dg l)))[x.2.2.1]->x.2.2.1<=2^63-1->∃(h:x.2.2.1<((a0 l.length).map (rdV l a next (Dg l))).length),(x.1.length+[((a0 l.length).map (rdV l a next (Dg l)))[x.2.2.1]].length)*8<=2^47/\x.2.2.1+1<=2^63-1/\∃m,m<n/\H=H/\V m (x.1++[((a0 l.length).map (rdV l a next (Dg l)))[x.2.2.1]],x.2.1,x.2.2.1+1,()))/\(¬((a0 l.length).map (rdB l a next (Dg l)))[x.2.2.1]->x.2.2.1<=2^63-1->∃(h:x.2.2.1<l.length),qK Uv P7 (l[x.2.2.1],()) H (λ(b:Int×UT)_ G=>(x.1.length+[b.1].length)*8<=2^47/\(x.2.1->qK Acv UI (l,names,(↑x.2.2.1:Int),()) G (λ(b1:Bool×UT)_ G=>x.2.2.1+1<=2^63-1/\∃m,m<n/\G=H/\V m (x.1++[b.1],decide ¬b1.1=true,x.2.2.1+1,())) X)/\(¬x.2.1->x.2.2.1+1<=2^63-1/\∃m,m<n/\G=H/\V m (x.1++[b.1],false,x.2.2.1+1,()))) X))/\(¬x.2.2.1<l.length->Q (x.1,x.2.1,()) () H));refine⟨λm z=>m=l.length-z.2.2.1/\z.2.2.1<=l.length/\z.1=(a0 z.2.2.1).map (Akd (Dg l) next a)/\(z.2.1=true↔∀i(hi:i<l.length),i<z.2.2.1->l[i].qJ∈names->(Jk (Dg l) next i a).isSome=true),⟨_,rfl,rfl,ac _,rfl,λ_ i _ hi=>qG hi (aa _),λ_=>rfl⟩,?_⟩;rintro m ⟨out,t,k,_⟩ ⟨hm0,hk0,ho0,ht0⟩ _;have hm:m=l.length-k:=hm0;have hk:k<=l.length:=hk0;have ho:out=(a0 k).map (Akd (Dg l) next a):=ho0;have ht:t=true↔∀i(hi:i<l.length),i<k->l[i].qJ∈names->(Jk (Dg l) next i a).isSome=true:=ht0;have hol:out.length=k:=by rw[ho,a7,a8]
 refine⟨λhlt0 _=>?_,λhge0=>?_⟩
 .have hlt:k<l.length:=hlt0;have nm:=Avo hv (a:=a) (next:=next) hlt;have md:=A11 hv (a:=a) (next:=next) hlt;have snoc:∀v,v=Akd (Dg l) next a k->out++[v]=(a0 (k+1)).map (Akd (Dg l) next a):=λv e=>by rw[ho,e,List.range_succ,List.map_append];rfl
  have DG:∀{P:Prop},(P↔(l[k].qJ∈names->(Jk (Dg l) next k a).isSome=true))->∀u:Bool,(u=true↔t=true/\P)->(u=true↔∀i(hi:i<l.length),i<k+1->l[i].qJ∈names->(Jk (Dg l) next i a).isSome=true):=λ{P}hP u hu=>by grind
  refine⟨by show k<((a0 l.length).map _).length;rw[a7,a8];exact hlt,λhb _=>?_,λhb _=>?_⟩
  .have hb:rdB l a next (Dg l) k=true:=by have hb:((a0 l.length).map (rdB l a next (Dg l)))[k]'(by rw[a7,a8];exact hlt)=true:=hb;rwa [a3,ab]at hb
   rw[UV hb]at nm md;refine⟨by show k<((a0 l.length).map _).length;rw[a7,a8];exact hlt,by show (out.length+1)*8<=_;omega,by show k+1<=_;omega,l.length-(k+1),by omega,rfl,rfl,by show k+1<=_;omega,snoc _ ?_,?_⟩
   .show ((a0 l.length).map (rdV l a next (Dg l)))[k]'(by rw[a7,a8];exact hlt)=_;rw[a3,ab,md]
   .exact DG (P:=True) ⟨λ_ _=>by rw[nm];rfl,λ_=>trivial⟩ t (by simp)
  .have hb:¬rdB l a next (Dg l) k=true:=by have hb:¬((a0 l.length).map (rdB l a next (Dg l)))[k]'(by grind)=true:=hb;rwa [a3,ab]at hb
   rw[GT hb]at nm md;have noN:(Jk (Dg l) next k a).isSome=true↔False:=by rw[nm];simp
   refine⟨hlt,Alo ⟨by grind,λhtt=>Ano hn (by omega) hlt λu hu=>⟨by grind,l.length-(k+1),by omega,rfl,rfl,by grind,snoc _ md.symm,?_⟩,λhtf=>⟨by grind,l.length-(k+1),by omega,rfl,rfl,by grind,snoc _ md.symm,?_⟩⟩⟩
   .have htt:t=true:=htt;refine DG (P:=¬u=true) ?_ _ (by simp [htt]);rw[hu,noN]
   .have htf:¬t=true:=htf;refine DG (P:=l[k].qJ∈names->(Jk (Dg l) next k a).isSome=true) Iff.rfl _ ?_;exact⟨λe=>qG (show false=true from e) (by decide),λe=>qG e.1 htf⟩
 grind
def ofB(b:Bool):Int:=if b=true then 1 else 0
theorem Azm(b:Bool):ofB b=0∨ofB b=1:=by cases b<;>simp [ofB]
theorem Apc{b:Bool}:ofB b=1↔b=true:=by cases b<;>simp [ofB]
theorem A4h{b:Bool}:ofB b=0↔b=false:=by cases b<;>simp [ofB]
def tvT(L:Ac)(t:Ae)(a:B.As):Int:=if (Bf L.Aa true t).1.Bool=true then ofB ((D3 L t).1 a) else ((D3 L t).2 a).getD 0
theorem Akh{vars:List Ar}{t:Ae}{l:List Af}(he:(Cp vars true t l).2=0):(5<=t.Op->t.Op<=9->(Cp vars true t l).1.Bool=true/\∀y∈l,y.Bool=true)/\(t.Op=10∨t.Op=11->∀a b,l=[a,b]->(Cp vars true t l).1.Bool=true/\a.Bool=b.Bool)/\(t.Op=12∨t.Op=13->∀a b,l=[a,b]->(Cp vars true t l).1.Bool=true/\a.Bool=false/\b.Bool=false)/\(14<=t.Op->t.Op<=17->∀a b,l=[a,b]->(Cp vars true t l).1.Bool=false/\a.Bool=false/\b.Bool=false)/\(t.Op=17->∀a b,l=[a,b]->∀p q,t.qZ=[p,q]->q.Op=1/\1<=q.N)/\(t.Op=18->∀a b c,l=[a,b,c]->a.Bool=true/\b.Bool=c.Bool/\(Cp vars true t l).1.Bool=b.Bool):=by
 have sB:∀{lo hi:Int},(Fe lo hi).1.Bool=false:=λ{lo hi}=>by unfold Fe;split<;>rfl
 have P5:5<=t.Op->t.Op<=9->Cp vars true t l=KA l:=λh1 h2=>by unfold Cp;rw[GT (by omega),GT (by omega),GT (by omega),UV ⟨h1,h2⟩]
 have PN:10<=t.Op->Cp vars true t l=if t.Op=18 then ifE l else if t.Op=10∨t.Op=11 then eqE l else Aq2 t.Op t.qZ l:=λh2=>by unfold Cp;rw[GT (by omega),GT (by omega),GT (by omega),GT (by omega)]
 have N:∀a b,l=[a,b]->12<=t.Op->t.Op<=17->a.Bool=false/\b.Bool=false/\Cp vars true t l=if t.Op=12∨t.Op=13 then (N6,0) else if t.Op=17 then Ai6 t.qZ else Oa t.Op a b:=λa b hl h1 h2=>by
  have hP:=PN (by omega);rw[GT (by omega),GT (by omega),hl]at hP;have hP:Cp vars true t [a,b]=if a.Bool=true∨b.Bool=true then (Sz,(13:Int)) else if t.Op=12∨t.Op=13 then (N6,0) else if t.Op=17 then Ai6 t.qZ else Oa t.Op a b:=hP
  grind
 refine⟨λh1 h2=>?_,λh1 a b hl=>?_,λh1 a b hl=>?_,λh1 h2 a b hl=>?_,λh1 a b hl p q hk=>?_,λh1 a b c hl=>?_⟩
 .rw[P5 h1 h2]at he ⊢;unfold KA at he ⊢;by_cases c:l.all (·.Bool)=true
  .rw[UV c];exact⟨rfl,λy hy=>ao.1 c y hy⟩
  .rw[GT c]at he;exact qG he (by decide)
 .have hP:=PN (by omega);rw[GT (by omega),UV h1,hl]at hP;have hP:Cp vars true t [a,b]=if a.Bool≠b.Bool then (Sz,(13:Int)) else (N6,0):=hP
  rw[hl]at he ⊢;by_cases c:a.Bool≠b.Bool
  .rw[hP,UV c]at he;exact qG he (by decide)
  .rw[hP,GT c];exact⟨rfl,ad.1 c⟩
 .grind
 .obtain⟨n1,n2,n3⟩:=N a b hl (by omega) h2;rw[n3,GT (by omega)];refine⟨?_,n1,n2⟩;split
  .unfold Ai6;split
   .split
    .rfl
    .exact sB
   .rfl
  grind[Oa]
 .obtain⟨n1,n2,n3⟩:=N a b hl (by omega) (by omega);rw[n3,GT (by omega),UV h1,hk]at he;have he:(if q.Op≠1∨q.N<1 then (Sz,(2:Int)) else Fe 0 (q.N-1)).2=0:=he;grind
 .have hP:=PN (by omega);rw[UV h1,hl]at hP;have hP:Cp vars true t [a,b,c]=if ¬a.Bool=true∨b.Bool≠c.Bool then (Sz,(13:Int)) else if b.Bool=true then (b,0) else Fe (GZ false b.Lo [(.i64,c.Lo)]) (GZ true b.Hi [(.i64,c.Hi)]):=hP
  grind
structure Aug(L:Ac)(a:B.As)(t:Ae):Prop where
 b:(Bf L.Aa true t).1.Bool=true->tvT L t a=ofB ((D3 L t).1 a)
 n:(Bf L.Aa true t).1.Bool=false->(D3 L t).2 a=some (tvT L t a)
 r:-1048576<=tvT L t a/\tvT L t a<=1048576
theorem Aug.of{L:Ac}{n0:Int}{a:B.As}{t:Ae}(s:Su L n0 t (Bf L.Aa true t).1)(ty:TyR (Bf L.Aa true t).1)(h1:EA L false L.Aa.length a=true)(h2:EA L true L.Aa.length a=true):Aug L a t:=by
 by_cases hb:(Bf L.Aa true t).1.Bool=true
 .have e:tvT L t a=ofB ((D3 L t).1 a):=UV hb;exact⟨λ_=>e,λh=>qG hb (by grind),by rw[e];rcases Azm ((D3 L t).1 a) with h|h<;>omega⟩
 .have hb':(Bf L.Aa true t).1.Bool=false:=by grind
  obtain⟨v,hv⟩:=s.tt hb' a h1 h2;have e:tvT L t a=v:=by grind[tvT]
  have:=s.rg hb' a v hv;obtain⟨t1,t2,t3,_⟩:=ty;exact⟨λh=>qG h hb,λ_=>by grind,by omega⟩
theorem Aqw{a:B.As}:∀(l:List B.Fn)(F:B.Fn),l.foldl C6 F a=(F a&&l.all λG=>G a)
 | [],F=>by simp
 |G::l,F=>by rw[ap,Aqw l];simp [C6,Bool.and_assoc]
theorem Asn{a:B.As}:∀(l:List B.Fn)(F:B.Fn),l.foldl Q4 F a=(F a ||l.any λG=>G a)
 | [],F=>by simp
 |G::l,F=>by rw[ap,Asn l];simp [Q4,Bool.or_assoc]
theorem A18{l:List Int}(h:∀x∈l,x=0∨x=1):∀{k:Nat},k<=l.length->0<=D0 l k/\D0 l k<=k/\(D0 l k=k↔∀i(_:i<l.length),i<k->l[i]=1)/\(0<D0 l k↔∃i,∃(_:i<l.length),i<k/\l[i]=1)
 |0,_=>⟨Int.le_refl _,Int.le_refl _,⟨λ_ i _ hi=>qG hi (aa _),λ_=>rfl⟩,⟨λhh=>qG hh (Int.lt_irrefl 0),λ⟨i,_,hi,_⟩=>qG hi (aa _)⟩⟩
 |k+1,hk=>by
  obtain⟨h1,h2,h3,h4⟩:=A18 h (k:=k) (by omega);have hx:=h _ (a6 (show k<l.length by omega));rw[Eo (by omega)];refine⟨by omega,by omega,⟨λe i hi hik=>?_,λhh=>?_⟩,⟨λe=>?_,λ⟨i,hi,hik,hh⟩=>?_⟩⟩
  .by_cases e2:i=k
   .subst e2;omega
   .exact h3.1 (by omega) i hi (by omega)
  .have e1:=h3.2 λi hi hik=>hh i hi (by omega);have e2:=hh k (by omega) (by omega);omega
  .by_cases e2:l[k]=1
   .exact⟨k,by omega,by omega,e2⟩
   .obtain⟨i,hi,hik,hh⟩:=h4.1 (by omega);exact⟨i,hi,by omega,hh⟩
  .by_cases e2:i=k
   .subst e2;omega
   .have:=h4.2 ⟨i,hi,by omega,hh⟩;omega
def At1(op:Int)(l:List Int):Int:=
 if op=5 then 1-l.getD 0 0 else if op=6 then ofB (decide (D0 l l.length=l.length)) else if op=7 then ofB (decide (0<D0 l l.length))
 else if op=8 then (if l.getD 0 0=0 then 1 else ofB (decide (l.getD 1 0=1))) else if op=9∨op=10 then ofB (decide (l.getD 0 0=l.getD 1 0)) else if op=11 then ofB (decide (¬l.getD 0 0=l.getD 1 0))
 else if op=12 then ofB (decide (l.getD 0 0<l.getD 1 0)) else if op=13 then ofB (decide (l.getD 0 0<=l.getD 1 0)) else if op=18 then (if l.getD 0 0=1 then l.getD 1 0 else l.getD 2 0) else opF op (l.getD 0 0) (l.getD 1 0)
theorem Avl{x y:Bool}:ofB x=ofB y↔x=y:=by cases x<;>cases y<;>simp [ofB]
theorem Adb{L:Ac}{a:B.As}{t:Ae}(ok:Yk t)(h5:5<=t.Op)(he:(Cp L.Aa true t (t.qZ.map λk=>(Bf L.Aa true k).1)).2=0)(et:Bf L.Aa true t=Cp L.Aa true t (t.qZ.map λk=>(Bf L.Aa true k).1))(tv:Aug L a t)(kv:∀k∈t.qZ,Aug L a k):tvT L t a=At1 t.Op (t.qZ.map λk=>tvT L k a):=by
 obtain⟨o1,o18,l4,l5,l64,l8,l18⟩:=ok.len;obtain⟨k59,k10,k12,k14,k17,k18⟩:=Akh he;rw[<-et]at k59 k10 k12 k14 k18;have hT:(D3 L t).1=opT L t.Op t.N t.qJ t.qZ (Hv L t.qZ):=by rw[YA]
 have hN:(D3 L t).2=opN L t.Op t.N t.qJ (Hv L t.qZ):=by rw[YA]
 have g1:∀{p:Ae},t.qZ=[p]->Rh (Hv L t.qZ) 0=(D3 L p).1:=λ{p}e=>by rw[e,HO];rfl
 rcases(show t.Op=5∨t.Op=6∨t.Op=7∨(8<=t.Op/\t.Op<=17)∨t.Op=18 by omega) with o|o|o|o|o
 .obtain⟨p,hp⟩:∃p,t.qZ=[p]:=by
   match t.qZ,l5 o with
   | [p],_=>exact⟨p,rfl⟩
  obtain⟨y1,y2⟩:=k59 (by omega) (by omega);have bp:=y2 (Bf L.Aa true p).1 (by rw[hp];simp);have vp:=(kv p (by rw[hp];simp)).b bp;rw[tv.b y1,hT,o];have e1:opT L 5 t.N t.qJ t.qZ (Hv L t.qZ) a=!(D3 L p).1 a:=by rw[<-g1 hp];rfl
  rw[e1,hp];show ofB _=1-tvT L p a;rw[vp];cases (D3 L p).1 a<;>rfl
 iterate 2
  .obtain⟨y1,y2⟩:=k59 (by omega) (by omega)
   have vk:∀i(hi:i<t.qZ.length),tvT L t.qZ[i] a=ofB (Rh (Hv L t.qZ) i a):=λi hi=>by rw[Afq hi];exact(kv _ (a6 hi)).b (y2 _ (List.mem_map_of_mem (a6 hi)))
   have s01:=(A18 (l:=t.qZ.map λk=>tvT L k a) (λx hx=>by obtain⟨k,hk,rfl⟩:=af.1 hx;obtain⟨i,hi,rfl⟩:=List.getElem_of_mem hk;show tvT L t.qZ[i] a=0∨tvT L t.qZ[i] a=1;rw[vk i hi];exact Azm _) (Nat.le_refl _)).2.2
   rw[tv.b y1,hT,o]
   first
    |show ofB (((a0 t.qZ.length).map (Rh (Hv L t.qZ))).foldl C6 (λ_=>true) a)=ofB (decide _)
     rw[Avl,Aqw,Bool.true_and,aq,decide_eq_true_iff,s01.1,ao]
     refine⟨λh1 i hi _=>?_,λh1 F hF=>?_⟩
     .have hi:i<t.qZ.length:=by simpa using hi
      rw[a3,vk i hi,Apc]
      exact h1 _ (af.2 ⟨i,ah.2 hi,rfl⟩)
     .obtain⟨i,hi,rfl⟩:=af.1 hF
      have hi:=ah.1 hi
      have:=h1 i (by simpa using hi) (by simpa using hi)
      rw[a3,vk i hi,Apc]at this
      exact this
    |show ofB (((a0 t.qZ.length).map (Rh (Hv L t.qZ))).foldl Q4 (λ_=>false) a)=ofB (decide _)
     rw[Avl,Asn,Bool.false_or,aq,decide_eq_true_iff,s01.2,List.any_eq_true]
     refine⟨λ⟨F,hF,h1⟩=>?_,λ⟨i,hi,_,h1⟩=>?_⟩
     .obtain⟨i,hi,rfl⟩:=af.1 hF
      have hi:=ah.1 hi
      exact⟨i,by simpa using hi,by simpa using hi,by rw[a3,vk i hi,Apc];exact h1⟩
     .have hi:i<t.qZ.length:=by simpa using hi
      rw[a3,vk i hi,Apc]at h1
      exact⟨_,af.2 ⟨i,ah.2 hi,rfl⟩,h1⟩
 .obtain⟨p,q,hk⟩:=kl2 (l8 (by omega) (by omega));have mp:p∈t.qZ:=by rw[hk];simp
  have mq:q∈t.qZ:=by rw[hk];simp
  have F0:Rh (Hv L t.qZ) 0=(D3 L p).1:=by rw[hk,HO];rfl
  have F1:Rh (Hv L t.qZ) 1=(D3 L q).1:=by rw[hk,HO];rfl
  have V0:svV (Hv L t.qZ) 0=(D3 L p).2:=by rw[hk,HO];rfl
  have V1:svV (Hv L t.qZ) 1=(D3 L q).2:=by rw[hk,HO];rfl
  have tl:(t.qZ.map λk=>(Bf L.Aa true k).1)=[(Bf L.Aa true p).1,(Bf L.Aa true q).1]:=by rw[hk];rfl
  have kb:A0u L t.qZ=(Bf L.Aa true p).1.Bool:=by rw[hk];rfl
  have hv:∀op,At1 op (t.qZ.map λk=>tvT L k a)=At1 op [tvT L p a,tvT L q a]:=λop=>by rw[hk];rfl
  rw[hv];rcases(show t.Op=8∨t.Op=9∨(t.Op=10∨t.Op=11)∨(t.Op=12∨t.Op=13)∨(14<=t.Op/\t.Op<=17) by omega) with o|o|o|o|o
  iterate 2
   .obtain⟨y1,y2⟩:=k59 (by omega) (by omega)
    have bp:=y2 (Bf L.Aa true p).1 (by rw[tl];simp)
    have bq:=y2 (Bf L.Aa true q).1 (by rw[tl];simp)
    rw[tv.b y1,hT,o,(kv p mp).b bp,(kv q mq).b bq]
    first
     |rw[show opT L 8 t.N t.qJ t.qZ (Hv L t.qZ)=Tg (Rh (Hv L t.qZ) 0) (Rh (Hv L t.qZ) 1) from rfl,F0,F1]
     |rw[show opT L 9 t.N t.qJ t.qZ (Hv L t.qZ)=Th (Rh (Hv L t.qZ) 0) (Rh (Hv L t.qZ) 1) from rfl,F0,F1]
    simp only[Tg,Th]
    generalize (D3 L p).1 a=x
    generalize (D3 L q).1 a=y
    revert x y
    decide
  .obtain⟨y1,y2⟩:=k10 o _ _ tl;rw[tv.b y1,hT];by_cases bp:(Bf L.Aa true p).1.Bool=true
   .rw[(kv p mp).b bp,(kv q mq).b (y2▸bp)];have e1:opT L t.Op t.N t.qJ t.qZ (Hv L t.qZ)=eqF t.Op (D3 L p).1 (D3 L q).1:=by rcases o with o|o<;>(rw[o,<-F0,<-F1];unfold opT;simp [kb,bp])
    rw[e1];rcases o with o|o <;>
    .rw[o];first
      |rw[show eqF 10 (D3 L p).1 (D3 L q).1=Th (D3 L p).1 (D3 L q).1 from UV rfl]
      |rw[show eqF 11 (D3 L p).1 (D3 L q).1=S8 (D3 L p).1 (D3 L q).1 from GT (by decide)]
     simp only[Th,S8];generalize (D3 L p).1 a=x;generalize (D3 L q).1 a=y;revert x y;decide
   .have bp:(Bf L.Aa true p).1.Bool=false:=by simpa using bp
    have vp:=(kv p mp).n bp;have vq:=(kv q mq).n (y2▸bp);have e1:opT L t.Op t.N t.qJ t.qZ (Hv L t.qZ)=WR (Aca t.Op) (D3 L p).2 (D3 L q).2:=by rcases o with o|o<;>(rw[o,<-V0,<-V1];unfold opT;simp [kb,bp])
    rw[e1];unfold WR;rw[vp,vq];rcases o with o|o<;>(rw[o];simp [Aca,At1,ofB])
  .obtain⟨y1,y2,y3⟩:=k12 o _ _ tl;rw[tv.b y1,hT];have vp:=(kv p mp).n y2;have vq:=(kv q mq).n y3;have e1:opT L t.Op t.N t.qJ t.qZ (Hv L t.qZ)=WR (Aca t.Op) (D3 L p).2 (D3 L q).2:=by rcases o with o|o<;>(rw[o,<-V0,<-V1];unfold opT;simp)
   rw[e1];unfold WR;rw[vp,vq];rcases o with o|o<;>(rw[o];simp [Aca,At1,ofB])
  .obtain⟨y1,y2,y3⟩:=k14 o.1 o.2 _ _ tl;have vp:=(kv p mp).n y2;have vq:=(kv q mq).n y3;have h1:=tv.n y1;have e1:opN L t.Op t.N t.qJ (Hv L t.qZ)=ZE (opF t.Op) (D3 L p).2 (D3 L q).2:=by rw[<-V0,<-V1];unfold opN;rw[GT (by omega),GT (by omega),GT (by omega)]
   rw[hN,e1]at h1;unfold ZE at h1;rw[vp,vq]at h1;have h1:some (opF t.Op (tvT L p a) (tvT L q a))=some (tvT L t a):=h1;rw[<-ae h1];unfold At1;rw[GT (by omega),GT (by omega),GT (by omega),GT (by omega),GT (by omega),GT (by omega),GT (by omega),GT (by omega),GT (by omega)];rfl
 .obtain⟨p,q,r,hk⟩:=kl3 (l18 o);have mp:p∈t.qZ:=by rw[hk];simp
  have mq:q∈t.qZ:=by rw[hk];simp
  have mr:r∈t.qZ:=by rw[hk];simp
  have F0:Rh (Hv L t.qZ) 0=(D3 L p).1:=by rw[hk,HO];rfl
  have F1:Rh (Hv L t.qZ) 1=(D3 L q).1:=by rw[hk,HO];rfl
  have F2:Rh (Hv L t.qZ) 2=(D3 L r).1:=by rw[hk,HO];rfl
  have V1:svV (Hv L t.qZ) 1=(D3 L q).2:=by rw[hk,HO];rfl
  have V2:svV (Hv L t.qZ) 2=(D3 L r).2:=by rw[hk,HO];rfl
  have tl:(t.qZ.map λk=>(Bf L.Aa true k).1)=[(Bf L.Aa true p).1,(Bf L.Aa true q).1,(Bf L.Aa true r).1]:=by rw[hk];rfl
  obtain⟨y1,y2,y3⟩:=k18 o _ _ _ tl;have vp:=(kv p mp).b y1;have hv:At1 t.Op (t.qZ.map λk=>tvT L k a)=if tvT L p a=1 then tvT L q a else tvT L r a:=by rw[hk,o];rfl
  rw[hv,vp];by_cases bq:(Bf L.Aa true q).1.Bool=true
  .rw[tv.b (y3.trans bq),(kv q mq).b bq,(kv r mr).b (y2▸bq),hT,o];rw[show opT L 18 t.N t.qJ t.qZ (Hv L t.qZ)=CU (Rh (Hv L t.qZ) 0) (Rh (Hv L t.qZ) 1) (Rh (Hv L t.qZ) 2) from rfl,F0,F1,F2];simp only[CU];generalize (D3 L p).1 a=x;generalize (D3 L q).1 a=y;generalize (D3 L r).1 a=z;revert x y z;decide
  .have bq:(Bf L.Aa true q).1.Bool=false:=by simpa using bq
   have vq:=(kv q mq).n bq;have vr:=(kv r mr).n (y2▸bq);have h1:=tv.n (y3.trans bq);rw[hN,o,show opN L 18 t.N t.qJ (Hv L t.qZ)=ifV (Rh (Hv L t.qZ) 0) (svV (Hv L t.qZ) 1) (svV (Hv L t.qZ) 2) from rfl,F0,V1,V2]at h1;unfold ifV at h1;rw[vq,vr]at h1;by_cases c:(D3 L p).1 a=true
   .rw[UV c]at h1;rw[UV (Apc.2 c)];exact(ae h1).symm
   .rw[GT c]at h1;rw[GT λh=>c (Apc.1 h)];exact(ae h1).symm
section
variable {H:HY} {X:PX}
theorem PE{y:Bool}{Q:Int×Unit->UU}(h:Q (ofB y,()) () H):qK Gj Fi (y,()) H Q X:=by grind[Ahe,Abh,ofB]
theorem Aq4{n:Int}{Q:Bool×Unit->UU}(hn:-1048576<=n/\n<=1048576)(h:Q (false,()) () H):qK Ef C7 (n,()) H Q X:=by grind[Akb,Adf,decide_eq_false]
theorem Acy{n:Int}{Q:Int×Unit->UU}(hn:-1048576<=n/\n<=1048576)(h:Q (max n (-n),()) () H):qK NT Kz (n,()) H Q X:=by refine wF Tryz.f181 {} (?_:IK n->IK (-n)/\Q (GZ true n [(.i64,-n)],()) () H);exact λ_=>⟨A7.2 (by omega),h⟩
theorem A13{m x:Int}(h1:1<=m)(h2:m<=1048576)(h3:x<=1048576):Bn .i64 (ar 9007199254740992 m)/\¬ar 9007199254740992 m<x:=by rw[Int.tdiv_eq_ediv_of_nonneg (by decide)];have e1:1048576<=(9007199254740992:Int)/m:=(Int.le_ediv_iff_mul_le (by omega)).2 (by omega);have e2:(9007199254740992:Int)/m<=9007199254740992:=Int.ediv_le_self _ (by decide);grind[A7]
structure Att(L:Ac)(next:Bool)(a:B.As)(s:List Int):Prop where
 len:s.length=L.Aa.length
 at_:∀i(_:i<L.Aa.length)(h:i<s.length),Jk L next i a=some s[i]
theorem Att.all{L:Ac}(hL:Ku L){next:Bool}{a:B.As}{s:List Int}(h:Att L next a s):EA L next L.Aa.length a=true:=
 (OS hL).2 λi hi=>by rw[h.at_ i hi (by rw[h.len];exact hi)];rfl
theorem A1s{L:Ac}(hL:Ku L){a:B.As}{t:Ae}{s:List Int}(o:t.Op=3∨t.Op=4)(he:(R5 L.Aa t.Op t.qJ true).2=0)(et:Bf L.Aa true t=R5 L.Aa t.Op t.qJ true)(tv:Aug L a t)(hs:Att L (decide (t.Op=4)) a s):∃(hi:Cl L.Aa t.qJ<L.Aa.length)(h:Cl L.Aa t.qJ<s.length),tvT L t a=s[Cl L.Aa t.qJ]/\(L.Aa[Cl L.Aa t.qJ].Bool=true->s[Cl L.Aa t.qJ]=0∨s[Cl L.Aa t.qJ]=1):=by
 have hi:Cl L.Aa t.qJ<L.Aa.length:=a5 λh=>by grind[R5]
 have h:Cl L.Aa t.qJ<s.length:=by rw[hs.len];exact hi
 have nv:=hs.at_ _ hi h;refine⟨hi,h,?_⟩;have e1:R5 L.Aa t.Op t.qJ true=if L.Aa[Cl L.Aa t.qJ].Bool=true then (N6,0) else Fe L.Aa[Cl L.Aa t.qJ].Lo L.Aa[Cl L.Aa t.qJ].Hi:=by grind[R5]
 have ni:=(Jx hL hi).1 nv;by_cases hb:L.Aa[Cl L.Aa t.qJ].Bool=true
 .rw[UV hb]at e1;have v01:s[Cl L.Aa t.qJ]=0∨s[Cl L.Aa t.qJ]=1:=by grind[PW,XN]
  refine⟨?_,λ_=>v01⟩;rw[tv.b (by rw[et,e1])];have e2:(D3 L t).1 a=isF L (decide (t.Op=4)) (Cl L.Aa t.qJ) 1 a:=by rw[YA];unfold opT;rw[GT (by omega),UV o];rfl
  rw[e2];have i1:=Jx hL hi (next:=decide (t.Op=4)) (a:=a) (n:=1);rw[PW hb,XN hb,nv]at i1;rcases v01 with e|e
  .grind[A4h,isF,decide,Cl,ae]
  .rw[e]at i1 ⊢;exact Apc.2 (i1.1 rfl).2
 .rw[GT hb]at e1;refine⟨?_,λh=>qG h hb⟩;have sB:∀{lo hi:Int},(Fe lo hi).1.Bool=false:=λ{lo hi}=>by unfold Fe;split<;>rfl
  have h1:=tv.n (by grind);have e2:(D3 L t).2=Jk L (decide (t.Op=4)) (Cl L.Aa t.qJ):=by rw[YA];unfold opN;rw[GT (by omega),UV o]
  simp_all
set_option maxHeartbeats 1000000 in
theorem Ai9{L:Ac}{a:B.As}{s n:List Int}{X:PX}(hL:Ku L)(h8:2*CR L<=8)(hv:L.Aa.length<=1000)(hs:Att L false a s)(hn:Att L true a n):∀(z:Nat)(t:Ae){H:HY}{Q:Int×Bool×Unit->UU},SizeOf.sizeOf t<z->Yk t->DV t<=40->(Bf L.Aa true t).2=0->Q (tvT L t a,true,()) () H->qK JY IC (L.Aa,t,s,n,()) H Q X
 |0,_,_,_,hz,_,_,_,_=>qG hz (aa _)
 |z+1,t,H,Q,hz,ok,hsz,he,h=>by
  have a1:=hs.all hL;have a2:=hn.all hL;have tvo:∀k,Yk k->DV k<=40->(Bf L.Aa true k).2=0->Aug L a k:=λk o1 o2 o3=>.of (Alj (n0:=8) hL h8 h8 hv _ k (a9 _) o1 o2 o3) (SH _ k (a9 _) o3) a1 a2;have tv:=tvo t ok hsz he;have et0:=Yx L.Aa true t;have ek:(Ct L.Aa true t.qZ).2=0:=a5 λhh=>by grind
  obtain⟨k1,k2⟩:=Xj ek;have et:Bf L.Aa true t=Cp L.Aa true t (t.qZ.map λk=>(Bf L.Aa true k).1):=by rw[et0,UV ek,k1]
  have hp:(Cp L.Aa true t (t.qZ.map λk=>(Bf L.Aa true k).1)).2=0:=by grind
  have kv:∀k∈t.qZ,Aug L a k:=λk hk=>tvo k (ok.k k hk) (by have:=Afp hk;omega) (k2 k hk);obtain⟨o1,o18,l64,l4,l5,l8,l18⟩:=Ak9 ok;have tr:=tv.r;have sB:∀{lo hi:Int},(Fe lo hi).1.Bool=false:=λ{lo hi}=>by unfold Fe;split<;>rfl
  have far:∀{v:Int}{H':HY},v=tvT L t a->H'=H->qK Ef C7 (v,()) H' (λ(b:Bool×Unit)io H'=>Q (v,decide ¬b.1=true,()) () H') X:=λ{v H'}e eH=>by grind[Aq4]
  apply Afx;unfold Aau;have nm:(t.Op=3∨t.Op=4)->R5 L.Aa t.Op t.qJ true=Cp L.Aa true t (t.qZ.map λk=>(Bf L.Aa true k).1):=λo=>by unfold Cp;rw[GT (by omega),GT (by omega),UV o]
  refine⟨λe=>?_,λn1=>⟨λe=>?_,λn2=>⟨λe=>?_,λn3=>⟨λe=>?_,λn4=>?_⟩⟩⟩⟩
  .have hb:(Bf L.Aa true t).1.Bool=false:=by simp_all[Cp]
   have h1:=tv.n hb;rw[show (D3 L t).2=λ_=>some t.N by rw[YA];unfold opN;grind]at h1;grind
  .have hb:(Bf L.Aa true t).1.Bool=true:=by rw[et];unfold Cp;rw[GT n1,UV e]
   have h1:=tv.b hb;rw[show (D3 L t).1=λ_=>decide (t.N=1) by rw[YA];unfold opT;grind]at h1;have r01:t.N=0∨t.N=1:=by obtain⟨le,mo,_,w2,_,_,_,_,b2,_⟩:=Yt t (few:=0) (many:=0) (by rw[e];rfl);have b2:=b2 e;have hw:=ok.w;omega
   have:tvT L t a=t.N:=by rw[h1];rcases r01 with e|e<;>(rw[e];rfl)
   grind
  iterate 2
   .obtain⟨hi,hl,e1,e2⟩:=A1s hL (s:=if t.Op=3 then s else n) (by omega) (by grind) (et.trans (nm (by omega)).symm) tv (by
     first
      |(rw[UV e,decide_eq_false (by omega)];exact hs)
      |grind)
    have e0:((Cl L.Aa t.qJ:Nat):Int).toNat=Cl L.Aa t.qJ:=am _;have hi':((Cl L.Aa t.qJ:Nat):Int).toNat<L.Aa.length:=by omega
    have ev:L.Aa[((Cl L.Aa t.qJ:Nat):Int).toNat]'hi'=L.Aa[Cl L.Aa t.qJ]:=by rfl
    have nn:(0:Int)<=((Cl L.Aa t.qJ:Nat):Int):=ak _;refine Aj6 hv ?_;rw[UV hi];refine⟨λo=>?_,λo=>?_⟩;all_goals first
     |exact qG e (by omega)
     |skip
    all_goals
     first
      |rw[UV e]at hl
       simp only[UV e]at e1 e2
      |rw[GT o]at hl
       simp only[GT o]at e1 e2
     intro _
     have hl':=hl
     rw[<-e0]at hl'
     refine⟨λ_=>nn,hl',λ_=>⟨λ_=>nn,hi',λhb=>PE ?_,λhb=>?_⟩⟩
     .rw[ev]at hb
      have:=e2 hb
      simp only[e0]
      rw[e1]at h
      rcases this with e3|e3<;>(rw[e3]at h ⊢;exact h)
     grind
  .have vop:=Adb ok (by omega) hp et tv kv;have vr:∀i(hi:i<(t.qZ.map λk=>tvT L k a).length),-1048576<=(t.qZ.map λk=>tvT L k a)[i]/\(t.qZ.map λk=>tvT L k a)[i]<=1048576:=λi hi=>by rw[a3];exact(kv _ (a6 _)).r
   have k17:=(Akh hp).2.2.2.2.1;have vm:t.Op=17->∀x y,(t.qZ.map λk=>tvT L k a)=[x,y]->1<=y:=λo x y hxy=>by
    obtain⟨p,q,hk⟩:=kl2 (l8 (by omega) (by omega));obtain⟨c1,c2⟩:=k17 o _ _ (by rw[hk];rfl) p q hk;rw[hk]at hxy;have e1:tvT L q a=y:=by have:[tvT L p a,tvT L q a]=[x,y]:=hxy;simp at this;exact this.2
    have hb:(Bf L.Aa true q).1.Bool=false:=((Akh hp).2.2.2.1 (by omega) (by omega) (Bf L.Aa true p).1 (Bf L.Aa true q).1 (by rw[hk];rfl)).2.2;have h1:=(kv q (by rw[hk];simp)).n hb;rw[show (D3 L q).2=λ_=>some q.N by rw[YA];unfold opN;exact UV c1]at h1;grind
   have ll:(t.qZ.map λk=>tvT L k a).length=t.qZ.length:=a7 ..;refine⟨λm x=>m=t.qZ.length-x.2.2.1/\x.2.2.1<=t.qZ.length/\x.1=(t.qZ.map λk=>tvT L k a).take x.2.2.1/\(x.2.1=if t.Op=6∨t.Op=7 then D0 (t.qZ.map λk=>tvT L k a) x.2.2.1 else 0)/\(-1048576*(x.2.2.1:Int)<=x.2.1/\x.2.1<=1048576*(x.2.2.1:Int)),⟨_,rfl,rfl,ac _,rfl,by show 0=if t.Op=6∨t.Op=7 then D0 _ 0 else 0;split<;>rfl,by show -1048576*((0:Nat):Int)<=0/\(0:Int)<=1048576*((0:Nat):Int);omega⟩,?_⟩;rintro m ⟨l,sm,i,_⟩ ⟨hm0,hi0,hl0,hs0,hb0⟩ _;have hm:m=t.qZ.length-i:=hm0;have hi:i<=t.qZ.length:=hi0;have hl:l=(t.qZ.map λk=>tvT L k a).take i:=hl0;have hsm:sm=if t.Op=6∨t.Op=7 then D0 (t.qZ.map λk=>tvT L k a) i else 0:=hs0
   have hbd:-1048576*(i:Int)<=sm/\sm<=1048576*(i:Int):=hb0;refine⟨λhlt0 _=>?_,λhge0=>?_⟩
   .have hlt:i<t.qZ.length:=hlt0;have mi:=a6 hlt;have kr:=(kv _ mi).r;have ln:l.length=i:=by rw[hl,List.length_take];omega
    have hl1:l++[tvT L t.qZ[i] a]=(t.qZ.map λk=>tvT L k a).take (i+1):=by rw[a4 (by omega),<-hl,a3]
    have ss:(t.Op=6∨t.Op=7)->sm+tvT L t.qZ[i] a=if t.Op=6∨t.Op=7 then D0 (t.qZ.map λk=>tvT L k a) (i+1) else 0:=λo=>by rw[UV o]at hsm ⊢;rw[Eo (by omega),a3,hsm]
    refine⟨hlt,Ai9 hL h8 hv hs hn z t.qZ[i] (by have:=Ms mi;omega) (ok.k _ mi) (by have:=Afp mi;omega) (k2 _ mi) ⟨λhn=>qG rfl hn,λ_=>⟨by show (l.length+1)*8<=_;omega,λe _ _=>?_,λe6=>⟨λe _ _=>?_,λe7=>?_⟩⟩⟩⟩;iterate 2
     .exact⟨A7.2 (by show _<=sm+tvT L t.qZ[i] a/\sm+tvT L t.qZ[i] a<=_;omega),by show i+1<=_;omega,t.qZ.length-(i+1),by omega,rfl,rfl,by show i+1<=_;omega,hl1,ss (by omega),by show -1048576*((i+1:Nat):Int)<=sm+tvT L t.qZ[i] a/\sm+tvT L t.qZ[i] a<=1048576*((i+1:Nat):Int);omega⟩
    .refine⟨by show i+1<=_;omega,t.qZ.length-(i+1),by omega,rfl,rfl,by show i+1<=_;omega,hl1,?_,by show -1048576*((i+1:Nat):Int)<=sm/\sm<=1048576*((i+1:Nat):Int);omega⟩;show sm=_;rw[hsm,GT (by omega),GT (by omega)]
   .have hge:¬i<t.qZ.length:=hge0;have ei:i=t.qZ.length:=by omega
    rw[ai (by omega)]at hl;rw[<-hl]at vop vr hsm ll;have vm:=λo x y=>vm o x y;rw[<-hl]at vm;rw[show i=l.length by omega]at hsm;have d0:∀{k:Int},0<=k->(True->(0:Int)<=k):=λ{k}hk _=>hk;refine⟨λe=>?_,λn5=>⟨λe _=>?_,λn6=>⟨λe=>?_,λn7=>?_⟩⟩⟩
    .obtain⟨x,rfl⟩:∃x,l=[x]:=by
      match l,ll.trans (l5 e) with
      | [x],_=>exact⟨x,rfl⟩
     have b:-1048576<=x/\x<=1048576:=vr 0 (by show 0<1;decide);exact⟨λ_=>by decide,by show 0<1;decide,by show 0<1;decide,λ_=>⟨A7.2 (by show _<=1-x/\1-x<=_;omega),far (by rw[vop,e];rfl) rfl⟩⟩
    .rw[UV (.inl e)]at hsm;exact PE (far (by rw[vop,e,hsm];rfl) rfl)
    .rw[UV (.inr e)]at hsm;exact PE (far (by rw[vop,e,hsm];rfl) rfl)
    by_cases o18':t.Op=18
    .obtain⟨x,y,w,rfl⟩:=kl3 (ll.trans (l18 o18'));refine⟨λe=>qG e (by omega),λ_=>⟨λe=>qG e (by omega),λ_=>⟨λe=>qG e (by omega),λ_=>⟨λe=>qG e (by omega),λ_=>⟨λe=>qG e (by omega),λ_=>⟨λe=>qG e (by omega),λ_=>⟨λe=>qG e (by omega),λ_=>⟨λe=>qG e (by omega),λ_=>⟨λe=>qG e (by omega),λ_=>⟨λe=>qG e (by omega),λ_=>⟨λ_=>?_,λhh=>qG o18' hh⟩⟩⟩⟩⟩⟩⟩⟩⟩⟩⟩;refine⟨λ_=>by decide,by show 2<3;decide,by show 2<3;decide,λ_=>by decide,by show 0<3;decide,by show 0<3;decide,λe1=>⟨λ_=>by decide,by show 1<3;decide,by show 1<3;decide,far ?_ rfl⟩,λe1=>far ?_ rfl⟩
     .have e1:x=1:=e1;rw[vop,o18',e1];rfl
     .have e1:¬x=1:=e1;rw[vop,o18'];exact(GT e1:(if x=1 then y else w)=w).symm
    obtain⟨x,y,rfl⟩:=kl2 (ll.trans (l8 (by omega) (by omega)));have bx:-1048576<=x/\x<=1048576:=vr 0 (by show 0<2;decide);have by_:-1048576<=y/\y<=1048576:=vr 1 (by show 1<2;decide);have h0:Int.toNat (0:Int)<[x,y].length:=by show 0<2;decide
    have h1:Int.toNat (1:Int)<[x,y].length:=by show 1<2;decide
    have mb:=Agh (x:=x) (y:=y) (by omega) (by omega);refine⟨λe=>?_,λn8=>⟨λe=>?_,λn9=>⟨λe=>?_,λn10=>⟨λe=>?_,λn11=>⟨λe=>?_,λn12=>⟨λe=>?_,λn13=>⟨λe=>?_,λn14=>⟨λe=>?_,λn15=>⟨λe=>?_,λn16=>⟨λe=>?_,λn17=>⟨λe=>qG e o18',λ_=>qG (show t.Op<=17 by omega) (by omega)⟩⟩⟩⟩⟩⟩⟩⟩⟩⟩⟩
    .refine⟨λ_=>by decide,h0,h0,λe1=>PE (far ?_ rfl),λe1=>⟨λ_=>by decide,h1,h1,PE (far ?_ rfl)⟩⟩
     .have e1:x=0:=e1;rw[vop,e,e1];rfl
     .have e1:¬x=0:=e1;rw[vop,e];exact(GT e1:(if x=0 then 1 else ofB (decide (y=1)))=_).symm
    iterate 5
     .exact⟨λ_=>by decide,h0,λ_=>by decide,h1,⟨h0,h1,PE (far (by rw[vop,e];rfl) rfl)⟩,h1,h0,PE (far (by rw[vop,e];rfl) rfl)⟩
    .exact⟨λ_=>by decide,h0,h0,λ_=>by decide,h1,h1,λ_ _=>⟨A7.2 (by show _<=x+y/\x+y<=_;omega),far (by rw[vop,e];rfl) rfl⟩⟩
    .exact⟨λ_=>by decide,h0,h0,λ_=>by decide,h1,h1,λ_ _=>⟨A7.2 (by show _<=x-y/\x-y<=_;omega),far (by rw[vop,e];rfl) rfl⟩⟩
    .have mul:∀{H':HY},H'=H->Bn .i64 (x*y)/\qK Ef C7 (x*y,()) H' (λ(b:Bool×Unit)io H'=>Q (x*y,decide ¬b.1=true,()) () H') X:=λ{H'}eH=>⟨A7.2 (by omega),far (by rw[vop,e];rfl) eH⟩
     have div:¬x=0->Bn .i64 (max x (-x))->¬max x (-x)=0/\Bn .i64 (ar 9007199254740992 (max x (-x)))/\¬ar 9007199254740992 (max x (-x))<max y (-y):=λhx _=>by have:=A13 (m:=max x (-x)) (x:=max y (-y)) (by omega) (by omega) (by omega);exact⟨by omega,this.1,this.2⟩
     refine⟨λ_=>by decide,h0,h0,λhx=>⟨λ_=>by decide,h1,h1,λ_=>by decide,h0,Acy by_ ⟨h0,Acy bx λhk=>?_⟩,h0,Acy by_ (Acy bx λhk=>?_)⟩,λ_=>Sf ⟨λ_=>by decide,h0,h0,λ_=>by decide,h1,h1,λ_ _=>mul rfl⟩⟩;all_goals
      have hx:¬x=0:=hx
      obtain⟨q1,q2,q3⟩:=div hx hk
      exact⟨q1,q2,λhh=>qG hh q3,λ_=>⟨λ_=>by decide,h0,h0,λ_=>by decide,h1,h1,λ_ _=>mul rfl⟩⟩
    .have y1:=vm e x y rfl;have m1:=UA (x:=x) y1;have m2:=UA (x:=x.tmod y+y) y1;refine⟨λ_=>by decide,h0,h0,λ_=>by decide,h1,h1,λ_ _=>⟨by show ¬y=0;omega,A7.2 (by show _<=x.tmod y/\x.tmod y<=_;omega),λ_=>by decide,h1,h1,λ_ _=>⟨A7.2 (by show _<=x.tmod y+y/\x.tmod y+y<=_;omega),λ_=>by decide,h1,h1,λ_ _=>⟨by show ¬y=0;omega,A7.2 (by show _<=(x.tmod y+y).tmod y/\(x.tmod y+y).tmod y<=_;omega),far (by rw[vop,e];rfl) rfl⟩⟩⟩⟩
end
theorem Got.self{M M':Mn}{F:B.Fn}{r:Int}(n:Got M M' r F):M'.Aq r=some F:=by rw[n.Aq,UV rfl]
section
variable {vars:List Ar} {t:Ae}
theorem Ay9{next:Bool}{k:Ae}(he:(Bf vars next t).2=0)(hk:k∈t.qZ):(Bf vars next k).2=0:=by
 have et0:=Yx vars next t;have ek:(Ct vars next t.qZ).2=0:=a5 λhh=>by grind
 grind[Xj]
theorem A1y{next:Bool}{op:Int}{nm:ByteArray}(h:Ata op nm t)(o:op=3∨op=4):(Bf vars next t).2=0->Cl vars nm<vars.length:=by
 induction h with
 |@here t e1 e2=>
  intro he;have et0:=Yx vars next t;have ek:(Ct vars next t.qZ).2=0:=a5 λhh=>by grind
  rw[et0,UV ek]at he;have hp:Cp vars next t (Ct vars next t.qZ).1=R5 vars t.Op t.qJ next:=by unfold Cp;rw[GT (by omega),GT (by omega),UV (by omega)]
  rw[hp,e2]at he;refine a5 λhh=>?_;grind[R5]
 |kid hk _ ih=>grind[Ay9]
theorem Arl{nm:ByteArray}(h:Cl vars nm<vars.length):vars[Cl vars nm].qJ=nm:=of_decide_eq_true (List.findIdx_getElem (xs:=vars) (p:=λv:Ar=>decide (v.qJ=nm)) (w:=h))
variable {H:HY} {X:PX}
theorem Ap8{L:Ac}{a:B.As}{s n:List Int}{Q:Int×Bool×Unit->UU}(hL:Ku L)(h8:2*CR L<=8)(hv:L.Aa.length<=1000)(hs:Att L false a s)(hn:Att L true a n)(hz:DV t<=40)(he:(Nq L.Aa true t).2=0)(h:Q (tvT L t a,true,()) () H):qK Ac4 Xc (L.Aa,t,s,n,()) H Q X:=by
 refine wF Tryz.f49 {im:=[5]} (?_:qK XA TI (L.Aa,t,true,()) H (λ(b:Af×Int×UT)_ G=>(¬b.2.1=0->Q (0,false,()) () G)/\(¬¬b.2.1=0->s.length<=2^63-1->L.Aa.length<=2^63-1->(¬s.length=L.Aa.length->Q (0,false,()) () G)/\(¬¬s.length=L.Aa.length->qK Tr LV (t,()) G (λ(b:Bool×UT)_ G=>(b.1->n.length<=2^63-1->L.Aa.length<=2^63-1->(¬n.length=L.Aa.length->Q (0,false,()) () G)/\(¬¬n.length=L.Aa.length->qK JY IC (L.Aa,t,s,n,()) G (λ(b:Int×Bool×UT)_ G=>(¬b.2.1->Q (0,false,()) () G)/\(¬¬b.2.1->Q (b.1,true,()) () G)) X))/\(¬b.1->qK JY IC (L.Aa,t,s,n,()) G (λ(b:Int×Bool×UT)_ G=>(¬b.2.1->Q (0,false,()) () G)/\(¬¬b.2.1->Q (b.1,true,()) () G)) X)) X))) X);obtain⟨o,e,_⟩:=Akx he;have val:qK JY IC (L.Aa,t,s,n,()) H (λ(b:Int×Bool×Unit)io H'=>(¬b.2.1=true->Q (0,false,()) () H')/\(¬¬b.2.1=true->Q (b.1,true,()) () H')) X:=
  Ai9 hL h8 hv hs hn _ t (a9 _) o hz e ⟨λhh=>qG rfl hh,λ_=>h⟩
 refine Acz hv ⟨λhh=>qG he hh,λ_ _ _=>⟨λhh=>qG hs.len hh,λ_=>Aj2 _ t (a9 _) (by have:=o.len.2.2.2.2.1;omega) (λk hk=>by have:=hk.len.2.2.2.2.1;omega) o λr=>⟨λ_ _ _=>⟨λhh=>qG hn.len hh,λ_=>val⟩,λ_=>val⟩⟩⟩
theorem Ans{l:List Ar}{k N:Nat}{Q:Int×Bool×Unit->UU}(hv:OT l)(hl:l.length<=64)(ht:GC l<=4)(hN:2*GC l<=N)(hk:k<=1000000)(hz:DV t<=40)(he:(Nq l true t).2=0)(h:∀(v:Int)(y:Bool),(y=true->v=tvT (Dg l) t (Alm (Dg l) (asN N k))/\(D3 (Dg l) t).1 (Alm (Dg l) (asN N k))=(D3 (Dg l) t).1 (asN N k)/\(D3 (Dg l) t).2 (Alm (Dg l) (asN N k))=(D3 (Dg l) t).2 (asN N k))->Q (v,y,()) () H):qK Rw K7 (l,t,(k:Int),()) H Q X:=by
 have hL:Ku (Dg l):=Zv hv hl;have tot:=Ab2 (l:=l);refine wF Tryz.f16 {im:=[4]} (?_:qK Acw UJ (t,()) H (λ(b:List ByteArray×List ByteArray×UT)_ G=>qK Xo Tu (l,(k:Int),false,()) G (λ(b1:List Int×List Bool×UT)_ G=>qK Xo Tu (l,(k:Int),true,()) G (λ(b2:List Int×List Bool×UT)_ G=>qK Ul NU (l,b1.1,b1.2.1,b.1,()) G (λ(b3:List Int×Bool×UT)_ G=>qK Ul NU (l,b2.1,b2.2.1,b.2.1,()) G (λ(b:List Int×Bool×UT)_ G=>(¬b3.2.1->Q (0,false,()) () G)/\(¬¬b3.2.1->(¬b.2.1->Q (0,false,()) () G)/\(¬¬b.2.1->qK Ac4 Xc (l,t,b3.1,b.1,()) G (λ(b:Int×Bool×UT)_ G=>Q (b.1,b.2.1,()) () G) X))) X) X) X) X) X);have enc:∀next,Att (Dg l) next (Alm (Dg l) (asN N k)) ((a0 l.length).map (Akd (Dg l) next (asN N k))):=λnext=>
  ⟨by rw[a7,a8];rfl,λi hi h'=>by simp_all[a3,ab,Aw5]⟩
 refine Anu (by omega) λn3 n4 h3 h4 l3 l4=>Akc hv hl (by omega) hN hk (Akc hv hl (by omega) hN hk (Afn hv hl (show n3.length<=1000000 by omega) λu hu=>Afn hv hl (show n4.length<=1000000 by omega) λw hw=>⟨λ_=>h 0 false λe=>qG e (by decide),λhu1=>⟨λ_=>h 0 false λe=>qG e (by decide),λhw1=>?_⟩⟩));have hu1:=hu.1 (ad.1 hu1);have hw1:=hw.1 (ad.1 hw1);refine Ap8 (L:=Dg l) hL (by omega) (by show l.length<=1000;omega) (enc false) (enc true) hz he (h _ true λ_=>⟨rfl,A1v λop nm hh o=>?_⟩);have hi:Cl l nm<l.length:=A1y hh o (Akx he).2.1;refine⟨hi,?_⟩;rcases o with o|o
 .rw[o,decide_eq_false (by decide)];exact hu1 _ hi (show l[Cl l nm].qJ∈n3 by grind[Arl])
 .rw[o,decide_eq_true rfl];exact hw1 _ hi (show l[Cl l nm].qJ∈n4 by grind[Arl])
theorem Aps{a:BH}{Q:Bool×Unit->UU}(hl:a.Aa.length<=1000000000000000)(h:∀H',Q (true,()) () H'):qK Adt W4 (a,t,()) H Q X:=by
 refine wF Tryz.f3 {lp:=[(13,⟨[(12,.nat)],[2,3,5,8],true⟩)],im:=[2,3]} (?_:qK Jq FH (a,()) H (λ(b:Bool×UT)_ G=>(¬b.1->qK BM B7 () G (λ(b:Bool×UT)_ G=>Q (b.1,()) () G) X)/\(¬¬b.1->qK EI DD (t,30,()) G (λ(b:Int×UT)_ G=>(b.1<0->qK BM B7 () G (λ(b:Bool×UT)_ G=>Q (b.1,()) () G) X)/\(¬b.1<0->qK FO Ej (a,()) G (λ(b:Option Nat×Ac×Bool×UT)_ G=>(¬b.2.2.1->Q (false,()) () G)/\(¬¬b.2.2.1->qK Akf Aez (b.1,b.2.1,t,()) G (λ(b1:Int×Int×UT)_ G=>qK XA TI (a.Aa,t,true,()) G (λ(b2:Af×Int×UT)_ G=>(b2.2.1=0->(¬b2.1.Bool->(¬(13:Int)=0->(b1.2.1=13->(b1.1=0->qK Hn GJ (b.1,()) G (λ(b:Int×UT)_ G=>(b.1=2->qK BM B7 () G (λ(b:Bool×UT)_ G=>Q (b.1,()) () G) X)/\(¬b.1=2->Q (false,()) () G)) X)/\(¬b1.1=0->Q (false,()) () G))/\(¬b1.2.1=13->Q (false,()) () G))/\(¬¬(13:Int)=0->(¬b1.2.1=13->(b1.2.1=13->(b1.1=0->qK Hn GJ (b.1,()) G (λ(b:Int×UT)_ G=>(b.1=2->qK BM B7 () G (λ(b:Bool×UT)_ G=>Q (b.1,()) () G) X)/\(¬b.1=2->Q (false,()) () G)) X)/\(¬b1.1=0->Q (false,()) () G))/\(¬b1.2.1=13->Q (false,()) () G))/\(¬¬b1.2.1=13->∃(V:Nat->Nat×UT->HP),(∃(n:Nat),V n (0,()) G)/\∀n x H,V n x H->qK TV Nk (a,()) H (λ(b3:Int×UT)_ G=>((↑x.1:Int)<b3.1->qK Rw K7 (a.Aa,t,(↑x.1:Int),()) G (λ(b4:Int×Bool×UT)_ G=>(b4.2.1->qK Fv DX (b.1,b1.1,(↑x.1:Int),()) G (λ(b:Bool×UT)_ G=>(not (decide (b.1=true)==decide ¬b4.1=0)->Q (false,()) () G)/\(¬not (decide (b.1=true)==decide ¬b4.1=0)->x.1+1<=2^63-1/\∃m,m<n/\V m (x.1+1,()) G)) X)/\(¬b4.2.1->x.1+1<=2^63-1/\∃m,m<n/\V m (x.1+1,()) G)) X)/\(¬(↑x.1:Int)<b3.1->qK Hn GJ (b.1,()) G (λ(b:Int×UT)_ G=>(b.1=3->qK BM B7 () G (λ(b:Bool×UT)_ G=>Q (b.1,()) () G) X)/\(¬b.1=3->Q (false,()) () G)) X)) X)))/\(¬¬b2.1.Bool->(¬b2.2.1=0->(b1.2.1=b2.2.1->(b1.1=0->qK Hn GJ (b.1,()) G (λ(b:Int×UT)_ G=>(b.1=2->qK BM B7 () G (λ(b:Bool×UT)_ G=>Q (b.1,()) () G) X)/\(¬b.1=2->Q (false,()) () G)) X)/\(¬b1.1=0->Q (false,()) () G))/\(¬b1.2.1=b2.2.1->Q (false,()) () G))/\(¬¬b2.2.1=0->(¬b1.2.1=b2.2.1->(b1.2.1=b2.2.1->(b1.1=0->qK Hn GJ (b.1,()) G (λ(b:Int×UT)_ G=>(b.1=2->qK BM B7 () G (λ(b:Bool×UT)_ G=>Q (b.1,()) () G) X)/\(¬b.1=2->Q (false,()) () G)) X)/\(¬b1.1=0->Q (false,()) () G))/\(¬b1.2.1=b2.2.1->Q (false,()) () G))/\(¬¬b1.2.1=b2.2.1->∃(V:Nat->Nat×UT->HP),(∃(n:Nat),V n (0,()) G)/\∀n x H,V n x H->qK TV Nk (a,()) H (λ(b3:Int×UT)_ G=>((↑x.1:Int)<b3.1->qK Rw K7 (a.Aa,t,(↑x.1:Int),()) G (λ(b4:Int×Bool×UT)_ G=>(b4.2.1->qK Fv DX (b.1,b1.1,(↑x.1:Int),()) G (λ(b:Bool×UT)_ G=>(not (decide (b.1=true)==decide ¬b4.1=0)->Q (false,()) () G)/\(¬not (decide (b.1=true)==decide ¬b4.1=0)->x.1+1<=2^63-1/\∃m,m<n/\V m (x.1+1,()) G)) X)/\(¬b4.2.1->x.1+1<=2^63-1/\∃m,m<n/\V m (x.1+1,()) G)) X)/\(¬(↑x.1:Int)<b3.1->qK Hn GJ (b.1,()) G (λ(b:Int×UT)_ G=>(b.1=3->qK BM B7 () G (λ(b:Bool×UT)_ G=>Q (b.1,()) () G) X)/\(¬b.1=3->Q (false,()) () G)) X)) X))))/\(¬b2.2.1=0->(¬b2.2.1=0->(b1.2.1=b2.2.1->(b1.1=0->qK Hn GJ (b.1,()) G (λ(b:Int×UT)_ G=>(b.1=2->qK BM B7 () G (λ(b:Bool×UT)_ G=>Q (b.1,()) () G) X)/\(¬b.1=2->Q (false,()) () G)) X)/\(¬b1.1=0->Q (false,()) () G))/\(¬b1.2.1=b2.2.1->Q (false,()) () G))/\(¬¬b2.2.1=0->(¬b1.2.1=b2.2.1->(b1.2.1=b2.2.1->(b1.1=0->qK Hn GJ (b.1,()) G (λ(b:Int×UT)_ G=>(b.1=2->qK BM B7 () G (λ(b:Bool×UT)_ G=>Q (b.1,()) () G) X)/\(¬b.1=2->Q (false,()) () G)) X)/\(¬b1.1=0->Q (false,()) () G))/\(¬b1.2.1=b2.2.1->Q (false,()) () G))/\(¬¬b1.2.1=b2.2.1->∃(V:Nat->Nat×UT->HP),(∃(n:Nat),V n (0,()) G)/\∀n x H,V n x H->qK TV Nk (a,()) H (λ(b3:Int×UT)_ G=>((↑x.1:Int)<b3.1->qK Rw K7 (a.Aa,t,(↑x.1:Int),()) G (λ(b4:Int×Bool×UT)_ G=>(b4.2.1->qK Fv DX (b.1,b1.1,(↑x.1:Int),()) G (λ(b:Bool×UT)_ G=>(not (decide (b.1=true)==decide ¬b4.1=0)->Q (false,()) () G)/\(¬not (decide (b.1=true)==decide ¬b4.1=0)->x.1+1<=2^63-1/\∃m,m<n/\V m (x.1+1,()) G)) X)/\(¬b4.2.1->x.1+1<=2^63-1/\∃m,m<n/\V m (x.1+1,()) G)) X)/\(¬(↑x.1:Int)<b3.1->qK Hn GJ (b.1,()) G (λ(b:Int×UT)_ G=>(b.1=3->qK BM B7 () G (λ(b:Bool×UT)_ G=>Q (b.1,()) () G) X)/\(¬b.1=3->Q (false,()) () G)) X)) X)))) X) X)) X)) X)) X);have lv:∀{H':HY},qK BM B7 () H' (λ(b:Bool×Unit)io H'=>Q (b.1,()) () H') X:=λ{H'}=>Am6 λH2=>h H2;refine Apb hl λt0 hs=>⟨λ_=>lv,λhs'=>An4 (SizeOf.sizeOf t+1) t (by omega) (by decide) (by decide) λr _ _ hr=>⟨λ_=>lv,λhr0=>?_⟩⟩
 have sm:=hs (ad.1 hs');have hz:DV t<=31:=by omega
 have st:=sm.t;have sn:=sm.n;have hL:Ku (Dg a.Aa):=Zv sm.v (by omega);have tot:=Ab2 (l:=a.Aa);have v1000:(Dg a.Aa).Aa.length<=1000:=by show a.Aa.length<=1000;omega
 refine Acn sm λb M H1 mn mi mv ws rm nm=>⟨λhn=>qG rfl hn,λ_=>?_⟩
 have hn0:M.S.n=2*GC a.Aa:=nm.n;have g:MG H1 b M:=⟨mn,mi,mv,λ_ _=>.inr (.inr Aut),by omega,rm⟩
 have hnx:=nm.nx;have hln:=nm.ln;have two:∀{H':HY},MG H' b M->qK Hn GJ (some b,()) H' (λ(b:Int×Unit)io H'=>(b.1=(2:Int)->qK BM B7 () H' (λ(b:Bool×Unit)io H'=>Q (b.1,()) () H') X)/\(¬b.1=(2:Int)->Q (false,()) () H')) X:=λ{H'}g2=>
  Aj7 g2.h g2.i (by omega) ⟨λ_=>lv,λhn=>qG (by omega) hn⟩
 refine Apr (L:=Dg a.Aa) g (by omega) (by omega) hL (by omega) (by omega) v1000 (by omega) (λhe H2 g2=>Acz v1000 ?_) (λhe hb H2 g2=>Acz v1000 ?_) λhe hb M2 H2 r g2 q2 nx2=>Acz v1000 ?_
 .have he:(Nq a.Aa true t).2≠0:=he;exact⟨λhh=>qG hh he,λ_=>⟨λ_=>⟨λ_=>⟨λ_=>two g2,λhh=>qG rfl hh⟩,λhh=>qG rfl hh⟩,λhh=>qG he hh⟩⟩
 .have he:(Nq a.Aa true t).2=0:=he;have hb:(Nq a.Aa true t).1.Bool=false:=hb;grind
 .have he:(Nq a.Aa true t).2=0:=he;have hb:(Nq a.Aa true t).1.Bool=true:=hb;have n2:M2.S.n=2*GC a.Aa:=q2.bs.n.trans hn0;have ln2:=q2.ln;have hN:M2.S.n.toNat=(2*GC a.Aa).toNat:=by rw[n2]
  have hsz:2^(2*GC a.Aa).toNat<=256:=Nat.le_trans (Nat.pow_le_pow_right (by omega) (show (2*GC a.Aa).toNat<=8 by omega)) (by decide);refine⟨λ_=>⟨λhh=>qG hb hh,λ_=>⟨λhh=>qG he hh,λ_=>⟨λhh=>qG he.symm hh,λ_=>?_⟩⟩⟩,λhh=>qG he hh⟩;generalize hS:2^(2*GC a.Aa).toNat=S at hsz;refine⟨λn z H3=>H3=H2/\n=S-z.1/\z.1<=S,⟨_,rfl,rfl,ac _⟩,?_⟩;rintro n ⟨k,_⟩ H3 ⟨rfl,hn0',hk0⟩;have hnn:n=S-k:=hn0';have hk:k<=S:=hk0;refine A1u sm ?_;rw[hS];refine⟨λhlt0=>?_,λ_=>Aj7 g2.h g2.i (by omega) ⟨λ_=>lv,λhn=>qG (by omega) hn⟩⟩;have hlt:k<S:=Int.ofNat_lt.1 hlt0;have nxt:k+1<=9223372036854775807/\∃m,m<n/\H3=H3/\m=S-(k+1)/\k+1<=S:=⟨by omega,S-(k+1),by omega,rfl,rfl,by omega⟩
  refine Ans (N:=M2.S.n.toNat) sm.v (by omega) (by omega) (by omega) (by omega) (by omega) he λv y hy=>⟨λhyt=>?_,λ_=>nxt⟩
  obtain⟨e1,e2,_⟩:=hy hyt;refine Ao2 (k:=k) g2.h g2.i q2.self g2.n8 (by omega) ⟨λhh=>qG hh ?_,λ_=>nxt⟩;have hb1:(Bf a.Aa true t).1.Bool=true:=by simp_all[Akx]
  have e3:tvT (Dg a.Aa) t (Alm (Dg a.Aa) (asN M2.S.n.toNat k))=ofB ((D3 (Dg a.Aa) t).1 (Alm (Dg a.Aa) (asN M2.S.n.toNat k))):=UV hb1;have ev:v=ofB ((D3 (Dg a.Aa) t).1 (asN M2.S.n.toNat k)):=e1.trans (e3.trans (congrArg ofB e2));show ¬not (decide ((D3 (Dg a.Aa) t).1 (asN M2.S.n.toNat k)=true) == decide ¬v=0)=true;rw[ev];cases (D3 (Dg a.Aa) t).1 (asN M2.S.n.toNat k)<;>decide
end
end Go.Proofs.YtcbkbpjlbmalmaaGreatDoor
