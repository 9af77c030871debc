/-
  The X layer, part n: a heap of objects. H says which object lies at which block; HpR ties it to the blocks that are owned. (Merged by program out of 7 texts.)
-/
import Derived.Test.YtcbkbpjlbmalmaaGreatDoorpaa
import Derived.Carry
namespace Go.X
open Go Go.RowKit
section
variable {α:Type}
def Fj[Rep α](I:Reg)(w:World)(get:Nat->Option Value)(xs:List α):Prop:=∀j(h:j<xs.length),∃u,rep I w u xs[j]/\∀i,i<u.cells.size->get (j*Rep.size α+i)=u.cells[i]?
theorem Fj.mono{α:Type}[Rep α]{I I':Reg}{w w':World}{get:Nat->Option Value}{xs:List α}(h:Ext I w I' w')(e:Fj I w get xs):Fj I' w' get xs:=λj hj=>by obtain⟨u,h1,h2⟩:=e j hj;exact⟨u,h.rep h1,h2⟩
theorem Fj.append[Rep α]{I:Reg}{w:World}{g1 g2 g:Nat->Option Value}{xs ys:List α}(h1:Fj I w g1 xs)(h2:Fj I w g2 ys)(e1:∀i,i<xs.length*Rep.size α->g i=g1 i)(e2:∀i,i<ys.length*Rep.size α->g (xs.length*Rep.size α+i)=g2 i):Fj I w g (xs++ys):=by
 have lt:∀{n j i:Nat},j<n->i<Rep.size α->j*Rep.size α+i<n*Rep.size α:=λ{n j i}hj hi=>by have:(j+1)*Rep.size α<=n*Rep.size α:=Nat.mul_le_mul_right _ hj;rw[Nat.add_mul,Nat.one_mul]at this;omega
 intro j hj;by_cases hx:j<xs.length
 .obtain⟨u,hu,hc⟩:=h1 j hx;refine⟨u,by rw[List.getElem_append_left hx];exact hu,λi hi=>?_⟩;rw[e1 _ (lt hx (by rw[<-Rep.cells hu];exact hi))];exact hc i hi
 .have hlen:j-xs.length<ys.length:=by rw[List.length_append]at hj;omega
  obtain⟨u,hu,hc⟩:=h2 (j-xs.length) hlen;refine⟨u,by rw[List.getElem_append_right (by omega)];exact hu,λi hi=>?_⟩;have:=e2 ((j-xs.length)*Rep.size α+i) (lt hlen (by rw[<-Rep.cells hu];exact hi));rw[<-Nat.add_assoc,<-Nat.add_mul,Nat.add_sub_cancel' (by omega)]at this;rw[this];exact hc i hi
structure Cc{α:Type}[Rep α](I:Reg)(w:World)(A:Own)(v:Value)(xs:List α):Prop where
 ex:(v=.slice none 0 0/\xs=[]/\A=[])∨∃b arr cap e0 off,A=[(b,.cells arr e0 (0,0))]/\v=.slice (some ⟨b,off,none⟩) xs.length cap/\xs.length<=cap/\cap<=maxLen/\off+cap*Rep.size α<=arr.size/\
  Fj I w (λi=>arr[off+i]?) xs
theorem Cc.mk0[Rep α]{I:Reg}{w:World}{b cap n:Nat}{arr:Array Value}{e0:TypeId}{xs:List α}(hn:n=xs.length)(h1:xs.length<=cap)(h2:cap<=maxLen)(h3:cap*Rep.size α<=arr.size)(h4:Fj I w (arr[·]?) xs):Cc I w [(b,.cells arr e0 (0,0))] (.slice (some ⟨b,0,none⟩) n cap) xs:=
 ⟨.inr ⟨b,arr,cap,e0,0,rfl,by rw[hn],h1,h2,by rw[Nat.zero_add];exact h3,by simpa only[Nat.zero_add] using h4⟩⟩
theorem Cc.mono{α:Type}[Rep α]{I I':Reg}{w w':World}{A:Own}{v:Value}{xs:List α}(h:Ext I w I' w')(o:Cc I w A v xs):Cc I' w' A v xs:=by
 rcases o.ex with o|⟨b,arr,cap,e0,off,h1,h2,h3,h4,h5,h6⟩
 .exact⟨.inl o⟩
 .exact⟨.inr ⟨b,arr,cap,e0,off,h1,h2,h3,h4,h5,h6.mono h⟩⟩
theorem Cc.nil{α:Type}[Rep α]{I:Reg}{w:World}:Cc I w [] (.slice none 0 0) ([]:List α):=⟨.inl ⟨rfl,rfl,rfl⟩⟩
theorem Cc.len{α:Type}[Rep α]{I:Reg}{w:World}{A:Own}{v:Value}{xs:List α}(o:Cc I w A v xs):∃a cap,v=.slice a xs.length cap/\xs.length<=9223372036854775807:=by
 rcases o.ex with ⟨rfl,rfl,rfl⟩|⟨b,arr,cap,e0,off,h1,h2,h3,h4,h5,h6⟩
 .exact⟨_,_,rfl,by simp⟩
 .unfold maxLen at h4;exact⟨_,_,h2,by omega⟩
variable {v:Value}
theorem Cc.cast[Rep α]{I:Reg}{w:World}{A:Own}{xs ys:List α}(h:xs=ys)(o:Cc I w A v xs):Cc I w A v ys:=h▸o
theorem Cc.bd{α:Type}[Rep α]{I:Reg}{w:World}{A:Own}{v:Value}{xs:List α}(o:Cc I w A v xs):xs.length<=9223372036854775807:=by obtain⟨_,_,_,h⟩:=o.len;exact h
theorem B6{w:World}{b o:Nat}{arr:Array Value}{e:TypeId}{fr:Nat×Nat}(h:w.heap[b]?=some (.cells arr e fr)):w.cell? ⟨b,o,none⟩=arr[o]?:=by simp [World.cell?,h]
theorem Cc.freeze{α:Type}[Rep α]{I:Reg}{w:World}{A T:Own}{v:Value}{xs:List α}(o:Cc I w A v xs)(hs:St I w (A++T)):∃I',Ext I w I' w/\St I' w T/\rep I' w v xs:=by
 rcases o.ex with ⟨rfl,rfl,rfl⟩|⟨b,arr,cap,e0,off,rfl,rfl,h3,h4,h5,h6⟩
 .exact⟨I,Ext.refl _ _,hs,Ar8 (by simp [Vw])⟩
 .obtain⟨he,hs'⟩:=hs.freeze;refine⟨_,he,hs',?_⟩;refine⟨⟨_,cap,rfl,h3,by unfold maxLen at h4;unfold Vw;omega,.inr ⟨b,off,rfl,.inr ⟨_,List.mem_singleton.2 rfl,rfl⟩,λj hj=>?_⟩⟩⟩;obtain⟨u,hu,hc⟩:=h6 j hj;refine⟨u,he.rep hu,rfl,λi hi=>?_⟩;have hb:=(hs.own (b,.cells arr e0 (0,0)) (by simp)).1;rw[B6 hb,Nat.add_assoc];exact hc i hi
theorem Aj6[Rep α]{I:Reg}{w:World}{xs:List α}(h:rep I w v xs)(hne:xs≠[]):∃a cap,v=.slice (some a) xs.length cap/\∃news:List Value,news.length=xs.length*Rep.size α/\(∀j u,news[j]?=some u->w.cell? (a.add j)=some u)/\(∀u∈news,u.oneCell'=true)/\Fj I w (news[·]?) xs:=by
 obtain⟨a,cap,hv,_,_,he⟩:=h.ex;rcases he with he|⟨b,off,rfl,hb,he⟩
 .exact absurd he hne
 have hp:0<Rep.size α:=Rep.pos;have at_:∀n,n<xs.length*Rep.size α->∃u,w.cell? ⟨b,off+n,none⟩=some u/\u.oneCell'=true/\∀(hj:n/Rep.size α<xs.length),True:=by
  intro n hn;have hj:n/Rep.size α<xs.length:=(Nat.div_lt_iff_lt_mul hp).2 hn;obtain⟨v,hv1,hv2⟩:=he _ hj;have hi:n%Rep.size α<v.cells.size:=by rw[Rep.cells hv1];exact Nat.mod_lt _ hp
  have:=hv2.2 _ hi;have hdm:off+n/Rep.size α*Rep.size α+n%Rep.size α=off+n:=by rw[Nat.add_assoc,Nat.div_add_mod']
  rw[hdm,Array.getElem?_eq_getElem hi]at this;exact⟨_,this,Rep.one hv1 _ (Array.getElem_mem_toList hi),λ_=>trivial⟩
 refine⟨⟨b,off,none⟩,cap,hv,(List.range (xs.length*Rep.size α)).map λn=>(w.cell? ⟨b,off+n,none⟩).getD undef,by simp,?_,?_,?_⟩
 .intro j u hu;rw[List.getElem?_map]at hu;by_cases hj:j<xs.length*Rep.size α
  .rw[List.getElem?_range hj]at hu;obtain⟨u',h1,_⟩:=at_ j hj
   simp only[Option.map_some,h1,Option.getD_some,Option.some.injEq]at hu;rw[Gv,h1,hu]
  .rw[List.getElem?_eq_none (by simpa using hj)]at hu;simp at hu
 .intro u hu;obtain⟨n,hn,rfl⟩:=List.mem_map.1 hu;obtain⟨u',h1,h2,_⟩:=at_ n (by simpa using hn)
  simpa [h1] using h2
 .intro j hj;obtain⟨u,hu1,hu2⟩:=he j hj;refine⟨u,hu1,λi hi=>?_⟩;have hlt:j*Rep.size α+i<xs.length*Rep.size α:=by
   have h1:i<Rep.size α:=by rw[<-Rep.cells hu1];exact hi
   have:(j+1)*Rep.size α<=xs.length*Rep.size α:=Nat.mul_le_mul_right _ hj;rw[Nat.add_mul,Nat.one_mul]at this;omega
  show (List.map _ _)[_]?=_;rw[List.getElem?_map,List.getElem?_range hlt];have:=hu2.2 i hi;rw[Nat.add_assoc]at this;simp only[Option.map_some,this];rw[Array.getElem?_eq_getElem hi];rfl
def grow(I:Reg)(A:Own):Reg:=λb=>I b∨∃p∈A,p.1=b
theorem Cc.A9k[Rep α]{I:Reg}{w:World}{A T:Own}{xs:List α}(o:Cc I w A v xs)(hs:St I w (A++T)):Ext I w (grow I A) w/\St (grow I A) w T/\rep (grow I A) w v xs:=by
 obtain⟨he,hs'⟩:=hs.freeze;refine⟨he,hs',?_⟩;rcases o.ex with ⟨rfl,rfl,rfl⟩|⟨b,arr,cap,e0,off,rfl,rfl,h3,h4,h5,h6⟩
 .exact Ar8 (by simp [Vw])
 .refine⟨⟨_,cap,rfl,h3,by unfold maxLen at h4;unfold Vw;omega,.inr ⟨b,off,rfl,.inr ⟨_,List.mem_singleton.2 rfl,rfl⟩,λj hj=>?_⟩⟩⟩;obtain⟨u,hu,hc⟩:=h6 j hj;refine⟨u,he.rep hu,rfl,λi hi=>?_⟩;have hb:=(hs.own (b,.cells arr e0 (0,0)) (by simp)).1;rw[B6 hb,Nat.add_assoc];exact hc i hi
structure Nws{α:Type}[Rep α](I:Reg)(w:World)(v:Value)(xs:List α):Prop where
 sh:∃a cap,v=.slice a xs.length cap
 ne:xs≠[]->∃a cap,v=.slice (some a) xs.length cap/\∃news:List Value,news.length=xs.length*Rep.size α/\
  (∀j u,news[j]?=some u->w.cell? (a.add j)=some u)/\(∀u∈news,u.oneCell'=true)/\Fj I w (news[·]?) xs
theorem Nws.A4o{α:Type}[Rep α]{I:Reg}{w:World}{v:Value}{xs:List α}(h:rep I w v xs):Nws I w v xs:=⟨(by obtain⟨a,cap,hv,_⟩:=h.ex;exact⟨a,cap,hv⟩),λhne=>Aj6 h hne⟩
theorem Nws.A4p{α:Type}[Rep α]{I:Reg}{w:World}{A T:Own}{v:Value}{xs:List α}(h:Cc I w A v xs)(hs:St I w (A++T)):Nws I w v xs:=by
 refine⟨(by obtain⟨a,cap,hv,_⟩:=h.len;exact⟨a,cap,hv⟩),λhne=>?_⟩;obtain⟨_,_,hr⟩:=h.A9k hs;obtain⟨a,cap,hv,news,h1,h2,h3,h4⟩:=Aj6 hr hne;refine⟨a,cap,hv,news,h1,h2,h3,λj hj=>?_⟩;rcases h.ex with ⟨_,h6,_⟩|⟨b,arr,cap',e0,off,rfl,hv',h7,h8,h9,h10⟩
 .exact absurd h6 hne
 obtain⟨u,hu,hc⟩:=h10 j hj;rw[hv]at hv';cases hv';refine⟨u,hu,λi hi=>?_⟩;have hlt:j*Rep.size α+i<news.length:=by
  have h11:i<Rep.size α:=by rw[<-Rep.cells hu];exact hi
  have:(j+1)*Rep.size α<=xs.length*Rep.size α:=Nat.mul_le_mul_right _ hj;rw[Nat.add_mul,Nat.one_mul]at this;omega
 have hb:=(hs.own (b,.cells arr e0 (0,0)) (by simp)).1;have h12:=h2 (j*Rep.size α+i) _ (List.getElem?_eq_getElem hlt);rw[Gv,B6 hb]at h12;show news[j*Rep.size α+i]?=_;rw[List.getElem?_eq_getElem hlt,<-h12];exact hc i hi
section
variable {P:Program} {I:Reg} {w:World} {T A:Own} {t e:TypeId} {nb:Nat}
theorem Arc{α:Type}[Rep α]{v yv:Value}{xs ys:List α}{ty:TypeId}(hs:St I w (A++T))(ho:Cc I w A v xs)(hy:Nws I w yv ys)(ht:Slc P t e (Rep.size α) nb)(hb:(xs.length+ys.length)*nb<=140737488355328)(hl:xs.length+ys.length<=9223372036854775807):∃v' A' w',(Builtin.append_ #[t,t] ty #[v,yv]).run P w=.ok v' w'/\Ext I w I w'/\St I w' (A'++T)/\Cc I w' A' v' (xs++ys):=by
 obtain⟨i,z,hi,hsz,hnb,hz,hzs⟩:=ht.info;have hu:=ht.under;by_cases hne:ys=[]
 .subst hne;obtain⟨a',cap',hyv⟩:=hy.sh;refine⟨v,A,w,?_,Ext.refl _ _,hs,by simpa using ho⟩;have hf0:∀(a:Option Addr)(cap:Nat),(Builtin.firstCells (Rep.size α) 0 (.slice a 0 cap)).run P w=.ok #[] w:=λa cap=>by cases a<;>simp [Builtin.firstCells,loadCells,loadCellsFrom]
  rcases ho.ex with ⟨rfl,rfl,rfl⟩|⟨b,arr,cap,e0,off,rfl,rfl,h3,h4,h5,h6⟩
  .simp [Builtin.append_,run_underlying hu,sizeOf,typeInfo,hi,hsz,Builtin.lenOf,hyv,hf0]
  .simp [Builtin.append_,run_underlying hu,sizeOf,typeInfo,hi,hsz,Builtin.lenOf,hyv,hf0,h3,storeCells]
 obtain⟨a,c,hyv,news,hnl,hnews,hone,hel⟩:=hy.ne hne;subst hyv;have hyl:0<ys.length:=List.length_pos_iff.2 hne;have hp:0<Rep.size α:=Rep.pos;rcases ho.ex with ⟨rfl,rfl,rfl⟩|⟨b,arr,cap,e0,off,rfl,rfl,h3,h4,h5,h6⟩
 .simp only[List.length_nil,Nat.zero_add]at hb hl;have hr:=run_append_nil (P:=P) w t ty e i z hu hi hz a ys.length c news (by rw[hsz];exact hnl) hnews hyl (by omega) (by rw[hnb];omega);have hge:=grownCap_ge w ys.length 0 e;have hcm:=grownCap_le_maxLen w ys.length 0 e (by unfold maxLen;omega);obtain⟨e1,s1⟩:=hs.drew (w.drawn+1);obtain⟨e2,s2⟩:=s1.alloc (.cells (news.toArray++Builtin.zeroCells z.cells (grownCap w ys.length 0 e-ys.length)) e);refine⟨_,_,_,hr,e1.trans e2,s2,Cc.mk0 rfl hge hcm ?_ ?_⟩
  .simp only[Array.size_append,List.size_toArray,size_zeroCells,hzs,hnl,<-Nat.add_mul];exact Nat.mul_le_mul_right _ (by omega)
  .refine(hel.mono (e1.trans e2)).append (ys:=[]) (g2:=λ_=>none) (λj hj=>by simp at hj) ?_ (by simp) |> λh=>by simpa using h
   intro i hi;rw[Array.getElem?_append_left (by simpa [hnl] using hi)];simp
 .have hg:=(hs.own (b,.cells arr e0 (0,0)) (by simp)).1;have hle:off+xs.length*Rep.size α<=arr.size:=Nat.le_trans (Nat.add_le_add_left (Nat.mul_le_mul_right _ h3) _) h5;by_cases hroom:xs.length+ys.length<=cap
  .have hfit:off+xs.length*i.size+news.length<=arr.size:=by rw[hsz,hnl,Nat.add_assoc,<-Nat.add_mul];exact Nat.le_trans (Nat.add_le_add_left (Nat.mul_le_mul_right _ hroom) _) h5
   have hfc:=run_firstCells_some (P:=P) w i.size ys.length a ys.length c news (by rw[hsz];exact hnl) hnews;have hst:=run_storeCells_at P b (off+xs.length*i.size) e0 news 0 arr w hg (by simpa using hfit) hone;simp only[Nat.add_zero]at hst;have hr:(Builtin.append_ #[t,t] ty #[.slice (some ⟨b,off,none⟩) xs.length cap,.slice (some a) ys.length c]).run P w=.ok (.slice (some ⟨b,off,none⟩) (xs.length+ys.length) cap) (w.setRow b (List.take (off+xs.length*i.size) arr.toList++news++List.drop (off+xs.length*i.size+news.length) arr.toList).toArray):=by simp [Builtin.append_,run_underlying hu,sizeOf,typeInfo,hi,Builtin.lenOf,hroom,hfc,Gv,hst]
   rw[hsz]at hr hfit;obtain⟨e1,s1⟩:=hs.write (w':=w.setRow b _) rfl rfl rfl (by simp [World.setRow]) (setRow_heap w b arr _ e0 _ hg) (λc hc=>setRow_other w b c _ hc);refine⟨_,_,_,hr,e1,s1,⟨.inr ⟨b,_,cap,_,off,rfl,by simp,by simpa using hroom,h4,?_,?_⟩⟩⟩
   .simp only[List.size_toArray,List.length_append,List.length_take,List.length_drop,Array.length_toList];omega
   .have hlen:(List.take (off+xs.length*Rep.size α) arr.toList).length=off+xs.length*Rep.size α:=by rw[List.length_take,show arr.toList.length=arr.size from rfl];omega
    refine(h6.mono e1).append (hel.mono e1) ?_ ?_
    .intro i hi;simp only[List.getElem?_toArray,List.append_assoc];rw[List.getElem?_append_left (by omega),List.getElem?_take_of_lt (by omega),Array.getElem?_toList]
    .intro i hi;simp only[List.getElem?_toArray,List.append_assoc];rw[<-Nat.add_assoc,List.getElem?_append_right (by omega),hlen,Nat.add_sub_cancel_left,List.getElem?_append_left (by rw[hnl];exact hi)]
  .have hdl:(arr.toList.drop off).length=arr.size-off:=by rw[List.length_drop];rfl
   have holds:∀j u,((arr.toList.drop off).take (xs.length*Rep.size α))[j]?=some u->w.cell? ((⟨b,off,none⟩:Addr).add j)=some u:=by
    intro j u hu;rw[Gv,B6 hg];by_cases hj:j<xs.length*Rep.size α
    .rw[List.getElem?_take_of_lt hj,List.getElem?_drop,Array.getElem?_toList]at hu;exact hu
    .rw[List.getElem?_eq_none (by rw[List.length_take];omega)]at hu;simp at hu
   have hlo:((arr.toList.drop off).take (xs.length*Rep.size α)).length=xs.length*i.size:=by rw[List.length_take,hdl,hsz];omega
   have hr:=run_append_grow (P:=P) w t ty e i z hu hi hz ⟨b,off,none⟩ xs.length cap ((arr.toList.drop off).take (xs.length*Rep.size α)) hlo holds a ys.length c news (by rw[hsz];exact hnl) hnews (by omega) (by omega)
    (growslice_fits (by omega) (by rw[hnb];exact hb))
   have hge:=grownCap_ge w (xs.length+ys.length) cap e;have hcm:=grownCap_le_maxLen w (xs.length+ys.length) cap e (by unfold maxLen;omega);obtain⟨e1,s1⟩:=hs.drop.drew (w.drawn+1);obtain⟨e2,s2⟩:=s1.alloc (.cells (((arr.toList.drop off).take (xs.length*Rep.size α)).toArray++news.toArray++Builtin.zeroCells z.cells (grownCap w (xs.length+ys.length) cap e-(xs.length+ys.length))) e);refine⟨_,_,_,hr,e1.trans e2,s2,Cc.mk0 (by simp) (by simpa using hge) hcm ?_ ?_⟩
   .simp only[Array.size_append,List.size_toArray,size_zeroCells,hzs,hnl,hlo,hsz,<-Nat.add_mul];exact Nat.mul_le_mul_right _ (by omega)
   .rw[hsz]at hlo;refine(h6.mono (e1.trans e2)).append (hel.mono (e1.trans e2)) ?_ ?_
    .intro i hi;rw[Array.getElem?_append_left (by simp only[Array.size_append,List.size_toArray];omega),Array.getElem?_append_left (by simp only[List.size_toArray];omega)];simp only[List.getElem?_toArray];rw[List.getElem?_take_of_lt hi,List.getElem?_drop,Array.getElem?_toList]
    .intro i hi;rw[Array.getElem?_append_left (by simp only[Array.size_append,List.size_toArray];omega),Array.getElem?_append_right (by simp only[List.size_toArray];omega)];simp only[List.getElem?_toArray,List.size_toArray,hlo,Nat.add_sub_cancel_left]
end
end
section
section
variable {P:Program} {N:Nat} {ops:Array Oper} {R:List PanicEntry->World->Prop} {m:Bool} {K:Fr->World->Prop} {os:List Oper} {f:Fr} {w:World}
variable {dst:Option Tmp} {ty:TypeId} {pos:String} {af:Array Edge} {I:Reg} {T A:Own} {x y:Operand} {t e u:TypeId} {sz nb:Nat}
variable {α:Type} {v:Value}
theorem Aj0[Rep α]{yv:Value}{xs ys:List α}(ht:slB P t e (Rep.size α) nb=true)(hs:St I w (A++T))(ho:Cc I w A v xs)(hy:Nws I w yv ys)(hx:ev f x=v)(hyv:ev f y=yv)(hb:(xs.length+ys.length)*nb<=140737488355328)(hl:xs.length+ys.length<=9223372036854775807)(h:∀v' A' w',Ext I w I w'->St I w' (A'++T)->Cc I w' A' v' (xs++ys)->WL P N ops R m K os (put N f dst v') w'):WL P N ops R m K (⟨dst,.call ⟨.builtin .append,#[x,y],#[t,t]⟩,ty,pos,af,none⟩::os) f w:=by obtain⟨v',A',w',hr,he,hs',ho'⟩:=Arc (ty:=ty) hs ho hy (Hy ht) hb hl;refine Ax ?_ (h v' A' w' he hs' ho');simp [execOp,resolve,invoke,builtin,hx,hyv,hr]
theorem A4x[Rep α]{d:α}(hs:St I w T)(hr:rep I w v d)(hx:ev f x=v)(h:∀a I' w',Ext I w I' w'->St I' w' T->I' a.block->E3 w' a v->rep I' w' v d->WL P N ops R m K os (put N f dst (.pointer (some a))) w'):WL P N ops R m K (⟨dst,.box e x,ty,pos,af,none⟩::os) f w:=by
 obtain⟨e1,s1⟩:=hs.alloc (.cells v.cells e);obtain⟨e2,s2⟩:=s1.freeze;refine Ax (v:=.pointer (some ⟨w.heap.size,0,none⟩)) ?_ (h ⟨w.heap.size,0,none⟩ _ _ (e1.trans e2) s2 (.inr ⟨_,List.mem_singleton.2 rfl,rfl⟩) ⟨rfl,λj hj=>?_⟩ ((e1.trans e2).rep hr))
 .simp [execOp,Instr.box,newVar,newRow,hx]
 .rw[B6 (heap_alloc_new w _)];simp
def zrB(P:Program)(t:TypeId)(z:Value):Prop:=(P.info? t).bind (·.zero)=some z
variable {b:Nat}
theorem St.heap{o:Obj}(hs:St I w ([(b,o)]++T)):w.heap[b]?=some o:=(hs.own (b,o) (by simp)).1
variable {o:Nat} {cs:Array Value}
theorem Afg{fr:Nat×Nat}(ht:tyB P t false 1=true)(hs:St I w ([(b,.cells cs e fr)]++T))(hx:ev f x=.pointer (some ⟨b,o,none⟩))(hv:cs[o]?=some v)(h:WL P N ops R m K os (put N f dst v) w):WL P N ops R m K (⟨dst,.load t x,ty,pos,af,none⟩::os) f w:=by
 refine Ax ?_ h;have hc:w.cell? ⟨b,o,none⟩=some v:=by rw[B6 hs.heap,hv]
 simp [execOp,Instr.loadAt,hx,Instr.sureAddr,loadVar,(K4 (w:=w) ht).1,hc]
variable {n:Nat} {vs:List Value}
theorem Abm{fr:Nat×Nat}(ht:tyB P t true n=true)(hs:St I w ([(b,.cells cs e fr)]++T))(hx:ev f x=.pointer (some ⟨b,o,none⟩))(hv:(cs.toList.drop o).take n=vs)(hn:vs.length=n)(h:WL P N ops R m K os (put N f dst (.agg ⟨vs⟩)) w):WL P N ops R m K (⟨dst,.load t x,ty,pos,af,none⟩::os) f w:=by
 refine Ax ?_ h;have:=run_loadCells_list (P:=P) (w:=w) ⟨b,o,none⟩ vs (λj u hj=>by
  rw[Gv,B6 hs.heap];subst hv;rw[List.getElem?_take]at hj;split at hj
  .rw[List.getElem?_drop,Array.getElem?_toList]at hj;exact hj
  .cases hj)
 rw[hn]at this;simp [execOp,Instr.loadAt,hx,Instr.sureAddr,loadVar,(K4 (w:=w) ht).1,(K4 (w:=w) ht).2,this]
theorem Agn{i off:Nat}(hf:flB P t i off=true)(hx:ev f x=.pointer (some ⟨b,o,none⟩))(h:WL P N ops R m K os (put N f dst (.pointer (some ⟨b,o+off,none⟩))) w):WL P N ops R m K (⟨dst,.fieldAddr t x i,ty,pos,af,none⟩::os) f w:=
 Ax (by simp [execOp,hx,A1x hf,Gv]) h
theorem Axp{i off:Nat}(hf:∃fs fd,P.underlying t=some (.struct fs)/\fs[i]?=some fd/\fd.offset=off/\tyB P fd.type false 1=true)(hx:ev f x=.agg cs)(hv:cs[off]?=some v)(h:WL P N ops R m K os (put N f dst v) w):WL P N ops R m K (⟨dst,.field t x i,ty,pos,af,none⟩::os) f w:=by obtain⟨fs,fd,h1,h2,h3,h4⟩:=hf;refine Ax ?_ h;subst h3;simp [execOp,Instr.field,run_underlying h1,h2,hx,asAgg,part,(K4 (w:=w) h4).1,hv]
def enum:Nat->List Value->List (Nat×Value)
 |_,[]=>[]
 |n,v::vs=>(n,v)::enum (n+1) vs
theorem Akj{s:Nat}(hs:0<s):∀(vs:List Value)(n:Nat)(pre post:List Value),pre.length=n*s->post.length=vs.length*s->(∀v∈vs,v.cells.size=s)->Instr.fill (λi=>some (i*s,s)) (pre++post).toArray (enum n vs)=some (pre++vs.flatMap (·.cells.toList)).toArray
 | [],n,pre,post,_,hpost,_=>by have:post=[]:=List.eq_nil_of_length_eq_zero (by simpa using hpost);subst this;simp [enum,Instr.fill]
 |v::vs,n,pre,post,hpre,hpost,hv=>by
  have hvs:v.cells.size=s:=hv v (by simp);have hpl:post.length=s+vs.length*s:=by rw[hpost,List.length_cons,Nat.add_mul,Nat.one_mul,Nat.add_comm]
  simp only[enum,Instr.fill,hvs];have h1:(decide (s≠s) ||decide (n*s+s>(pre++post).toArray.size))=false:=by simp [hpre,hpl]
  rw[h1];simp only[Bool.false_eq_true,if_false];have Ab:∀(cs:List Value)(j:Nat)(a b c:List Value),b.length=j->c.length=cs.length->
    (cs.zipIdx j).foldl (λacc(p:Value×Nat)=>acc.setIfInBounds (n*s+p.2) p.1) ((pre++(b++(c++a))).toArray)=(pre++(b++(cs++a))).toArray:=by
   intro cs
   induction cs with
   |nil=>intro j a b c hb hc;have:c=[]:=List.eq_nil_of_length_eq_zero (by simpa using hc);subst this;simp
   |cons x cs ih=>
    intro j a b c hb hc;cases c with
    |nil=>simp at hc
    |cons y c=>
     simp only[List.zipIdx_cons,List.foldl_cons];have hx:(pre++(b++(y::c++a))).toArray.setIfInBounds (n*s+j) x=(pre++((b++[x])++(c++a))).toArray:=by apply Array.ext';simp only[Array.toList_setIfInBounds];rw[List.set_append_right _ _ (by omega),hpre,Nat.add_sub_cancel_left,List.set_append_right _ _ (by omega),hb,Nat.sub_self];simp
     rw[hx,ih (j+1) a (b++[x]) c (by simp [hb]) (by simpa using hc)];simp
  have hfold:=Ab v.cells.toList 0 (post.drop s) [] (post.take s) rfl (by rw[List.length_take,show v.cells.toList.length=v.cells.size from rfl];omega);simp only[List.nil_append,List.take_append_drop]at hfold;have hz:(Array.foldl (λcs(p:Value×Nat)=>cs.setIfInBounds (n*s+p.2) p.1) (pre++post).toArray v.cells.zipIdx)=(pre++(v.cells.toList++post.drop s)).toArray:=by rw[<-hfold,<-Array.foldl_toList];simp
  have:=Akj hs vs (n+1) (pre++v.cells.toList) (post.drop s) (by rw[List.length_append,hpre,show v.cells.toList.length=v.cells.size from rfl,hvs,Nat.add_mul,Nat.one_mul]) (by rw[List.length_drop];omega) (λu hu=>hv u (by simp [hu]));simp only[List.append_assoc]at this;rw[show (Array.foldl (λcs(x:Value×Nat)=>match x with|(c,j)=>cs.setIfInBounds (n*s+j) c) (pre++post).toArray v.cells.zipIdx)=(pre++(v.cells.toList++post.drop s)).toArray from hz,this];simp
theorem Xc{α:Type}[Rep α]:∀(xs:List α)(vs:List Value),vs.length=xs.length->(∀j(h:j<xs.length)(h':j<vs.length),rep I w vs[j] xs[j])->Fj I w ((vs.flatMap (·.cells.toList))[·]?) xs
 | [],_,_,_=>λj hj=>by simp at hj
 |x::xs,[],h,_=>by simp at h
 |x::xs,v::vs,h,hr=>by
  have h0:rep I w v x:=hr 0 (by simp) (by simp);have ht:=Xc xs vs (by simpa using h) (λj h1 h2=>hr (j+1) (by simp;omega) (by simp;omega));have:=Fj.append (xs:=[x]) (g1:=λi=>v.cells.toList[i]?) (g2:=λi=>(vs.flatMap (·.cells.toList))[i]?) (g:=λi=>((v::vs).flatMap (·.cells.toList))[i]?) (I:=I) (w:=w)
   (λj hj=>by
    obtain rfl:j=0:=by simpa using hj
    exact⟨v,by simpa using h0,λi hi=>by simp⟩) ht
   (λi hi=>by simp only[List.length_singleton,Nat.one_mul]at hi;rw[List.flatMap_cons,List.getElem?_append_left (by rw[show v.cells.toList.length=v.cells.size from rfl,Rep.cells h0];exact hi)])
   (λi hi=>by rw[List.flatMap_cons,List.getElem?_append_right (by rw[show v.cells.toList.length=v.cells.size from rfl,Rep.cells h0];simp)];congr 1;rw[show v.cells.toList.length=v.cells.size from rfl,Rep.cells h0];simp)
  simpa using this
theorem Rc[Rep α]{ps:Array (Nat×Value)}{xs:List α}(ht:Slc P t e (Rep.size α) nb)(hp:ps.toList=enum 0 vs)(hl:vs.length=xs.length)(hr:∀j(h:j<xs.length)(h':j<vs.length),rep I w vs[j] xs[j])(hn:xs.length*Rep.size α<=16777216):(Instr.buildSlice t xs.length ps).run P w=.ok (.slice (some ⟨w.heap.size,0,none⟩) xs.length xs.length) (w.alloc (.cells (vs.flatMap (·.cells.toList)).toArray e)):=by
 obtain⟨i,z,hi,hsz,hnb,hz,hzs⟩:=ht.info;have hpos:0<Rep.size α:=Rep.pos;have hvs:∀v∈vs,v.cells.size=Rep.size α:=λv hv=>by obtain⟨j,hj,rfl⟩:=List.getElem_of_mem hv;exact Rep.cells (hr j (by omega) hj)
 have hf:=Akj hpos vs 0 [] ((List.range (xs.length*Rep.size α)).map λn=>z.cells[n%z.cells.size]!) (by simp) (by simp [hl]) hvs;simp only[List.nil_append]at hf;have h24:¬(16777216<xs.length*Rep.size α):=by omega
 simp only[Instr.buildSlice,Sem.run_bind,run_underlying ht.under,Result.andThen_ok,ht.size];simp only[Nat.reducePow,gt_iff_lt,h24,if_false];by_cases h0:xs.length*Rep.size α=0
 .have hx0:xs.length=0:=by rcases Nat.mul_eq_zero.1 h0 with h|h<;>omega
  have hvs0:vs=[]:=List.eq_nil_of_length_eq_zero (by omega);subst hvs0;simp [hp,enum,Instr.fill,newRow,hx0,show Array.range 0=#[] from rfl]
 .have harr:(Array.range (xs.length*Rep.size α)).map (λn=>z.cells[n%z.cells.size]!)=((List.range (xs.length*Rep.size α)).map λn=>z.cells[n%z.cells.size]!).toArray:=by apply Array.ext';simp
  simp only[h0,if_false,Sem.run_bind,zeroValue,typeInfo,run_program,Result.andThen_ok,hi,Sem.run_pure,hz,hp,harr,hf,newRow,run_newObj];rfl
def Apu{α:Type}[Rep α](I:Reg)(w:World):List Value->List α->Prop
 | [],[]=>True
 |v::vs,x::xs=>rep I w v x/\Apu I w vs xs
 |_,_=>False
theorem Apu.get{α:Type}[Rep α]{I:Reg}{w:World}:∀{vs:List Value}{xs:List α},Apu I w vs xs->vs.length=xs.length/\∀j(h:j<xs.length)(h':j<vs.length),rep I w vs[j] xs[j]
 | [],[],_=>⟨rfl,λj h=>by simp at h⟩
 | [],_::_,h=>h.elim
 |_::_,[],h=>h.elim
 |v::vs,x::xs,h=>by
  obtain⟨h1,h2⟩:=Apu.get h.2;refine⟨by simp [h1],λj hj hj'=>?_⟩;cases j with
  |zero=>exact h.1
  |succ j=>exact h2 j (by simpa using hj) (by simpa using hj')
theorem A76[Rep α]{ps:Array (Nat×Operand)}{xs:List α}(ht:slB P t e (Rep.size α) nb=true)(hs:St I w T)(hp:(ps.toList.map λp=>(p.1,ev f p.2))=enum 0 vs)(hr0:Apu I w vs xs)(hn0:Nat.ble (xs.length*Rep.size α) 16777216=true)(hx:xs.length=n)(h:∀v I' w',Ext I w I' w'->St I' w' T->rep I' w' v xs->WL P N ops R m K os (put N f dst v) w'):WL P N ops R m K (⟨dst,.buildSlice t n ps,ty,pos,af,none⟩::os) f w:=by
 subst hx;obtain⟨hl,hr⟩:=hr0.get;have hn:=Nat.le_of_ble_eq_true hn0;have hrun:=Rc (ps:=ps.map λp=>(p.1,ev f p.2)) (Hy ht) (by simpa using hp) hl hr hn;obtain⟨e1,s1⟩:=hs.alloc (.cells (vs.flatMap (·.cells.toList)).toArray e);obtain⟨e2,s2⟩:=s1.freeze;have h12:=e1.trans e2;refine Ax (by simp only[execOp,Sem.run_bind];rw[show (ps.map λ(x:Nat×Operand)=>match x with|(i,x)=>(i,ev f x))=ps.map (λp=>(p.1,ev f p.2)) from rfl,hrun];rfl) (h _ _ _ h12 s2 ?_);refine⟨⟨_,_,rfl,Nat.le_refl _,?_,.inr ⟨w.heap.size,0,rfl,.inr ⟨_,List.mem_singleton.2 rfl,rfl⟩,λj hj=>?_⟩⟩⟩
 .have:xs.length<=xs.length*Rep.size α:=Nat.le_mul_of_pos_right _ Rep.pos;unfold Vw;omega
 .obtain⟨v,h1,h2⟩:=(Xc xs vs hl hr).mono h12 j hj;exact⟨v,h1,rfl,λi hi=>by rw[B6 (heap_alloc_new w _)];simpa using h2 i hi⟩
theorem Axq[Rep α]{ps:Array (Nat×Operand)}{xs:List α}(ht:slB P t e (Rep.size α) nb=true)(hs:St I w T)(hp:(ps.toList.map λp=>(p.1,ev f p.2))=enum 0 vs)(hr0:Apu I w vs xs)(hn0:Nat.ble (xs.length*Rep.size α) 16777216=true)(hx:xs.length=n)(h:∀v A w',Ext I w I w'->St I w' (A++T)->Cc I w' A v xs->WL P N ops R m K os (put N f dst v) w'):WL P N ops R m K (⟨dst,.buildSlice t n ps,ty,pos,af,none⟩::os) f w:=by
 subst hx;obtain⟨hl,hr⟩:=hr0.get;have hn:=Nat.le_of_ble_eq_true hn0;have hrun:=Rc (ps:=ps.map λp=>(p.1,ev f p.2)) (Hy ht) (by simpa using hp) hl hr hn;obtain⟨e1,s1⟩:=hs.alloc (.cells (vs.flatMap (·.cells.toList)).toArray e);refine Ax (by simp only[execOp,Sem.run_bind];rw[show (ps.map λ(x:Nat×Operand)=>match x with|(i,x)=>(i,ev f x))=ps.map (λp=>(p.1,ev f p.2)) from rfl,hrun];rfl) (h _ _ _ e1 s1 ?_);have hle:xs.length<=xs.length*Rep.size α:=Nat.le_mul_of_pos_right _ Rep.pos;refine Cc.mk0 rfl (Nat.le_refl _) (by unfold maxLen;omega) ?_ ?_
 .have:∀(l:List Value),(∀v∈l,v.cells.size=Rep.size α)->(l.flatMap (·.cells.toList)).length=l.length*Rep.size α:=by
   intro l;induction l with
   |nil=>intro _;simp
   |cons v l ih=>intro hv;rw[List.flatMap_cons,List.length_append,ih (λu hu=>hv u (by simp [hu])),show v.cells.toList.length=v.cells.size from rfl,hv v (by simp),List.length_cons,Nat.add_mul];omega
  simp only[List.size_toArray];rw[this vs (λv hv=>by obtain⟨j,hj,rfl⟩:=List.getElem_of_mem hv;exact Rep.cells (hr j (by omega) hj)),hl];exact Nat.le_refl _
 .refine λj hj=>?_;obtain⟨v,h1,h2⟩:=(Xc xs vs hl hr).mono e1 j hj;exact⟨v,h1,λi hi=>by simpa using h2 i hi⟩
end
end
section
section
variable {P:Program} {N:Nat} {ops:Array Oper} {R:List PanicEntry->World->Prop} {m:Bool} {K:Fr->World->Prop} {os:List Oper} {f:Fr} {w:World}
variable {dst:Option Tmp} {ty:TypeId} {pos:String} {af:Array Edge} {I:Reg} {T A:Own} {x y z:Operand} {t e u:TypeId} {sz nb:Nat} {kd:IntKind} {a b c:Int}
theorem Anr{α:Type}[Rep α]{v:Value}{xs:List α}(hr:rep I w v xs):∃a cap,v=.slice a xs.length cap/\xs.length<=cap/\cap<=Vw/\∀lo hi m,lo<=hi->hi<=xs.length->hi<=m->m<=cap->rep I w (.slice (if m=lo then a else a.map (·.add (lo*Rep.size α))) (hi-lo) (m-lo)) ((xs.drop lo).take (hi-lo)):=by
 obtain⟨a,cap,hv,h1,h2,he⟩:=hr.ex;refine⟨a,cap,hv,h1,h2,λlo hi m h3 h4 h5 h6=>?_⟩;have hlen:((xs.drop lo).take (hi-lo)).length=hi-lo:=by simp;omega
 refine⟨⟨_,m-lo,by rw[hlen],by omega,by omega,?_⟩⟩;by_cases hz:hi=lo
 .exact .inl (by rw[hz,Nat.sub_self];simp)
 rcases he with he|⟨b,off,rfl,hb,he⟩
 .subst he;simp at h4;omega
 rw[if_neg (by omega)];refine .inr ⟨b,off+lo*Rep.size α,by simp [Gv],hb,λj hj=>?_⟩;rw[hlen]at hj;obtain⟨u,hu1,hu2⟩:=he (lo+j) (by omega);refine⟨u,?_,?_⟩
 .rw[List.getElem_take,List.getElem_drop];exact hu1
 .rw[Nat.add_assoc,<-Nat.add_mul];exact hu2
end
end
section
section
variable {P:Program} {I:Reg} {w:World} {T A:Own} {t e:TypeId} {nb:Nat} {α:Type} [Rep α]
variable {xs:List α}
theorem Fj.take{get:Nat->Option Value}(n:Nat)(h:Fj I w get xs):Fj I w get (xs.take n):=λj hj=>by obtain⟨u,h1,h2⟩:=h j (by simp at hj;omega);exact⟨u,by rw[List.getElem_take];exact h1,h2⟩
theorem Fj.drop{get:Nat->Option Value}(n:Nat)(h:Fj I w get xs):Fj I w (λk=>get (n*Rep.size α+k)) (xs.drop n):=λj hj=>by obtain⟨u,h1,h2⟩:=h (n+j) (by simp at hj;omega);exact⟨u,by rw[List.getElem_drop];exact h1,λi hi=>by have:=h2 i hi;rw[Nat.add_mul,Nat.add_assoc]at this;exact this⟩
theorem Fj.congr{g g':Nat->Option Value}(h:Fj I w g xs)(hg:∀i,i<xs.length*Rep.size α->g' i=g i):Fj I w g' xs:=by have:=Fj.append (ys:=[]) (g2:=λ_=>none) h (λj hj=>by simp at hj) hg (by simp);simpa using this
def At(v:Value)(sz j:Nat)(a:Addr):Prop:=∃b off len cap,v=.slice (some ⟨b,off,none⟩) len cap/\a=⟨b,off+j*sz,none⟩
theorem At7{v y:Value}{x:α}{j:Nat}{a:Addr}{u:TypeId}(ho:Cc I w A v xs)(hs:St I w (A++T))(ha:At v (Rep.size α) j a)(hj:j<xs.length)(hy:rep I w y x)(hu:tyB P u (Rep.agg α) (Rep.size α)=true):∃A' w',(Instr.storeAt u (.pointer (some a)) y).run P w=.ok () w'/\Ext I w I w'/\St I w' (A'++T)/\Cc I w' A' v (xs.set j x):=by
 rcases ho.ex with ⟨_,rfl,_⟩|⟨b,arr,cap,e0,off,rfl,rfl,h3,h4,h5,h6⟩
 .simp at hj
 obtain⟨b',off',len',cap',hA,rfl⟩:=ha;cases hA;have hys:=Rep.cells hy;have hle:off+(j+1)*Rep.size α<=arr.size:=Nat.le_trans (Nat.add_le_add_left (Nat.mul_le_mul_right _ (by omega)) _) h5;rw[Nat.add_mul,Nat.one_mul]at hle;have hst:=run_storeCells_at P b (off+j*Rep.size α) e0 y.cells.toList 0 arr w hs.heap (by rw[show y.cells.toList.length=y.cells.size from rfl];omega) (Rep.one hy);simp only[Nat.add_zero]at hst;generalize hrow:(List.take (off+j*Rep.size α) arr.toList++y.cells.toList++List.drop (off+j*Rep.size α+y.cells.toList.length) arr.toList).toArray=row at hst;obtain⟨e1,s1⟩:=hs.write (w':=w.setRow b row) rfl rfl rfl (by simp [World.setRow]) (setRow_heap w b arr _ e0 _ hs.heap) (λc hc=>setRow_other w b c _ hc);refine⟨_,_,?_,e1,s1,⟨.inr ⟨b,_,cap,_,off,rfl,by simp,by simpa using h3,h4,?_,?_⟩⟩⟩
 .simp [Instr.storeAt,Instr.sureAddr,storeVar,(K4 (w:=w) hu).2,hys,hst]
 all_goals subst hrow
 .simp only[List.size_toArray,List.length_append,List.length_take,List.length_drop,Array.length_toList];omega
 .have hlen:(List.take (off+j*Rep.size α) arr.toList).length=off+j*Rep.size α:=by rw[List.length_take,show arr.toList.length=arr.size from rfl];omega
  have hget:∀i,(List.take (off+j*Rep.size α) arr.toList++y.cells.toList++List.drop (off+j*Rep.size α+y.cells.toList.length) arr.toList)[off+i]? =
    if i<j*Rep.size α then arr[off+i]? else if i<(j+1)*Rep.size α then y.cells[i-j*Rep.size α]? else arr[off+i]?:=by
   intro i
   rw[List.append_assoc,Nat.add_mul,Nat.one_mul]
   split
   .rename_i h;rw[List.getElem?_append_left (by omega),List.getElem?_take_of_lt (by omega),Array.getElem?_toList]
   .rw[List.getElem?_append_right (by omega),hlen,Nat.add_sub_add_left]
    split
    .rw[List.getElem?_append_left (by rw[show y.cells.toList.length=y.cells.size from rfl];omega),Array.getElem?_toList]
    .rw[List.getElem?_append_right (by rw[show y.cells.toList.length=y.cells.size from rfl];omega),List.getElem?_drop,Array.getElem?_toList,show y.cells.toList.length=y.cells.size from rfl]
     congr 1;omega
  intro k hk;rw[List.length_set]at hk;simp only[List.getElem?_toArray,hget];have ord:∀{k j i:Nat},k<j->i<Rep.size α->k*Rep.size α+i<j*Rep.size α:=λ{k j i}hkj hi=>by have:(k+1)*Rep.size α<=j*Rep.size α:=Nat.mul_le_mul_right _ hkj;rw[Nat.add_mul,Nat.one_mul]at this;omega
  by_cases hkj:k=j
  .subst hkj;refine⟨y,by rw[List.getElem_set_self];exact e1.rep hy,λi hi=>?_⟩;rw[if_neg (by omega),if_pos (by rw[Nat.add_mul,Nat.one_mul];omega),Nat.add_sub_cancel_left]
  .obtain⟨z,z1,z2⟩:=h6 k hk;refine⟨z,by rw[List.getElem_set_ne (Ne.symm hkj)];exact e1.rep z1,λi hi=>?_⟩;have hi':i<Rep.size α:=by rw[<-Rep.cells z1];exact hi
   rcases Nat.lt_or_gt_of_ne hkj with h|h
   .rw[if_pos (ord h hi')];exact z2 i hi
   .have:=Nat.mul_le_mul_right (Rep.size α) h;rw[if_neg (by rw[Nat.succ_mul]at this;omega),if_neg (by simp only[Nat.add_mul,Nat.one_mul];rw[Nat.succ_mul]at this;omega)];exact z2 i hi
def Aij(v:Value)(j sz:Nat):Value:=match v with
 | .slice a len cap=>.slice (if cap=j then a else a.map (·.add (j*sz))) (len-j) (cap-j)
 |v=>v
theorem Cc.sub{v:Value}{xs:List α}{j:Nat}(ho:Cc I w A v xs)(hj:j<=xs.length):Cc I w A (Aij v j (Rep.size α)) (xs.drop j):=by
 rcases ho.ex with ⟨rfl,rfl,rfl⟩|⟨b,arr,cap,e0,off,rfl,rfl,h3,h4,h5,h6⟩
 .simp at hj;subst hj;exact Cc.nil
 .have hm:(cap-j)*Rep.size α+j*Rep.size α=cap*Rep.size α:=by rw[<-Nat.add_mul];congr 1;omega
  by_cases hc:cap=j
  .have hd:xs.drop j=[]:=List.drop_eq_nil_of_le (by omega);refine⟨.inr ⟨b,arr,cap-j,e0,off,rfl,by simp [Aij,hc],by simp;omega,by omega,by omega,?_⟩⟩;rw[hd];intro k hk;simp at hk
  .refine⟨.inr ⟨b,arr,cap-j,e0,off+j*Rep.size α,rfl,by simp [Aij,hc,Gv],by simp;omega,by omega,by omega,(h6.drop j).congr λi hi=>by rw[Nat.add_assoc]⟩⟩
end
section
variable {P:Program} {N:Nat} {ops:Array Oper} {R:List PanicEntry->World->Prop} {m:Bool} {K:Fr->World->Prop} {os:List Oper} {f:Fr} {w:World}
variable {dst:Option Tmp} {ty:TypeId} {pos:String} {af:Array Edge} {I:Reg} {T A:Own} {x y z:Operand} {t e u:TypeId} {sz nb:Nat} {kd:IntKind} {a b c:Int}
theorem A03{α:Type}[Rep α]{n:Nat}(ht:slB P t e (Rep.size α) nb=true)(hs:St I w T)(hx:ev f x=.int .i64 0)(hy:ev f y=.int .i64 b)(hb:b=(n:Int))(hn:n<=9223372036854775807)(hnb:nb*n<=281474976710656)(h:∀v A w',Ext I w I w'->St I w' (A++T)->Cc I w' A v ([]:List α)->WL P N ops R m K os (put N f dst v) w'):WL P N ops R m K (⟨dst,.makeSlice t x y,ty,pos,af,none⟩::os) f w:=by
 obtain⟨i,z,hi,hsz,hbt,hz,hzs⟩:=(Hy ht).info;have hu:=(Hy ht).under;subst hb;have hw:IntKind.i64.wrap (n:Int)=n:=Afb (by omega) (by omega);have hw0:IntKind.i64.wrap 0=0:=by decide
 obtain⟨e1,s1⟩:=hs.alloc (.cells ((Array.range (n*Rep.size α)).map λk=>(if n*Rep.size α=0 then (#[]:Array Value) else z.cells)[k%(if n*Rep.size α=0 then (#[]:Array Value) else z.cells).size]!) e);refine Ax (v:=.slice (some ⟨w.heap.size,0,none⟩) 0 n) ?_ (h _ _ _ e1 s1 (Cc.mk0 rfl (Nat.zero_le _) (by unfold maxLen;omega) (by rw[Array.size_map,Array.size_range];exact Nat.le_refl _) λj hj=>by simp at hj));have h1:¬((i.bytes:Int)*(n:Int)>281474976710656):=by rw[hbt];have h2:((nb*n:Nat):Int)<=((281474976710656:Nat):Int):=Int.ofNat_le.2 hnb;rw[Int.natCast_mul]at h2;omega
 by_cases h0:n*Rep.size α=0
 .simp [execOp,Instr.makeSlice,run_underlying hu,hx,hy,asInt,asIntOf,typeInfo,hi,hw,hw0,sizeOf,hsz,h0,newRow];omega
 .simp [execOp,Instr.makeSlice,run_underlying hu,hx,hy,asInt,asIntOf,typeInfo,hi,hw,hw0,sizeOf,hsz,h0,newRow,zeroValue,hz];omega
end
end
section
structure O4(P:Program)(t:TypeId)(κ:Type)[Rep κ][DecidableEq κ]:Prop where
 find:∀(I:Reg)(w:World)(v:Value)(k:κ)(es:List MapEntry)(ks:List κ),rep I w v k->es.length=ks.length->(∀j(h:j<es.length)(h':j<ks.length),rep I w es[j].key ks[j])->
  (Instr.findKey t v es).run P w=.ok ((ks.findIdx? (·==k)).bind λi=>(es[i]?).map λe=>(i,e.val)) w
 check:∀(I:Reg)(w:World)(v:Value)(k:κ)(e:Bool),rep I w v k->(Instr.checkKey e 10000 t v).run P w=.ok () w
 same:∀(I:Reg)(w:World)(v u:Value)(k:κ),rep I w v k->rep I w u k->Instr.sameBits 10000 v u=true
theorem Aei{k:Int}:∀(es:List MapEntry)(ks:List Int)(n:Nat),es.length=ks.length->(∀j(h:j<es.length)(h':j<ks.length),es[j].key=.int .i64 ks[j])->Instr.findNow (.int .i64) (.int .i64 k) es n=some ((ks.findIdx? (·==k)).bind λi=>(es[i]?).map λe=>(n+i,e.val))
 | [],[],n,_,_=>rfl
 | [],_::_,_,h,_=>by simp at h
 |_::_,[],_,h,_=>by simp at h
 |e::es,x::ks,n,h,hk=>by
  have h0:e.key=.int .i64 x:=hk 0 (by simp) (by simp);have ih:=Aei (k:=k) es ks (n+1) (by simpa using h) (λj h1 h2=>hk (j+1) (by simp;omega) (by simp;omega));simp only[Instr.findNow,h0,Instr.sameNow,if_true];by_cases hx:k=x
  .subst hx;simp [List.findIdx?_cons]
  .have hx':¬x=k:=λh=>hx h.symm;have:(k==x)=false:=by simpa using hx
   rw[this];simp only[ih,List.findIdx?_cons,show (x == k)=false by simpa using hx'];cases ks.findIdx? (· == k) with
   |none=>simp
   |some i=>simp [Nat.add_comm,Nat.add_left_comm]
theorem O4.int{P:Program}{t:TypeId}(ht:P.underlying t=some (.int .i64)):O4 P t Int where
 find I w v k es ks hv hl hk:=by obtain rfl:=Azz.eq hv;have:=Aei (k:=k) es ks 0 hl (λj h h'=>(hk j h h').eq);simp only[Nat.zero_add]at this;simp [Instr.findKey,run_underlying ht,this]
 check I w v k e hv:=by
  obtain rfl:=Azz.eq hv;have:∀n,(Instr.checkKey e (n+1) t (.int .i64 k)).run P w=.ok () w:=λn=>by simp [Instr.checkKey,run_underlying ht]
  exact this 9999
 same I w v u k hv hu:=by obtain rfl:=Azz.eq hv;obtain rfl:=Azz.eq hu;simp [Instr.sameBits]
def Ac{κ β:Type}[DecidableEq κ]:List (κ×β)->κ->Option β
 | [],_=>none
 |p::m,k=>if p.1=k then some p.2 else Ac m k
def C4{κ β:Type}[DecidableEq κ]:List (κ×β)->κ->β->List (κ×β)
 | [],k,v=>[(k,v)]
 |p::m,k,v=>if p.1=k then (p.1,v)::m else p::C4 m k v
def Ez{κ β:Type}[DecidableEq κ]:List (κ×β)->κ->List (κ×β)
 | [],_=>[]
 |p::m,k=>if p.1=k then m else p::Ez m k
structure Dz{κ β:Type}[Rep κ][Rep β](I:Reg)(w:World)(A:Own)(v:Value)(m:List (κ×β)):Prop where
 ex:∃b es clock,A=[(b,.map es clock)]/\v=.map (some b)/\es.toList.length=m.length/\∀j(h:j<es.toList.length)(h':j<m.length),rep I w es.toList[j].key m[j].1/\rep I w es.toList[j].val m[j].2
 bo:∀b es clock,A=[(b,.map es clock)]->(es.toList.map (·.born)).Nodup/\∀e∈es.toList,e.born<clock
theorem Dz.mono{κ β:Type}[Rep κ][Rep β]{I I':Reg}{w w':World}{A:Own}{v:Value}{m:List (κ×β)}(h:Dz I w A v m)(e:Ext I w I' w'):Dz I' w' A v m:=by obtain⟨b,es,c,h1,h2,h3,h4⟩:=h.ex;exact⟨⟨b,es,c,h1,h2,h3,λj hj hj'=>⟨e.rep (h4 j hj hj').1,e.rep (h4 j hj hj').2⟩⟩,h.bo⟩
theorem Agg{b b':Nat}{es es':Array MapEntry}{c c':Nat}(h:(es.toList.map (·.born)).Nodup/\∀e∈es.toList,e.born<c)(e:([(b,.map es c)]:Own)=[(b',.map es' c')]):(es'.toList.map (·.born)).Nodup/\∀e∈es'.toList,e.born<c':=by simp only[List.cons.injEq,Prod.mk.injEq,Obj.map.injEq,and_true]at e;obtain⟨_,rfl,rfl⟩:=e;exact h
theorem Abt{κ β:Type}[DecidableEq κ]:∀(m:List (κ×β))(k:κ),Ac m k=((m.map (·.1)).findIdx? (·==k)).bind λi=>(m[i]?).map (·.2)
 | [],k=>rfl
 |p::m,k=>by
  have ih:=Abt m k;unfold Ac;by_cases h:p.1=k
  .simp [h,List.findIdx?_cons]
  .rw[if_neg h,ih,List.map_cons,List.findIdx?_cons,show (p.1 == k)=false by simpa using h];cases (m.map (·.1)).findIdx? (· == k)<;>simp
theorem Aoa{κ β:Type}[DecidableEq κ]:∀(m:List (κ×β))(k:κ)(v:β),C4 m k v=match (m.map (·.1)).findIdx? (·==k) with
  |some i=>m.modify i λp=>(p.1,v)
  |none=>m++[(k,v)]
 | [],k,v=>rfl
 |p::m,k,v=>by
  have ih:=Aoa m k v;unfold C4;by_cases h:p.1=k
  .simp [h,List.findIdx?_cons]
  .rw[if_neg h,ih,List.map_cons,List.findIdx?_cons,show (p.1 == k)=false by simpa using h];cases (m.map (·.1)).findIdx? (· == k)<;>simp
theorem Aod{κ β:Type}[DecidableEq κ]:∀(m:List (κ×β))(k:κ),Ez m k=match (m.map (·.1)).findIdx? (·==k) with
  |some i=>m.eraseIdx i
  |none=>m
 | [],k=>rfl
 |p::m,k=>by
  have ih:=Aod m k;unfold Ez;by_cases h:p.1=k
  .simp [h,List.findIdx?_cons]
  .rw[if_neg h,ih,List.map_cons,List.findIdx?_cons,show (p.1 == k)=false by simpa using h];cases (m.map (·.1)).findIdx? (· == k)<;>simp
structure Apw(P:Program)(t kt et:TypeId)(κ β:Type)[Rep κ][Rep β][DecidableEq κ]:Prop where
 und:P.underlying t=some (.map kt et)
 key:O4 P kt κ
section
variable {P:Program} {N:Nat} {ops:Array Oper} {R:List PanicEntry->World->Prop} {mo:Bool} {K:Fr->World->Prop} {os:List Oper} {f:Fr} {w:World}
variable {dst:Option Tmp} {ty:TypeId} {pos:String} {af:Array Edge} {I:Reg} {T A:Own} {t kt et:TypeId}
variable {κ β:Type} [Rep κ] [Rep β] [DecidableEq κ] {x y z:Operand}
theorem Ajy(κ β:Type)[Rep κ][Rep β](hs:St I w T)(h:∀v A w',Ext I w I w'->St I w' (A++T)->Dz I w' A v ([]:List (κ×β))->WL P N ops R mo K os (put N f dst v) w'):WL P N ops R mo K (⟨dst,.makeMap t none,ty,pos,af,none⟩::os) f w:=by obtain⟨e1,s1⟩:=hs.alloc (.map #[] 0);refine Ax (v:=.map (some w.heap.size)) ?_ (h _ _ _ e1 s1 ⟨⟨_,_,_,rfl,rfl,rfl,λj hj=>by simp at hj⟩,λ_ _ _ e=>Agg ⟨by simp,by simp⟩ e⟩);simp [execOp,run_makeMap]
theorem Ro{b c:Nat}{es:Array MapEntry}(hs:St I w ([(b,.map es c)]++T)):(getObj b).run P w=.ok (.map es c) w:=by have:=hs.heap;simp [getObj,Sem.run,this]
variable {v:Value} {m:List (κ×β)}
theorem Axn{as:Array TypeId}(ho:Dz I w A v m)(hs:St I w (A++T))(hx:ev f x=v)(ht:Apw P t kt et κ β)(hat:as[0]?=some t)(h:WL P N ops R mo K os (put N f dst (.int .i64 m.length)) w):WL P N ops R mo K (⟨dst,.call ⟨.builtin .len,#[x],as⟩,ty,pos,af,none⟩::os) f w:=by obtain⟨b,es,c,rfl,rfl,hl,_⟩:=ho.ex;refine Ax ?_ (by rw[<-hl]at h;exact h);simp [execOp,resolve,invoke,builtin,Builtin.len_,hat,hx,run_underlying ht.und,Ro hs,goInt]
theorem Dz.find{v kv:Value}{m:List (κ×β)}{k:κ}(ht:Apw P t kt et κ β)(ho:Dz I w A v m)(hk:rep I w kv k):∃b es c,A=[(b,.map es c)]/\v=.map (some b)/\(Instr.findKey kt kv es.toList).run P w=.ok (((m.map (·.1)).findIdx? (· == k)).bind λi=>(es.toList[i]?).map λe=>(i,e.val)) w/\es.toList.length=m.length/\∀j(h:j<es.toList.length)(h':j<m.length),rep I w es.toList[j].key m[j].1/\rep I w es.toList[j].val m[j].2:=by obtain⟨b,es,c,h1,h2,hl,hr⟩:=ho.ex;exact⟨b,es,c,h1,h2,ht.key.find I w kv k _ _ hk (by simpa using hl) (λj h h'=>by rw[List.getElem_map];exact(hr j h (by simpa using h')).1),hl,hr⟩
variable {kv:Value} {k:κ}
theorem Agm{zv:Value}{zd:β}(ht:Apw P t kt et κ β)(ho:Dz I w A v m)(hs:St I w (A++T))(hx:ev f x=v)(hy:ev f y=kv)(hk:rep I w kv k)(hz:(zeroValue et).run P w=.ok zv w)(hzr:rep I w zv zd)(h:∀u,rep I w u ((Ac m k).getD zd)->WL P N ops R mo K os (put N f dst u) w):WL P N ops R mo K (⟨dst,.lookup t x y false,ty,pos,af,none⟩::os) f w:=by
 obtain⟨b,es,c,rfl,rfl,hf,hl,hr⟩:=ho.find ht hk;have hg:=Ro (P:=P) hs;have hc:=ht.key.check I w kv k es.isEmpty hk;rw[Abt]at h;cases hi:(m.map (·.1)).findIdx? (· == k) with
 |none=>
  rw[hi]at hf h;refine Ax (v:=zv) ?_ (h zv (by simpa using hzr));simp [execOp,Instr.lookup,run_underlying ht.und,hx,hy,hg,hc,hf,hz]
 |some i=>
  rw[hi]at hf h;have hlt:i<m.length:=by have:=(List.findIdx?_eq_some_iff_getElem.1 hi).1;simpa using this
  have hlt':i<es.toList.length:=by omega
  rw[Option.bind_some,List.getElem?_eq_getElem hlt',Option.map_some]at hf;refine Ax (v:=es.toList[i].val) ?_ (h _ ?_)
  .simp only[execOp,Instr.lookup];simp [run_underlying ht.und,hx,hy,hg,hc,hf]
  .simp only[Option.bind_some,List.getElem?_eq_getElem hlt,Option.map_some,Option.getD_some];exact(hr i hlt' hlt).2
theorem Agl{zv:Value}{zd:β}(ht:Apw P t kt et κ β)(ho:Dz I w A v m)(hs:St I w (A++T))(hx:ev f x=v)(hy:ev f y=kv)(hk:rep I w kv k)(hz:(zeroValue et).run P w=.ok zv w)(hzr:rep I w zv zd)(h:∀u,rep I w u ((Ac m k).getD zd)->WL P N ops R mo K os (put N f dst (.tuple #[u,.bool (Ac m k).isSome])) w):WL P N ops R mo K (⟨dst,.lookup t x y true,ty,pos,af,none⟩::os) f w:=by
 obtain⟨b,es,c,rfl,rfl,hf,hl,hr⟩:=ho.find ht hk;have hg:=Ro (P:=P) hs;have hc:=ht.key.check I w kv k es.isEmpty hk;rw[Abt]at h;cases hi:(m.map (·.1)).findIdx? (· == k) with
 |none=>
  rw[hi]at hf h;refine Ax (v:=.tuple #[zv,.bool false]) ?_ (h zv (by simpa using hzr));simp [execOp,Instr.lookup,run_underlying ht.und,hx,hy,hg,hc,hf,hz]
 |some i=>
  rw[hi]at hf h;have hlt:i<m.length:=by have:=(List.findIdx?_eq_some_iff_getElem.1 hi).1;simpa using this
  have hlt':i<es.toList.length:=by omega
  rw[Option.bind_some,List.getElem?_eq_getElem hlt',Option.map_some]at hf;simp only[Option.bind_some,List.getElem?_eq_getElem hlt,Option.map_some,Option.getD_some,Option.isSome_some]at h;refine Ax (v:=.tuple #[es.toList[i].val,.bool true]) ?_ (h _ (hr i hlt' hlt).2);simp only[execOp,Instr.lookup];simp [run_underlying ht.und,hx,hy,hg,hc,hf]
theorem Up{b c:Nat}{es:Array MapEntry}{o':Obj}(hs:St I w ([(b,.map es c)]++T)):∃w',(setObj b o').run P w=.ok () w'/\Ext I w I w'/\St I w' ([(b,o')]++T):=by
 have hh:=hs.heap;have hlt:b<w.heap.size:=by
  rcases Nat.lt_or_ge b w.heap.size with h|h
  .exact h
  .rw[Array.getElem?_eq_none h]at hh;cases hh
 obtain⟨e,s⟩:=hs.write (w':={w with heap:=w.heap.setIfInBounds b o'}) (o':=o') rfl rfl rfl (by simp) (by simp [hlt]) (λc hc=>by simp [Ne.symm hc]);exact⟨_,by simp [setObj,Sem.run,hh],e,s⟩
theorem An4{uv:Value}{u:β}(ht:Apw P t kt et κ β)(ho:Dz I w A v m)(hs:St I w (A++T))(hx:ev f x=v)(hy:ev f y=kv)(hz:ev f z=uv)(hk:rep I w kv k)(hu:rep I w uv u)(h:∀A' w',Ext I w I w'->St I w' (A'++T)->Dz I w' A' v (C4 m k u)->WL P N ops R false K os (put N f dst undef) w'):WL P N ops R false K (⟨dst,.mapUpdate t x y z,ty,pos,af,none⟩::os) f w:=by
 obtain⟨b,es,c,rfl,rfl,hf,hl,hr⟩:=ho.find ht hk;have hg:=Ro (P:=P) hs;have hc:=ht.key.check I w kv k false hk;rw[Aoa]at h;cases hi:(m.map (·.1)).findIdx? (· == k) with
 |none=>
  rw[hi]at hf h;obtain⟨w',h1,h2,h3⟩:=Up (P:=P) hs (o':=.map (es.push {key:=kv,val:=uv,born:=c}) (c+1));refine Uj ?_ (h _ w' h2 h3 ⟨⟨_,_,_,rfl,rfl,by simp [hl],λj hj hj'=>?_⟩,λ_ _ _ e=>Agg ?_ e⟩)
  .simp only[execOp,Instr.mapUpdate];simp [run_underlying ht.und,hx,hy,hz,hg,hc,hf,h1]
  .simp only[Array.toList_push];by_cases hj2:j<es.toList.length
   .rw[List.getElem_append_left hj2,List.getElem_append_left (by omega)];exact⟨h2.rep (hr j hj2 (by omega)).1,h2.rep (hr j hj2 (by omega)).2⟩
   .rw[List.getElem_append_right (by omega),List.getElem_append_right (by omega)];simp only[List.getElem_singleton];exact⟨h2.rep hk,h2.rep hu⟩
  .obtain⟨b1,b2⟩:=ho.bo _ _ _ rfl;refine⟨?_,λe he=>?_⟩
   .simp only[Array.toList_push,List.map_append,List.map_cons,List.map_nil];rw[List.nodup_append];refine⟨b1,by simp,λx hx y hy=>?_⟩;obtain⟨e,he,rfl⟩:=List.mem_map.1 hx;have:=b2 e he;simp only[List.mem_singleton]at hy;omega
   .simp only[Array.toList_push,List.mem_append,List.mem_singleton]at he;rcases he with he|rfl
    .have:=b2 e he;omega
    .simp
 |some i=>
  rw[hi]at hf h;obtain⟨hlt,hik,_⟩:=List.findIdx?_eq_some_iff_getElem.1 hi;have hlt:i<m.length:=by simpa using hlt
  have hlt':i<es.toList.length:=by omega
  have hsz:i<es.size:=by simpa using hlt'
  have hkey:m[i].1=k:=by simpa using hik
  rw[Option.bind_some,List.getElem?_eq_getElem hlt',Option.map_some]at hf;have hsame:=ht.key.same I w es.toList[i].key kv k (hkey▸(hr i hlt' hlt).1) hk;obtain⟨w',h1,h2,h3⟩:=Up (P:=P) hs (o':=.map (es.modify i λe=>{e with key:=kv,val:=uv}) c);have hmod:∀(l:List MapEntry)(i:Nat),(l.modify i λe=>{e with key:=kv,val:=uv}).map (·.born)=l.map (·.born):=λl=>by
   induction l with
   |nil=>intro i;cases i<;>rfl
   |cons x l ih=>intro i;cases i with
    |zero=>rfl
    |succ i=>simp [List.modify_succ_cons,ih i]
  have hbm:((es.modify i λe=>{e with key:=kv,val:=uv}).toList.map (·.born))=es.toList.map (·.born):=by rw[Array.toList_modify];exact hmod _ _
  refine Uj ?_ (h _ w' h2 h3 ⟨⟨_,_,_,rfl,rfl,by simp [hl],λj hj hj'=>?_⟩,λ_ _ _ e=>Agg ⟨hbm▸(ho.bo _ _ _ rfl).1,λe he=>?_⟩ e⟩)
  .have hsame':Instr.sameBits 10000 es[i].key kv=true:=by simpa using hsame
   simp only[execOp,Instr.mapUpdate];simp [run_underlying ht.und,hx,hy,hz,hg,hc,hf,hsz,Instr.keyThatStays,hsame',h1]
  .simp only[Array.toList_modify,List.length_modify]at hj hj';simp only[Array.toList_modify,List.getElem_modify];by_cases hji:i=j
   .subst hji;simp only[if_true];exact⟨h2.rep (hkey▸hk),h2.rep hu⟩
   .simp only[if_neg hji];exact⟨h2.rep (hr j hj hj').1,h2.rep (hr j hj hj').2⟩
  .have h5:e.born∈es.toList.map (·.born):=hbm▸List.mem_map_of_mem he;obtain⟨e',he',h6⟩:=List.mem_map.1 h5;rw[<-h6];exact(ho.bo _ _ _ rfl).2 e' he'
theorem An5{at_:Array TypeId}(ht:Apw P t kt et κ β)(ho:Dz I w A v m)(hs:St I w (A++T))(hx:ev f x=v)(hy:ev f y=kv)(hk:rep I w kv k)(hat:at_[0]?=some t)(h:∀A' w',Ext I w I w'->St I w' (A'++T)->Dz I w' A' v (Ez m k)->WL P N ops R mo K os (put N f dst (.tuple #[])) w'):WL P N ops R mo K (⟨dst,.call ⟨.builtin .delete,#[x,y],at_⟩,ty,pos,af,none⟩::os) f w:=by
 obtain⟨b,es,c,rfl,rfl,hf,hl,hr⟩:=ho.find ht hk;have hg:=Ro (P:=P) hs;have hc:=ht.key.check I w kv k es.isEmpty hk;rw[Aod]at h;cases hi:(m.map (·.1)).findIdx? (· == k) with
 |none=>
  rw[hi]at hf h;obtain⟨w',h1,h2,h3⟩:=Up (P:=P) hs (o':=.map es c);refine Ax (v:=.tuple #[]) ?_ (h _ w' h2 h3 ⟨⟨_,_,_,rfl,rfl,hl,λj hj hj'=>⟨h2.rep (hr j hj hj').1,h2.rep (hr j hj hj').2⟩⟩,λ_ _ _ e=>Agg (ho.bo _ _ _ rfl) e⟩);simp only[execOp,resolve,invoke,builtin,Builtin.delete_];simp [hat,run_underlying ht.und,hx,hy,hg,hc,hf,h1]
 |some i=>
  rw[hi]at hf h;obtain⟨hlt,hik,_⟩:=List.findIdx?_eq_some_iff_getElem.1 hi;have hlt:i<m.length:=by simpa using hlt
  have hlt':i<es.toList.length:=by omega
  rw[Option.bind_some,List.getElem?_eq_getElem hlt',Option.map_some]at hf;obtain⟨w',h1,h2,h3⟩:=Up (P:=P) hs (o':=.map (es.eraseIdxIfInBounds i) c);have htl:(es.eraseIdxIfInBounds i).toList=es.toList.eraseIdx i:=by simp
  refine Ax (v:=.tuple #[]) ?_ (h _ w' h2 h3 ⟨⟨_,_,_,rfl,rfl,by rw[htl,List.length_eraseIdx_of_lt hlt',List.length_eraseIdx_of_lt hlt,hl],λj hj hj'=>?_⟩,λ_ _ _ e=>Agg ?_ e⟩)
  .simp only[execOp,resolve,invoke,builtin,Builtin.delete_];simp [hat,run_underlying ht.und,hx,hy,hg,hc,hf,h1]
  .simp only[htl,List.getElem_eraseIdx];rw[htl,List.length_eraseIdx_of_lt hlt']at hj;split
   .exact⟨h2.rep (hr j (by omega) (by omega)).1,h2.rep (hr j (by omega) (by omega)).2⟩
   .exact⟨h2.rep (hr (j+1) (by omega) (by omega)).1,h2.rep (hr (j+1) (by omega) (by omega)).2⟩
  .rw[htl];obtain⟨b1,b2⟩:=ho.bo _ _ _ rfl;exact⟨b1.sublist ((List.eraseIdx_sublist _ _).map _),λe he=>b2 e ((List.eraseIdx_sublist _ _).subset he)⟩
end
end
section
def fvB(P:Program)(t:TypeId)(i off:Nat):Bool:=match P.underlying t with
 |some (.struct fs)=>match fs[i]? with
  |some fd=>fd.offset==off&&tyB P fd.type false 1
  |none=>false
 |_=>false
section
variable {P:Program} {N:Nat} {ops:Array Oper} {R:List PanicEntry->World->Prop} {m:Bool} {K:Fr->World->Prop} {os:List Oper} {f:Fr} {w:World}
variable {dst:Option Tmp} {ty:TypeId} {pos:String} {af:Array Edge} {I:Reg} {T A:Own} {x y z:Operand} {t e u:TypeId} {sz nb:Nat} {kd:IntKind} {a b:Int}
variable {fn:FuncId} {k:List Item}
theorem Axo{i off:Nat}{cs:Array Value}{v:Value}(hf:fvB P t i off=true)(hx:ev f x=.agg cs)(hv:cs[off]?=some v)(h:WL P N ops R m K os (put N f dst v) w):WL P N ops R m K (⟨dst,.field t x i,ty,pos,af,none⟩::os) f w:=by
 unfold fvB at hf;cases hu:P.underlying t with
 |none=>simp [hu]at hf
 |some d=>
  cases d<;>simp only[hu,Bool.false_eq_true]at hf;rename_i fs;cases hi:fs[i]? with
  |none=>simp [hi]at hf
  |some fd=>
   simp only[hi,Bool.and_eq_true,beq_iff_eq]at hf;exact Axp ⟨fs,fd,hu,hi,hf.1,hf.2⟩ hx hv h
theorem Zs{α:Type}[Rep α]{z:Value}{zd:α}{n:Nat}(hz:rep I w z zd):Fj I w (((Array.range (n*Rep.size α)).map λk=>z.cells[k%z.cells.size]!)[·]?) (List.replicate n zd):=by
 intro j hj;rw[List.length_replicate]at hj;refine⟨z,by rw[List.getElem_replicate];exact hz,λi hi=>?_⟩;have hs:=Rep.cells hz;have hlt:j*Rep.size α+i<n*Rep.size α:=by have:(j+1)*Rep.size α<=n*Rep.size α:=Nat.mul_le_mul_right _ hj;rw[Nat.add_mul,Nat.one_mul]at this;omega
 have hm:(j*Rep.size α+i)%z.cells.size=i:=by rw[hs,Nat.mul_comm,Nat.mul_add_mod];exact Nat.mod_eq_of_lt (by omega)
 simp [hlt,hm,hi]
theorem A02{α:Type}[Rep α]{n:Nat}{zv:Value}{zd:α}(ht:slB P t e (Rep.size α) nb=true)(hs:St I w T)(hx:ev f x=.int .i64 a)(hy:ev f y=.int .i64 b)(ha:a=(n:Int))(hb:b=(n:Int))(hzv:zrB P e zv)(hzr:∀(I:Reg)(w:World),rep I w zv zd)(hnb:n*nb<=281474976710656)(hn:n<=9223372036854775807)(h:∀v A w',Ext I w I w'->St I w' (A++T)->Cc I w' A v (List.replicate n zd)->WL P N ops R m K os (put N f dst v) w'):WL P N ops R m K (⟨dst,.makeSlice t x y,ty,pos,af,none⟩::os) f w:=by
 obtain⟨i,z,hi,hsz,hbt,hz,hzs⟩:=(Hy ht).info;have hu:=(Hy ht).under;obtain rfl:z=zv:=by unfold zrB at hzv;simp only[hi,Option.bind_some,hz,Option.some.injEq]at hzv;exact hzv
 subst ha hb;have hw:IntKind.i64.wrap (n:Int)=n:=Afb (by omega) (by omega);have h1:¬((i.bytes:Int)*(n:Int)>281474976710656):=by rw[hbt];have h2:((nb*n:Nat):Int)<=((281474976710656:Nat):Int):=Int.ofNat_le.2 (by rw[Nat.mul_comm];exact hnb);rw[Int.natCast_mul]at h2;omega
 obtain⟨e1,s1⟩:=hs.alloc (.cells ((Array.range (n*Rep.size α)).map λk=>z.cells[k%z.cells.size]!) e);by_cases h0:n*Rep.size α=0
 .have hn0:n=0:=by rcases Nat.mul_eq_zero.1 h0 with h|h;exact h;have:=Rep.pos (α:=α);omega
  subst hn0;refine Ax (v:=.slice (some ⟨w.heap.size,0,none⟩) 0 0) ?_ (h _ _ _ e1 s1 (Cc.mk0 (by simp) (by simp) (by unfold maxLen;omega) (by simp) ((Zs (hzr I w)).mono e1)));have hw0:IntKind.i64.wrap 0=0:=by decide
  simp [execOp,Instr.makeSlice,run_underlying hu,hx,hy,asInt,asIntOf,typeInfo,hi,hw0,sizeOf,newRow,show Array.range 0=#[] from rfl]
 .refine Ax (v:=.slice (some ⟨w.heap.size,0,none⟩) n n) ?_ (h _ _ _ e1 s1 (Cc.mk0 (by simp) (by simp) (by unfold maxLen;omega) (by simp) ((Zs (hzr I w)).mono e1)));simp [execOp,Instr.makeSlice,run_underlying hu,hx,hy,asInt,asIntOf,typeInfo,hi,hw,sizeOf,hsz,h0,newRow,zeroValue,hz];omega
end
end
section
instance:Rep (Option Nat) where
 size:=1
 agg:=false
 rep _ _ v p:=v=.pointer (p.map λb=>⟨b,0,none⟩)
 pos:=by decide
 cells h:=by subst h;rfl
 form h:=by subst h;simp [Value.cells]
 one h:=by subst h;simp [Value.cells,Value.oneCell']
 mono _ h:=h
structure HK(ω:Type) where
 ob:ω->Reg->World->Own->Nat->Prop
 mono:∀{o:ω}{I:Reg}{w:World}{I':Reg}{w':World}{A:Own}{b:Nat},Ext I w I' w'->ob o I w A b->ob o I' w' A b
 self:∀{o:ω}{I:Reg}{w:World}{A:Own}{b:Nat},ob o I w A b->∃x A',A=(b,x)::A'
 gl:Reg->World->Prop
 glm:∀{I:Reg}{w:World}{I':Reg}{w':World},Ext I w I' w'->gl I w->gl I' w'
abbrev Hp(ω:Type):=Nat->Option ω
def Ab{ω:Type}(H:Hp ω)(b:Nat)(o:ω):Hp ω:=λc=>if c=b then some o else H c
theorem Aj{ω:Type}(H:Hp ω)(b:Nat)(o:ω):Ab H b o b=some o:=if_pos rfl
theorem Ad{ω:Type}(H:Hp ω){b c:Nat}(o:ω)(h:c≠b):Ab H b o c=H c:=if_neg h
theorem Q5{ω:Type}{H:Hp ω}{b:Nat}{o:ω}(h:H b=some o):Ab H b o=H:=by
 funext c;unfold Ab;split
 .rename_i e;rw[e,h]
 .rfl
theorem Akc{ω:Type}(H:Hp ω)(b:Nat)(o o':ω):Ab (Ab H b o) b o'=Ab H b o':=by funext c;unfold Ab;split<;>rfl
def lk{ω:Type}:List (Nat×ω)->Nat->Option ω
 | [],_=>none
 |p::l,b=>if b=p.1 then some p.2 else lk l b
section
variable {ω:Type} {K:HK ω} {I:Reg} {w:World}
def HpL(K:HK ω)(I:Reg)(w:World):List (Nat×ω)->Own->Prop
 | [],A=>A=[]/\K.gl I w
 |p::l,A=>∃A1 A2,A=A1++A2/\K.ob p.2 I w A1 p.1/\HpL K I w l A2
structure HpR(K:HK ω)(I:Reg)(w:World)(H:Hp ω)(A:Own):Prop where
 ex:∃L,(∀b,lk L b=H b)/\HpL K I w L A
structure HpX(K:HK ω)(I:Reg)(w:World)(H:Hp ω)(b:Nat)(A:Own):Prop where
 ex:∃L,(∀c,c≠b->lk L c=H c)/\HpL K I w L A
theorem HpL.mono{I':Reg}{w':World}(e:Ext I w I' w'):∀{L:List (Nat×ω)}{A:Own},HpL K I w L A->HpL K I' w' L A
 | [],_,h=>⟨h.1,K.glm e h.2⟩
 |_::_,_,⟨A1,A2,h1,h2,h3⟩=>⟨A1,A2,h1,K.mono e h2,HpL.mono e h3⟩
theorem HpL.gl:∀{L:List (Nat×ω)}{A:Own},HpL K I w L A->K.gl I w
 | [],_,h=>h.2
 |_::_,_,⟨_,_,_,_,h⟩=>HpL.gl h
theorem HpR.mono{I':Reg}{w':World}{H:Hp ω}{A:Own}(h:HpR K I w H A)(e:Ext I w I' w'):HpR K I' w' H A:=by obtain⟨L,h1,h2⟩:=h.ex;exact⟨L,h1,h2.mono e⟩
theorem HpX.mono{I':Reg}{w':World}{H:Hp ω}{b:Nat}{A:Own}(h:HpX K I w H b A)(e:Ext I w I' w'):HpX K I' w' H b A:=by obtain⟨L,h1,h2⟩:=h.ex;exact⟨L,h1,h2.mono e⟩
theorem HpL.split{b:Nat}{o:ω}:∀{L:List (Nat×ω)}{A:Own},HpL K I w L A->lk L b=some o->∃A1 A2 L',A.Perm (A1++A2)/\K.ob o I w A1 b/\HpL K I w L' A2/\∀c,c≠b->lk L' c=lk L c
 | [],_,_,hb=>by simp [lk]at hb
 |p::l,A,⟨A1,A2,h1,h2,h3⟩,hb=>by
  unfold lk at hb;by_cases hc:b=p.1
  .rw[if_pos hc]at hb;obtain rfl:=Option.some.inj hb;subst hc;exact⟨A1,A2,l,h1▸List.Perm.refl _,h2,h3,λc hc=>by rw[lk,if_neg hc]⟩
  .rw[if_neg hc]at hb;obtain⟨B1,B2,L',hp,ho,hl,hn⟩:=HpL.split h3 hb;refine⟨B1,A1++B2,p::L',?_,ho,⟨A1,B2,rfl,h2,hl⟩,λc hcb=>by rw[lk,lk,hn c hcb]⟩;subst h1;refine(hp.append_left A1).trans ?_;rw[<-List.append_assoc,<-List.append_assoc];exact List.perm_append_comm.append_right _
variable {H:Hp ω} {A:Own} {b:Nat} {o:ω}
theorem HpR.take{T:Own}(h:HpR K I w H A)(hb:H b=some o)(s:St I w (A++T)):∃A1 A2,K.ob o I w A1 b/\HpX K I w H b A2/\St I w (A1++(A2++T)):=by obtain⟨L,h1,h2⟩:=h.ex;obtain⟨A1,A2,L',hp,ho,hl,hn⟩:=h2.split ((h1 b).trans hb);exact⟨A1,A2,ho,⟨L',λc hc=>(hn c hc).trans (h1 c),hl⟩,s.perm (by rw[<-List.append_assoc];exact hp.append_right T)⟩
variable {A1:Own}
theorem HpX.lay{A2:Own}(h:HpX K I w H b A2)(ho:K.ob o I w A1 b):HpR K I w (Ab H b o) (A1++A2):=by
 obtain⟨L,h1,h2⟩:=h.ex;refine⟨(b,o)::L,λc=>?_,A1,A2,rfl,ho,h2⟩;unfold lk Ab;by_cases hc:c=b
 .rw[if_pos hc,if_pos hc]
 .rw[if_neg hc,if_neg hc,h1 c hc]
theorem HpX.back{A2:Own}(h:HpX K I w H b A2)(hb:H b=some o)(ho:K.ob o I w A1 b):HpR K I w H (A1++A2):=by have:=h.lay ho;rwa [Q5 hb]at this
theorem HpL.fresh{b:Nat}:∀{L:List (Nat×ω)}{A:Own},HpL K I w L A->(∀p∈A,p.1≠b)->lk L b=none
 | [],_,_,_=>rfl
 |p::l,A,⟨A1,A2,h1,h2,h3⟩,hn=>by subst h1;obtain⟨x,A',rfl⟩:=K.self h2;rw[lk,if_neg,HpL.fresh h3 (λq hq=>hn q (List.mem_append_right _ hq))];exact λe=>hn (p.1,x) (by simp) e.symm
theorem HpR.fresh{T:Own}(h:HpR K I w H A)(ho:K.ob o I w A1 b)(s:St I w (A1++(A++T))):H b=none:=by obtain⟨L,h1,h2⟩:=h.ex;rw[<-h1 b];refine h2.fresh λp hp e=>?_;obtain⟨x,A',rfl⟩:=K.self ho;have hn:=s.nodup;rw[List.map_append,List.nodup_append]at hn;exact hn.2.2 b (by simp) p.1 (List.mem_map_of_mem (List.mem_append_left _ hp)) e.symm
theorem HpR.new(h:HpR K I w H A)(ho:K.ob o I w A1 b):HpR K I w (Ab H b o) (A1++A):=by obtain⟨L,h1,h2⟩:=h.ex;exact HpX.lay ⟨L,λc _=>h1 c,h2⟩ ho
end
end
end Go.X
