/-
  The Y layer, part w2: maps that are handed on ('mref'): they are objects of the heap. (Merged by program out of 7 texts.)
-/
import Derived.Test.YtcbkbpjlbmalmaaGreatDoorpac
import Derived.Test.YtcbkbpjlbmalmaaGreatDoorpaf
namespace Go.X
open Go Go.RowKit
section
section
variable {α:Type} [Rep α] {P:Program} {I:Reg} {w:World} {T A:Own} {t u e:TypeId} {nb:Nat}
theorem Aza{v yv:Value}{xs ys:List α}{lo:Nat}{ty:TypeId}(ho:Cc I w A v xs)(hs:St I w (A++T))(hy:Nws I w yv ys)(hlo:lo<=xs.length)(ht:slB P t e (Rep.size α) nb=true):∃A' w',(Builtin.copy_ #[t,u] ty #[Aij v lo (Rep.size α),yv]).run P w=.ok (goInt ((min ys.length (xs.length-lo):Nat):Int)) w'/\Ext I w I w'/\St I w' (A'++T)/\Cc I w' A' v (xs.take lo++(ys.take (min ys.length (xs.length-lo))++xs.drop (lo+min ys.length (xs.length-lo)))):=by
 have hsl:=Hy ht;obtain⟨ya,yc,hyv⟩:=hy.sh;have hmin:∀a b:Nat,Nat.min a b=min a b:=λ_ _=>rfl;generalize hn:min ys.length (xs.length-lo)=n;have hmc:min (ys.length:Int) ((xs.length:Int)-(lo:Int))=(n:Int):=by omega
 by_cases hz:n=0
 .have hf0:∀(a:Option Addr)(l c:Nat),(Builtin.firstCells (Rep.size α) 0 (.slice a l c)).run P w=.ok #[] w:=λa l c=>by cases a<;>simp [Builtin.firstCells,loadCells,loadCellsFrom]
  have hxs:xs.take lo++(ys.take n++xs.drop (lo+n))=xs:=by rw[hz];simp
  refine⟨A,w,?_,Ext.refl _ _,hs,Cc.cast hxs.symm ho⟩;obtain⟨a,cap,hv,_⟩:=ho.len;rw[hv,hyv];by_cases hc:cap=lo
  .cases a<;>simp [Builtin.copy_,run_underlying hsl.under,Builtin.lenOf,Aij,hmin,hn,hmc,hz,hsl.size,hf0,hc,storeCells]
  .cases a<;>simp [Builtin.copy_,run_underlying hsl.under,Builtin.lenOf,Aij,hmin,hn,hmc,hz,hsl.size,hf0,hc,storeCells]
 have hyne:ys≠[]:=λe=>by subst e;simp at hn;omega
 obtain⟨ya,yc,hyv,news,n1,n2,n3,n4⟩:=hy.ne hyne;rcases ho.ex with ⟨_,rfl,_⟩|⟨b,arr,cap,e0,off,rfl,rfl,h3,h4,h5,h6⟩
 .simp at hn;omega
 have hny:n<=ys.length:=by omega
 have hnx:lo+n<=xs.length:=by omega
 have hc:¬cap=lo:=by omega
 have hb:=(hs.own (b,.cells arr e0 (0,0)) (by simp)).1;have hfit:off+xs.length*Rep.size α<=arr.size:=Nat.le_trans (Nat.add_le_add_left (Nat.mul_le_mul_right _ h3) _) h5;have hfn:lo*Rep.size α+n*Rep.size α<=xs.length*Rep.size α:=by rw[<-Nat.add_mul];exact Nat.mul_le_mul_right _ hnx
 have hnl:(news.take (n*Rep.size α)).length=n*Rep.size α:=by rw[List.length_take,n1];exact Nat.min_eq_left (Nat.mul_le_mul_right _ hny)
 have hf:=run_firstCells_some (P:=P) w (Rep.size α) n ya ys.length yc (news.take (n*Rep.size α)) hnl (λj u hu=>by
  have hj:j<n*Rep.size α:=by have:=(List.getElem?_eq_some_iff.1 hu).1;omega
  rw[List.getElem?_take_of_lt hj]at hu;exact n2 j u hu)
 have hst:=run_storeCells_at P b (off+lo*Rep.size α) e0 (news.take (n*Rep.size α)) 0 arr w hb (by rw[hnl];omega) (λu hu=>n3 u (List.mem_of_mem_take hu));simp only[Nat.add_zero]at hst;generalize hrow:(List.take (off+lo*Rep.size α) arr.toList++news.take (n*Rep.size α)++List.drop (off+lo*Rep.size α+(news.take (n*Rep.size α)).length) arr.toList).toArray=row at hst;obtain⟨e1,s1⟩:=hs.write (w':=w.setRow b row) rfl rfl rfl (by simp [World.setRow]) (setRow_heap w b arr _ e0 _ hb) (λc hc=>setRow_other w b c _ hc);have hlen':(xs.take lo++(ys.take n++xs.drop (lo+n))).length=xs.length:=by simp;omega
 refine⟨_,_,?_,e1,s1,⟨.inr ⟨b,_,cap,_,off,rfl,by rw[hlen'],by rw[hlen'];exact h3,h4,?_,?_⟩⟩⟩
 .rw[hyv];simp [Builtin.copy_,run_underlying hsl.under,Builtin.lenOf,Aij,hmin,hn,hmc,hsl.size,hc,Gv,hf,hst]
 all_goals subst hrow
 .simp only[List.size_toArray,List.length_append,hnl,List.length_take,List.length_drop,Array.length_toList];omega
 .have hlen:(List.take (off+lo*Rep.size α) arr.toList).length=off+lo*Rep.size α:=by rw[List.length_take,show arr.toList.length=arr.size from rfl];omega
  have htl:(xs.take lo).length=lo:=by simp;omega
  have htn:(ys.take n).length=n:=by simp;omega
  refine Fj.append ((h6.take lo).mono e1) (g2:=λk=>if k<n*Rep.size α then news[k]? else arr[off+(lo*Rep.size α+k)]?) (Fj.append ((n4.take n).mono e1) (g2:=λk=>arr[off+((lo+n)*Rep.size α+k)]?) ((h6.drop (lo+n)).mono e1) ?_ ?_) ?_ ?_
  .intro k hk;rw[htn]at hk;simp only[hk,if_true]
  .intro k hk;rw[htn];simp only[show ¬n*Rep.size α+k<n*Rep.size α by omega,if_false];rw[Nat.add_mul,Nat.add_assoc]
  .intro k hk;rw[htl]at hk;simp only[List.getElem?_toArray,List.append_assoc];rw[List.getElem?_append_left (by omega),List.getElem?_take_of_lt (by omega),Array.getElem?_toList]
  .intro k hk;rw[htl];simp only[List.getElem?_toArray,List.append_assoc];rw[<-Nat.add_assoc,List.getElem?_append_right (by omega),hlen,Nat.add_sub_cancel_left];by_cases h:k<n*Rep.size α
   .rw[List.getElem?_append_left (by omega),List.getElem?_take_of_lt h,if_pos h]
   .rw[List.getElem?_append_right (by omega),if_neg h,hnl,List.getElem?_drop,Array.getElem?_toList];congr 1;omega
end
end
end Go.X
namespace Go.Y
open Go Go.RowKit Go.X
section
section
variable {Y:Sys}
def cpS(c:Cf Y)(t e:TypeId)(nb i lo:Nat)(T:Ty)(xs:List (den Y.D T))(b:AV Y)(k:AV Y->Cf Y->Prop):Prop:=match nwA c T b with
 |some ys=>chk (slB Y.P t e (sz Y.toUS T) nb) (lo<=xs.length/\k (.nat (min ys.length (xs.length-lo))) {c.Hd with sg:=(i,.sl T (xs.take lo++(ys.take (min ys.length (xs.length-lo))++xs.drop (lo+min ys.length (xs.length-lo)))))::Kc c.sg i})
 |none=>False
def cpX(c:Cf Y)(t:TypeId)(x y:Operand)(k:AV Y->Cf Y->Prop):Prop:=match slI Y.P t,evA c x,evA c y with
 |some (e,nb),some (.own i),some b=>match lkS c.sg i with
  |some (.sl T xs)=>cpS c t e nb i 0 T xs b k
  |_=>False
 |some (e,nb),some (.sub i T' lo),some b=>match lkS c.sg i with
  |some (.sl T xs)=>match Ty.dec T' T with
   | .isTrue _=>cpS c t e nb i lo T xs b k
   | .isFalse _=>False
  |_=>False
 |_,_,_=>False
variable {g0 g:Gst} {T0 AH A:Own} {c:Cf Y} {f:Fr} {t:TypeId} {x:Operand} {k:AV Y->Cf Y->Prop}
theorem Ay9(h:RG g0 T0 c f g AH A){u e:TypeId}{nb i lo:Nat}{T:Ty}{xs:List (den Y.D T)}{b:AV Y}{y:Operand}(hs:lkS c.sg i=some (.sl T xs))(hk:cpS c t e nb i lo T xs b k)(hx:ev f x=Aij (g.μ i) lo (sz Y.toUS T))(hb:AR g b (ev f y)):Eff g0 T0 f g.w (.call ⟨.builtin .copy,#[x,y],#[t,u]⟩) k g:=by
 intro N ops R K os dst ty pos af next;unfold cpS at hk;split at hk
 .rename_i ys hys;obtain⟨ht,hlo,hk⟩:=Bj hk;letI:Rep (den Y.D T):=RT Y.toUS T
  have hyr:@Nws _ (RT Y.toUS T) g.I g.w (ev f y) ys:=Axr h hys hb;obtain⟨A1,A2,ho,hin,hst,back⟩:=h.Hd.upd (s:=.sl T xs) hs;have ho':OSl Y T g.I g.w A1 (g.μ i) xs:=ho;have hbd:=@Cc.bd _ (RT Y.toUS T) _ _ _ _ _ ho';obtain⟨A',w',h1,h2,h3,h4⟩:=Aza (α:=den Y.D T) (u:=u) (ty:=ty) ho' hst hyr hlo ht;have hle:Le g {g with w:=w'}:=⟨h2,Nat.le_refl _,λ_ _=>rfl,rfl⟩
  have:=next _ (.nat (min ys.length (xs.length-lo))) _ {g with w:=w'} AH (A'++A2) hle (back (.sl T _) A' {g with w:=w'} hle rfl h4 h3) ⟨rfl,by omega⟩ hk;have h1':(Builtin.copy_ #[t,u] ty #[ev f x,ev f y]).run Y.P g.w=.ok (goInt ((min ys.length (xs.length-lo):Nat):Int)) w':=by rw[hx];exact h1
  refine Ax ?_ this;simp [execOp,resolve,invoke,builtin,h1',goInt]
 .exact hk.elim
theorem A6h(h:RG g0 T0 c f g AH A){u:TypeId}{y:Operand}(hk:cpX c t x y k):Eff g0 T0 f g.w (.call ⟨.builtin .copy,#[x,y],#[t,u]⟩) k g:=by
 unfold cpX at hk;split at hk
 .rename_i e nb i b h1 h2 h3;split at hk
  .rename_i T xs hs;refine Ay9 h hs hk ?_ (h.ev h3);obtain⟨A1,A2,_,_,ho,_⟩:=h.sg.take hs;obtain⟨a,cap,hv,_⟩:=@Cc.len _ (RT Y.toUS T) _ _ _ _ _ ho;rw[(h.ev h2).2,hv];cases a<;>simp [Aij,Addr.add]
  .exact hk.elim
 .rename_i e nb i T' lo b h1 h2 h3;split at hk
  .rename_i T xs hs;split at hk
   .rename_i e _;subst e;exact Ay9 h hs hk (h.ev h2).2.1 (h.ev h3)
   .exact hk.elim
  .exact hk.elim
 .exact hk.elim
theorem Avi{α:Type}[Rep α]{P:Program}{I:Reg}{w:World}{T:Own}{e:TypeId}{nb:Nat}{v:Value}{xs:List α}{ty:TypeId}{z:Value}{zd:α}(ho:Cc I w A v xs)(hs:St I w (A++T))(ht:slB P t e (Rep.size α) nb=true)(hzv:zrB P e z)(hzr:rep I w z zd):∃A' w',(Builtin.clear_ #[t] ty #[v]).run P w=.ok (.tuple #[]) w'/\Ext I w I w'/\St I w' (A'++T)/\Cc I w' A' v (List.replicate xs.length zd):=by
 obtain⟨i,z',hi,hsz,hbt,hz,hzs⟩:=(Hy ht).info;have hu:=(Hy ht).under;obtain rfl:z'=z:=by unfold zrB at hzv;simp only[hi,Option.bind_some,hz,Option.some.injEq]at hzv;exact hzv
 rcases ho.ex with ⟨rfl,rfl,rfl⟩|⟨b,arr,cap,e0,off,rfl,rfl,h3,h4,h5,h6⟩
 .exact⟨[],w,by simp [Builtin.clear_,run_underlying hu],Ext.refl _ _,hs,Cc.nil⟩
 by_cases hn:xs.length=0
 .refine⟨_,w,?_,Ext.refl _ _,hs,?_⟩
  .rw[hn];simp [Builtin.clear_,run_underlying hu]
  .have:xs=[]:=List.length_eq_zero_iff.1 hn;subst this;exact⟨.inr ⟨b,arr,cap,e0,off,rfl,rfl,h3,h4,h5,h6⟩⟩
 have hb:=(hs.own (b,.cells arr e0 (0,0)) (by simp)).1;have hfit:off+xs.length*Rep.size α<=arr.size:=Nat.le_trans (Nat.add_le_add_left (Nat.mul_le_mul_right _ h3) _) h5;have hzc:z'.cells.size=Rep.size α:=Rep.cells hzr;generalize hnews:(Builtin.zeroCells z'.cells xs.length).toList=news;have hnews':news=((Array.range (xs.length*Rep.size α)).map λk=>z'.cells[k%z'.cells.size]!).toList:=by rw[<-hnews];unfold Builtin.zeroCells;rw[hzc]
 have hnl:news.length=xs.length*Rep.size α:=by rw[hnews'];simp
 have hone:∀u∈news,u.oneCell'=true:=λu hu=>by rw[hnews']at hu;simp only[Array.mem_toList_iff,Array.mem_map,Array.mem_range]at hu;obtain⟨k,hk,rfl⟩:=hu;have hlt:k%z'.cells.size<z'.cells.size:=Nat.mod_lt _ (by rw[hzc];exact Rep.pos);rw[getElem!_pos z'.cells _ hlt];exact Rep.one hzr _ (by simp)
 have hst:=run_storeCells_at P b off e0 news 0 arr w hb (by rw[hnl];omega) hone;simp only[Nat.add_zero]at hst;generalize hrow:(List.take off arr.toList++news++List.drop (off+news.length) arr.toList).toArray=row at hst;obtain⟨e1,s1⟩:=hs.write (w':=w.setRow b row) rfl rfl rfl (by simp [World.setRow]) (setRow_heap w b arr _ e0 _ hb) (λc hc=>setRow_other w b c _ hc);refine⟨_,_,?_,e1,s1,⟨.inr ⟨b,_,cap,_,off,rfl,by simp,by simpa using h3,h4,?_,?_⟩⟩⟩
 .obtain⟨n,hn'⟩:∃n,xs.length=n+1:=⟨xs.length-1,by omega⟩
  rw[hn']at hnews ⊢;simp [Builtin.clear_,run_underlying hu,zeroValue,typeInfo,hi,hz,hnews,hst]
 all_goals subst hrow
 .simp only[List.size_toArray,List.length_append,hnl,List.length_take,List.length_drop,Array.length_toList];omega
 .have hlen:(List.take off arr.toList).length=off:=by rw[List.length_take,show arr.toList.length=arr.size from rfl];omega
  refine Fj.congr ((Zs (n:=xs.length) hzr).mono e1) λk hk=>?_;rw[List.length_replicate]at hk;simp only[List.getElem?_toArray,List.append_assoc];rw[List.getElem?_append_right (by omega),hlen,Nat.add_sub_cancel_left,List.getElem?_append_left (by omega),hnews',Array.getElem?_toList]
def A6n(c:Cf Y)(t:TypeId)(x:Operand)(k:AV Y->Cf Y->Prop):Prop:=match slI Y.P t,evA c x with
 |some (e,nb),some (.own i)=>match lkS c.sg i,zro Y.P e with
  |some (.sl T xs),some z=>match Adx (Y:=Y) T z with
   |some zd=>chk (slB Y.P t e (sz Y.toUS T) nb) (k (.val (.tuple #[])) {c.Hd with sg:=(i,.sl T (List.replicate xs.length zd))::Kc c.sg i})
   |none=>False
  |_,_=>False
 |some (e,nb),some (.val (.slice none 0 0))=>chk (Ka Y.P t dSl) (k (.val (.tuple #[])) c)
 |_,_=>False
theorem A2c(h:RG g0 T0 c f g AH A)(hk:A6n c t x k):Eff g0 T0 f g.w (.call ⟨.builtin .clear,#[x],#[t]⟩) k g:=by
 intro N ops R K os dst ty pos af next;unfold A6n at hk;split at hk
 .rename_i e nb i h1 h2;split at hk
  .rename_i T xs z hs hz;split at hk
   .rename_i zd hzd;obtain⟨ht,hk⟩:=Bj hk;letI:Rep (den Y.D T):=RT Y.toUS T
    obtain⟨A1,A2,ho,hin,hst,back⟩:=h.Hd.upd (s:=.sl T xs) hs;have ho':OSl Y T g.I g.w A1 (g.μ i) xs:=ho;obtain⟨A',w',h1,h2',h3,h4⟩:=Avi (α:=den Y.D T) (ty:=ty) (zd:=zd) ho' hst ht hz (Ya hzd);have hle:Le g {g with w:=w'}:=⟨h2',Nat.le_refl _,λ_ _=>rfl,rfl⟩
    have:=next _ (.val (.tuple #[])) _ {g with w:=w'} AH (A'++A2) hle (back (.sl T _) A' {g with w:=w'} hle rfl h4 h3) rfl hk;have h1':(Builtin.clear_ #[t] ty #[ev f x]).run Y.P g.w=.ok (.tuple #[]) w':=by rw[(h.ev h2).2];exact h1
    refine Ax ?_ this;simp [execOp,resolve,invoke,builtin,h1']
   .exact hk.elim
  .exact hk.elim
 .rename_i e nb h1 h2;obtain⟨ht,hk⟩:=Bj hk;obtain⟨e',ht⟩:=R7 ht;have hx:ev f x=.slice none 0 0:=h.ev h2;refine Ax ?_ (next _ (.val (.tuple #[])) c g AH A (Le.refl _) h rfl hk);simp [execOp,resolve,invoke,builtin,Builtin.clear_,hx,run_underlying ht]
 .exact hk.elim
end
end
section
section
variable {Y:Sys}
def Zv:(a b:List Ty)->Decidable (a=b)
 | [],[]=>.isTrue rfl
 | [],_::_=>.isFalse (by simp)
 |_::_,[]=>.isFalse (by simp)
 |a::as,b::bs=>match Ty.dec a b,Zv as bs with
  | .isTrue h,.isTrue h'=>.isTrue (by rw[h,h'])
  | .isFalse h,_=>.isFalse (λe=>h (List.cons.inj e).1)
  |_,.isFalse h=>.isFalse (λe=>h (List.cons.inj e).2)
def Yh:(ts:List Ty)->Tup Y ts->List (AV Y)
 | [],_=>[]
 |t::ts,x=>.dat t x.1::Yh ts x.2
theorem Xq{g:Gst}:∀{ts:List Ty}{x:Tup Y ts}{vs:List Value},Ah6 Y g.I g.w ts x vs->F2 (AR g) (Yh ts x) vs
 | [],_,_,h=>by cases h;exact .nil
 |_::_,_,_,⟨v,vs',h1,h2,h3⟩=>by subst h1;exact .cons h2 (Xq h3)
def rT:(l:List RK)->(ts:List Ty)->R2 Y l->Option (Tup Y ts)
 | [],[],_=>some ()
 | .dat t::l,t'::ts,x=>match Ty.dec t t',rT l ts x.2 with
  | .isTrue h,some r=>some (h▸x.1,r)
  |_,_=>none
 |_,_,_=>none
theorem A24{I:Reg}{w:World}:∀{l:List RK}{ts:List Ty}{x:R2 Y l}{r:Tup Y ts}{vs:List Value}{A:Own},rT l ts x=some r->ReR Y I w l x vs A->Ah6 Y I w ts r vs/\A=[]
 | [],[],_,_,_,_,_,⟨h1,h2⟩=>⟨h1,h2⟩
 | .dat t::l,t'::ts,x,r,vs,A,h,hr=>by
  unfold rT at h;split at h
  .rename_i e r' _ h2;subst e;cases h;obtain⟨v,vs',h3,h4,h5⟩:=hr;obtain⟨h6,h7⟩:=A24 h2 h5;exact⟨⟨v,vs',h3,h4,h6⟩,h7⟩
  .cases h
 | [],_::_,_,_,_,_,h,_=>by simp [rT]at h
 | .dat _::_,[],_,_,_,_,h,_=>by simp [rT]at h
 | .own _::_,_,_,_,_,_,h,_=>by simp [rT]at h
 | .map _ _::_,_,_,_,_,_,h,_=>by simp [rT]at h
 | .ownO _::_,_,_,_,_,_,h,_=>by simp [rT]at h
def asF(sigs:FuncId->Option Sig)(mk:(ks:List AK)->List (AV Y)->Option (N8 Y ks))(sg:List (Nat×Seg Y))(as rs:List Ty):AV Y->Option (FT Y as rs)
 | .fn as' rs' F=>match Zv as' as,Zv rs' rs with
  | .isTrue h,.isTrue h'=>some (h▸h'▸F)
  |_,_=>none
 | .own j=>match lkS sg j with
  |some (.clo q fs cs)=>match sigs q,En Y.P q with
   |some σ,true=>some λa H Q X=>match mk σ.args (fs++(Yh as a++cs)) with
    |some tup=>Wp Y q σ tup H (λb _ H'=>match rT σ.res rs b with
     |some r=>Q r H'
     |none=>False) X
    |none=>False
   |_,_=>none
  |_=>none
 | .val (.func (.func q) ⟨[]⟩ ⟨[]⟩)=>match sigs q,En Y.P q with
  |some σ,true=>some λa H Q X=>match mk σ.args (Yh as a) with
   |some tup=>Wp Y q σ tup H (λb _ H'=>match rT σ.res rs b with
    |some r=>Q r H'
    |none=>False) X
   |none=>False
  |_,_=>none
 |_=>none
def dlA(t:Ty):AV Y->Option (den Y.D t)
 | .del T x 0=>match Ty.dec T t with
  | .isTrue h=>some (h▸x)
  | .isFalse _=>none
 |_=>none
variable {g:Gst} {a:AV Y} {v:Value}
theorem Ay3{t:Ty}{x:den Y.D t}(h:dlA t a=some x)(ha:AR g a v):A82 Y t g.I g.w x v:=by
 unfold dlA at h;split at h
 .split at h
  .rename_i e _;subst e;cases h;exact ha
  .cases h
 .cases h
def fbA(as rs:List Ty):AV Y->Option (FT Y as rs)
 | .fbx as' rs' F=>match Zv as' as,Zv rs' rs with
  | .isTrue h,.isTrue h'=>some (h▸h'▸F)
  |_,_=>none
 |_=>none
variable {as rs:List Ty}
theorem Ayu{F:FT Y as rs}(h:fbA as rs a=some F)(ha:AR g a v):FbR Y as rs F g.I g.w v:=by
 unfold fbA at h;split at h
 .split at h
  .rename_i e e' _ _;subst e e';cases h;exact ha
  .cases h
 .cases h
def mk0:(ks:List AK)->List (AV Y)->Option (N8 Y ks)
 | [],[]=>some ()
 | .dat t::ks,a::as=>match asD t a,mk0 ks as with
  |some x,some r=>some (x,r)
  |_,_=>none
 | .mob::ks,.mob b::as=>match mk0 ks as with
  |some r=>some (b,r)
  |none=>none
 | .fn ts rs::ks,.fn ts' rs' F::as=>match Zv ts' ts,Zv rs' rs,mk0 ks as with
  | .isTrue h,.isTrue h',some r=>some (h▸h'▸F,r)
  |_,_,_=>none
 | .del t::ks,a::as=>match dlA t a,mk0 ks as with
  |some x,some r=>some (x,r)
  |_,_=>none
 | .fbx ts rs::ks,a::as=>match fbA ts rs a,mk0 ks as with
  |some x,some r=>some (x,r)
  |_,_=>none
 |_,_=>none
theorem Adq{g:Gst}:∀{ks:List AK}{as:List (AV Y)}{r:N8 Y ks}{vs:List Value},mk0 ks as=some r->F2 (AR g) as vs->ArR Y g.I g.w ks r vs []/\∀I w io us A,IoR Y I w ks io us A->A=[]
 | [],[],_,_,_,.nil=>⟨⟨rfl,rfl⟩,λ_ _ _ _ _ h=>h⟩
 | .dat t::ks,a::as,r,v::vs,h,.cons h1 h2=>by
  unfold mk0 at h;split at h
  .rename_i x r' hx hr;cases h;obtain⟨h3,h4⟩:=Adq hr h2;exact⟨⟨v,vs,rfl,E2 hx h1,h3⟩,λI w io us A h=>h4 _ _ _ _ _ h⟩
  .cases h
 | .mob::ks,.mob b::as,r,v::vs,h,.cons h1 h2=>by
  unfold mk0 at h;split at h
  .rename_i r' hr;cases h;obtain⟨h3,h4⟩:=Adq hr h2;exact⟨⟨v,vs,rfl,h1,h3⟩,λI w io us A h=>h4 _ _ _ _ _ h⟩
  .cases h
 | .fn ts rs::ks,.fn ts' rs' F::as,r,v::vs,h,.cons h1 h2=>by
  unfold mk0 at h;split at h
  .rename_i e e' r' _ _ hr;subst e e';cases h;obtain⟨h3,h4⟩:=Adq hr h2;exact⟨⟨v,vs,rfl,h1,h3⟩,λI w io us A h=>h4 _ _ _ _ _ h⟩
  .cases h
 | .del t::ks,a::as,r,v::vs,h,.cons h1 h2=>by
  unfold mk0 at h;split at h
  .rename_i x r' hx hr;cases h;obtain⟨h3,h4⟩:=Adq hr h2;exact⟨⟨v,vs,rfl,Ay3 hx h1,h3⟩,λI w io us A h=>h4 _ _ _ _ _ h⟩
  .cases h
 | .fbx ts rs::ks,a::as,r,v::vs,h,.cons h1 h2=>by
  unfold mk0 at h;split at h
  .rename_i x r' hx hr;cases h;obtain⟨h3,h4⟩:=Adq hr h2;exact⟨⟨v,vs,rfl,Ayu hx h1,h3⟩,λI w io us A h=>h4 _ _ _ _ _ h⟩
  .cases h
 | .fbx _ _::_,[],_,_,h,_=>by simp [mk0]at h
 | .del _::_,[],_,_,h,_=>by simp [mk0]at h
 | [],_::_,_,_,h,_=>by simp [mk0]at h
 | .dat _::_,[],_,_,h,_=>by simp [mk0]at h
 | .mob::_,[],_,_,h,_=>by simp [mk0]at h
 | .fn _ _::_,[],_,_,h,_=>by simp [mk0]at h
 | .own _::_,_,_,_,h,_=>by simp [mk0]at h
 | .map _ _::_,_,_,_,h,_=>by simp [mk0]at h
 | .mob::_,.dat _ _::_,_,_,h,_ | .mob::_,.nat _::_,_,_,h,_ | .mob::_,.prp _ _::_,_,_,h,_ | .mob::_,.own _::_,_,_,h,_ | .mob::_,.adr _ _::_,_,_,h,_
 | .mob::_,.el _ _ _ _::_,_,_,h,_ | .mob::_,.del _ _ _::_,_,_,h,_ | .mob::_,.ptr _ _::_,_,_,h,_ | .mob::_,.hp _ _ _::_,_,_,h,_ | .mob::_,.sub _ _ _::_,_,_,h,_
 | .mob::_,.val _::_,_,_,h,_ | .mob::_,.ifc _ _ _::_,_,_,h,_ | .mob::_,.fn _ _ _::_,_,_,h,_ | .mob::_,.fbx _ _ _::_,_,_,h,_=>by simp [mk0]at h
 | .fn _ _::_,.dat _ _::_,_,_,h,_ | .fn _ _::_,.nat _::_,_,_,h,_ | .fn _ _::_,.prp _ _::_,_,_,h,_ | .fn _ _::_,.own _::_,_,_,h,_ | .fn _ _::_,.adr _ _::_,_,_,h,_
 | .fn _ _::_,.el _ _ _ _::_,_,_,h,_ | .fn _ _::_,.del _ _ _::_,_,_,h,_ | .fn _ _::_,.ptr _ _::_,_,_,h,_ | .fn _ _::_,.hp _ _ _::_,_,_,h,_ | .fn _ _::_,.sub _ _ _::_,_,_,h,_
 | .fn _ _::_,.val _::_,_,_,h,_ | .fn _ _::_,.ifc _ _ _::_,_,_,h,_ | .fn _ _::_,.mob _::_,_,_,h,_ | .fn _ _::_,.fbx _ _ _::_,_,_,h,_=>by simp [mk0]at h
theorem A2y{q:FuncId}{σ:Sig}{fs cs:List (AV Y)}{vs us:List Value}(hq:En Y.P q=true)(hf:F2 (AR g) fs vs)(hc:F2 (AR g) cs us):FvR Y as rs (λa H Q X=>match mk0 σ.args (fs++(Yh as a++cs)) with
    |some tup=>Wp Y q σ tup H (λb _ H'=>match rT σ.res rs b with
     |some r=>Q r H'
     |none=>False) X
    |none=>False) g.I g.w (.func (.func q) ⟨vs⟩ ⟨us⟩):=by
 refine⟨⟨_,_,_,rfl⟩,λa H Q X hF I w e T AH ws hws hH hst=>.inl ⟨q,_,_,rfl,hq,?_⟩⟩
 dsimp only at hF
 split at hF
 .rename_i tup ht
  have hle:Le g {g with I:=I,w:=w}:=⟨e,Nat.le_refl _,λ_ _=>rfl,rfl⟩
  have h2:F2 (AR {g with I:=I,w:=w}) (fs++(Yh as a++cs)) (vs++(ws++us)):=(hf.mono λ_ _ r=>r.mono hle).app ((Xq (g:={g with I:=I,w:=w}) hws).app (hc.mono λ_ _ r=>r.mono hle))
  obtain⟨h3,h4⟩:=Adq ht h2
  have:=hF I w T [] AH _ h3 hH hst
  rw[<-List.append_assoc]at this
  refine Ajd.mono this (λr I' w' _⟨AH',A',H',k1,k2,b,io,us',A1,A2,k3,k4,k5,k6,k7⟩=>⟨AH',A',H',k1,k2,?_⟩) (λ_ _ _ _ h=>h)
  dsimp only at k7
  split at k7
  .rename_i r' hr
   obtain⟨k8,rfl⟩:=A24 hr k5
   have:=h4 _ _ _ _ _ k6
   subst this
   exact⟨k3,r',us',k4,k8,k7⟩
  .exact k7.elim
 .exact hF.elim
theorem Ara{sigs:FuncId->Option Sig}{sg:List (Nat×Seg Y)}{A:Own}{F:FT Y as rs}(h:asF sigs mk0 sg as rs a=some F)(hs:SgR g sg A)(ha:AR g a v):FvR Y as rs F g.I g.w v:=by
 unfold asF at h;split at h
 .split at h
  .rename_i e e' _ _;subst e e';cases h;exact ha
  .cases h
 .split at h
  .rename_i q fs cs hj;split at h
   .rename_i σ _ hq;cases h;obtain⟨A1,A2,_,_,⟨_,vs,us,h3,h4,h5⟩,_⟩:=hs.take hj;have hv:=ha.2;rw[h3]at hv;subst hv;exact A2y hq h4 h5
   .cases h
  .cases h
 .split at h
  .rename_i σ _ hq;cases h;obtain rfl:v=_:=ha;have:=A2y (Y:=Y) (q:=_) (σ:=σ) (as:=as) (rs:=rs) (g:=g) (fs:=[]) (cs:=[]) hq .nil .nil;simpa using this
  .cases h
 .cases h
def mkA(sigs:FuncId->Option Sig)(all:List (Nat×Seg Y)):(ks:List AK)->List (AV Y)->List (Nat×Seg Y)->Option (N8 Y ks×List (Nat×Seg Y))
 | [],[],sg=>some ((),sg)
 | .dat t::ks,a::as,sg=>match asD t a,mkA sigs all ks as sg with
  |some x,some r=>some ((x,r.1),r.2)
  |_,_=>none
 | .own t::ks,.own i::as,sg=>match lkS sg i with
  |some (.sl T xs)=>match Ty.dec T t,mkA sigs all ks as (Kc sg i) with
   | .isTrue h,some r=>some (((h▸xs:List (den Y.D t)),r.1),r.2)
   |_,_=>none
  |_=>none
 | .map k e::ks,.own i::as,sg=>match lkS sg i with
  |some (.mp k' e' m)=>match Ty.dec k' k,Ty.dec e' e,mkA sigs all ks as (Kc sg i) with
   | .isTrue h,.isTrue h',some r=>some (((h▸h'▸m:List (den Y.D k×den Y.D e)),r.1),r.2)
   |_,_,_=>none
  |_=>none
 | .mob::ks,.mob b::as,sg=>match mkA sigs all ks as sg with
  |some r=>some ((b,r.1),r.2)
  |none=>none
 | .fn ts rs::ks,a::as,sg=>match asF sigs mk0 all ts rs a,mkA sigs all ks as sg with
  |some F,some r=>some ((F,r.1),r.2)
  |_,_=>none
 | .del t::ks,a::as,sg=>match dlA t a,mkA sigs all ks as sg with
  |some x,some r=>some ((x,r.1),r.2)
  |_,_=>none
 | .fbx ts rs::ks,a::as,sg=>match fbA ts rs a,mkA sigs all ks as sg with
  |some x,some r=>some ((x,r.1),r.2)
  |_,_=>none
 |_,_,_=>none
def ioB:(ks:List AK)->List (AV Y)->U6 Y ks->List (Nat×Seg Y)
 | .own t::ks,.own i::as,x=>(i,.sl t x.1)::ioB ks as x.2
 | .map k e::ks,.own i::as,x=>(i,.mp k e x.1)::ioB ks as x.2
 | .dat _::ks,_::as,x=>ioB ks as x
 | .mob::ks,_::as,x=>ioB ks as x
 | .del _::ks,_::as,x=>ioB ks as x
 | .fn _ _::ks,_::as,x=>ioB ks as x
 | .fbx _ _::ks,_::as,x=>ioB ks as x
 |_,_,_=>[]
theorem perm_cons{A B C D E:Own}(h1:A.Perm (B++C))(h2:C.Perm (D++E)):A.Perm ((B++D)++E):=by rw[List.append_assoc];exact h1.trans (h2.append_left B)
def MkR(g:Gst)(ks:List AK)(as:List (AV Y))(x:N8 Y ks)(vs:List Value)(A1:Own):Prop:=ArR Y g.I g.w ks x vs A1/\∀g' io A,Le g g'->IoR Y g'.I g'.w ks io vs A->SgR g' (ioB ks as io) A
theorem Wz{sigs:FuncId->Option Sig}{all:List (Nat×Seg Y)}{g:Gst}{Aall:Own}(hall:SgR g all Aall):∀{ks:List AK}{as:List (AV Y)}{sg:List (Nat×Seg Y)}{r:N8 Y ks×List (Nat×Seg Y)}{vs:List Value}{A:Own},mkA sigs all ks as sg=some r->SgR g sg A->F2 (AR g) as vs->∃A1 A2,A.Perm (A1++A2)/\MkR g ks as r.1 vs A1/\SgR g r.2 A2
 | [],[],sg,r,_,A,h,hs,.nil=>by cases h;exact⟨[],A,List.Perm.refl _,⟨⟨rfl,rfl⟩,λg' io A _ h=>h⟩,hs⟩
 | .dat t::ks,a::as,sg,r,v::vs,A,h,hs,.cons h1 h2=>by
  unfold mkA at h;split at h
  .rename_i x r' hx hr;cases h;obtain⟨A1,A2,h3,⟨h4,h5⟩,h6⟩:=Wz hall hr hs h2;exact⟨A1,A2,h3,⟨⟨v,vs,rfl,E2 hx h1,h4⟩,λg' io A hle h=>h5 g' io A hle h⟩,h6⟩
  .cases h
 | .own t::ks,a::as,sg,r,v::vs,A,h,hs,.cons h1 h2=>by
  cases a with
  |own i=>
   simp only[mkA]at h;split at h
   .rename_i T xs hi;split at h
    .rename_i e r' _ hr;subst e;cases h;obtain⟨B1,B2,k1,k2,k3,k4⟩:=hs.take hi;obtain⟨A1,A2,h3,⟨h4,h5⟩,h6⟩:=Wz hall hr k4 h2;refine⟨B1++A1,A2,perm_cons k1 h3,⟨⟨v,vs,B1,A1,rfl,rfl,by rw[h1.2];exact k3,h4⟩,λg' io A hle h=>?_⟩,h6⟩;obtain⟨v',vs',C1,C2,e1,e2,e3,e4⟩:=h;cases e1;refine⟨C1,C2,e2,Nat.lt_of_lt_of_le k2 hle.n,?_,h5 g' _ C2 hle e4⟩;show OSl Y T _ _ _ _ _;rw[hle.μ i k2,<-h1.2];exact e3
    .cases h
   .cases h
  |_=>simp [mkA]at h
 | .map k e::ks,a::as,sg,r,v::vs,A,h,hs,.cons h1 h2=>by
  cases a with
  |own i=>
   simp only[mkA]at h;split at h
   .rename_i k' e' m hi;split at h
    .rename_i ek ee r' _ _ hr;subst ek ee;cases h;obtain⟨B1,B2,k1,k2,k3,k4⟩:=hs.take hi;obtain⟨A1,A2,h3,⟨h4,h5⟩,h6⟩:=Wz hall hr k4 h2;refine⟨B1++A1,A2,perm_cons k1 h3,⟨⟨v,vs,B1,A1,rfl,rfl,by rw[h1.2];exact k3,h4⟩,λg' io A hle h=>?_⟩,h6⟩;obtain⟨v',vs',C1,C2,e1,e2,e3,e4⟩:=h;cases e1;refine⟨C1,C2,e2,Nat.lt_of_lt_of_le k2 hle.n,?_,h5 g' _ C2 hle e4⟩;show OMp Y _ _ _ _ _ _ _;rw[hle.μ i k2,<-h1.2];exact e3
    .cases h
   .cases h
  |_=>simp [mkA]at h
 | .mob::ks,a::as,sg,r,v::vs,A,h,hs,.cons h1 h2=>by
  cases a with
  |mob b=>
   simp only[mkA]at h;split at h
   .rename_i r' hr;cases h;obtain⟨A1,A2,h3,⟨h4,h5⟩,h6⟩:=Wz hall hr hs h2;exact⟨A1,A2,h3,⟨⟨v,vs,rfl,h1,h4⟩,λg' io A hle h=>h5 g' io A hle h⟩,h6⟩
   .cases h
  |_=>simp [mkA]at h
 | .del t::ks,a::as,sg,r,v::vs,A,h,hs,.cons h1 h2=>by
  unfold mkA at h;split at h
  .rename_i x r' hx hr;cases h;obtain⟨A1,A2,h3,⟨h4,h5⟩,h6⟩:=Wz hall hr hs h2;exact⟨A1,A2,h3,⟨⟨v,vs,rfl,Ay3 hx h1,h4⟩,λg' io A hle h=>h5 g' io A hle h⟩,h6⟩
  .cases h
 | .fbx ts rs::ks,a::as,sg,r,v::vs,A,h,hs,.cons h1 h2=>by
  unfold mkA at h;split at h
  .rename_i x r' hx hr;cases h;obtain⟨A1,A2,h3,⟨h4,h5⟩,h6⟩:=Wz hall hr hs h2;exact⟨A1,A2,h3,⟨⟨v,vs,rfl,Ayu hx h1,h4⟩,λg' io A hle h=>h5 g' io A hle h⟩,h6⟩
  .cases h
 | .fn ts rs::ks,a::as,sg,r,v::vs,A,h,hs,.cons h1 h2=>by
  unfold mkA at h;split at h
  .rename_i F r' hF hr;cases h;obtain⟨A1,A2,h3,⟨h4,h5⟩,h6⟩:=Wz hall hr hs h2;exact⟨A1,A2,h3,⟨⟨v,vs,rfl,Ara hF hall h1,h4⟩,λg' io A hle h=>h5 g' io A hle h⟩,h6⟩
  .cases h
 | [],_::_,_,_,_,_,h,_,_=>by simp [mkA]at h
 |_::_,[],_,_,_,_,h,_,_=>by simp [mkA]at h
end
end
section
section
variable {Y:Sys}
def Kz(g0:Gst)(T:Own)(X:Pan Y)(R:List PanicEntry->World->Prop):Prop:=∀v w' I' AH' H' t l u,Ext g0.I g0.w I' w'->St I' w' (AH'++T)->HpR (HK' Y) I' w' H' AH'->v=.iface t u->rp Y.toUS l.t I' w' u l.x->X t l H'->R [{v,recovered:=false}] w'
def A2w(g0:Gst)(T:Own)(X:Pan Y)(f:Fr)(w:World)(op:Op)(k:AV Y->Cf Y->Prop)(g:Gst):Prop:=∀(N:Nat)(ops:Array Oper)(R:List PanicEntry->World->Prop)(K:Fr->World->Prop)(os:List Oper)(dst:Option Tmp)(ty:TypeId)(pos:String)(af:Array Edge),Kz g0 T X R->(∀v a c' g' AH' A',Le g g'->RG g0 T c' f g' AH' A'->AR g' a v->k a c'->WL Y.P N ops R false K os (Go.X.put N f dst v) g'.w)->WL Y.P N ops R false K (⟨dst,op,ty,pos,af,none⟩::os) f w
def Alc:(l:List RK)->R2 Y l->Nat->List (AV Y)×List (Nat×Seg Y)×Nat
 | [],_,n=>([],[],n)
 | .dat t::l,x,n=>let r:=Alc l x.2 n;(.dat t x.1::r.1,r.2.1,r.2.2)
 | .own t::l,x,n=>let r:=Alc l x.2 (n+1);(.own n::r.1,(n,.sl t x.1)::r.2.1,r.2.2)
 | .map k e::l,x,n=>let r:=Alc l x.2 (n+1);(.own n::r.1,(n,.mp k e x.1)::r.2.1,r.2.2)
 | .ownO _::_,_,n=>([],[],n)
theorem Afe:∀{l:List RK}{x:R2 Y l}{g:Gst}{vs:List Value}{A:Own},ReR Y g.I g.w l x vs A->∃g',Le g g'/\g'.w=g.w/\g'.I=g.I/\g'.n=(Alc l x g.n).2.2/\F2 (AR g') (Alc l x g.n).1 vs/\SgR g' (Alc l x g.n).2.1 A
 | [],x,g,vs,A,⟨h1,h2⟩=>by subst h1 h2;exact⟨g,Le.refl _,rfl,rfl,rfl,.nil,rfl⟩
 | .dat t::l,x,g,vs,A,⟨v,vs',h1,h2,h3⟩=>by subst h1;obtain⟨g',h4,h5,h6,h7,h8,h9⟩:=Afe h3;exact⟨g',h4,h5,h6,h7,.cons ((show AR g (.dat t x.1) v from h2).mono h4) h8,h9⟩
 | .own t::l,x,g,vs,A,⟨v,vs',A1,A2,h1,h2,h3,h4⟩=>by subst h1 h2;have hle:=Le.new (g:=g) (v:=v) (Ext.refl g.I g.w);obtain⟨g',k4,k5,k6,k7,k8,k9⟩:=Afe (g:=g.new g.w v) (x:=x.2) h4;have hn:g.n<(g.new g.w v).n:=Nat.lt_succ_self _;refine⟨g',hle.trans k4,k5,k6,k7,.cons (AR.mono k4 (J0 rfl)) k8,A1,A2,rfl,Nat.lt_of_lt_of_le hn k4.n,?_,k9⟩;refine SR.mono k4 hn ?_;show OSl Y t _ _ _ _ _;rw[g.Cz];exact h3
 | .ownO _::_,_,_,_,_,r=>r.elim
 | .map k e::l,x,g,vs,A,⟨v,vs',A1,A2,h1,h2,h3,h4⟩=>by subst h1 h2;have hle:=Le.new (g:=g) (v:=v) (Ext.refl g.I g.w);obtain⟨g',k4,k5,k6,k7,k8,k9⟩:=Afe (g:=g.new g.w v) (x:=x.2) h4;have hn:g.n<(g.new g.w v).n:=Nat.lt_succ_self _;refine⟨g',hle.trans k4,k5,k6,k7,.cons (AR.mono k4 (J0 rfl)) k8,A1,A2,rfl,Nat.lt_of_lt_of_le hn k4.n,?_,k9⟩;refine SR.mono k4 hn ?_;show OMp Y k e _ _ _ _ _;rw[g.Cz];exact h3
def A2r(c:Cf Y)(sg:List (Nat×Seg Y))(n:Nat)(H':HH Y)(k:AV Y->Cf Y->Prop):List (AV Y)->Prop
 | [a]=>k a {c with sg:=sg,nx:=n,H:=H'}
 |l=>k (.own n) {c with sg:=(n,.tp l)::sg,nx:=n+1,H:=H'}
def Bai(c:Cf Y)(sg:List (Nat×Seg Y))(res:List RK)(b:R2 Y res)(H':HH Y)(k:AV Y->Cf Y->Prop):Prop:=A2r c ((Alc res b c.nx).2.1++sg) (Alc res b c.nx).2.2 H' k (Alc res b c.nx).1
variable {g0 g:Gst} {T AH A:Own} {c:Cf Y} {f:Fr} {k:AV Y->Cf Y->Prop}
theorem Atr{g':Gst}{AH' A':Own}(h:RG g0 T c f g AH A)(hle:Le g g')(hop:c.op=none){sg:List (Nat×Seg Y)}{n:Nat}{H':HH Y}{l:List (AV Y)}{vs:List Value}(hk:A2r c sg n H' k l)(hn:g'.n=n)(hH:HpR (HK' Y) g'.I g'.w H' AH')(hs:SgR g' sg A')(hst:St g'.I g'.w (AH'++(A'++T)))(hl:F2 (AR g') l vs):∃a c' g'',k a c'/\Le g' g''/\g''.w=g'.w/\RG g0 T c' f g'' AH' A'/\AR g'' a (Qe vs):=by
 have base:RG g0 T {c with sg:=sg,nx:=n,H:=H'} f g' AH' A':=⟨hn,h.le.trans hle.ext,hst,by rw[show ({c with sg:=sg,nx:=n,H:=H'}:Cf Y).op=none from hop];exact hH,hs,h.hs.mono hle,hle.pt h.pt,λi a hi=>(h.fr i a hi).mono hle⟩
 unfold A2r at hk;split at hk
 .cases hl with
  |cons h1 h2=>cases h2;exact⟨_,_,g',hk,Le.refl _,rfl,base,h1⟩
 .rename_i hne;have hv:Qe vs=.tuple ⟨vs⟩:=by
   cases hl with
   |nil=>rfl
   |cons h1 h2=>
    cases h2 with
    |nil=>exact absurd rfl (hne _)
    |cons _ _=>rfl
  have hle2:=Le.new (g:=g') (v:=.tuple ⟨vs⟩) (Ext.refl g'.I g'.w);have:=base.Anq (sg':=sg) (A1:=[]) (s:=.tp l) (v:=.tuple ⟨vs⟩) hs (Ext.refl _ _) ⟨rfl,vs,g'.Cz _ _,hl.mono λ_ _ r=>r.mono hle2⟩ hst;refine⟨_,_,_,hk,hle2,rfl,this,?_⟩;rw[hv];exact J0 hn
def Ah0(sigs:FuncId->Option Sig)(X:Pan Y)(c:Cf Y)(q:FuncId)(as:List (AV Y))(k:AV Y->Cf Y->Prop):Prop:=match sigs q with
 |some σ=>chk (En Y.P q&&c.op.isNone) (match mkA sigs c.sg σ.args as c.sg with
  |some r=>Wp Y q σ r.1 c.H (λb io H'=>Bai c (ioB σ.args as io++r.2) σ.res b H' k) X
  |none=>False)
 |none=>False
theorem Fv{I:Reg}{w:World}{B:Own}(h:St I w (A++(B++T))):St I w (A++T):=by have h1:=h.Aip;exact h1.drop
theorem Xi{sigs:FuncId->Option Sig}{X:Pan Y}(h:RG g0 T c f g AH A){q:FuncId}{as:List (AV Y)}{ws:List Value}(hk:Ah0 sigs X c q as k)(ha:F2 (AR g) as ws):En Y.P q=true/\∀(R:List PanicEntry->World->Prop)(K:Value->World->Prop),Kz g0 T X R->(∀v a c' g' AH' A',Le g g'->RG g0 T c' f g' AH' A'->AR g' a v->k a c'->K v g'.w)->Ajd Y.P q ws g.I g.w (λv _ w'=>K v w') (λv _ w'=>R [{v,recovered:=false}] w'):=by
 unfold Ah0 at hk;split at hk
 .rename_i σ hσ;obtain⟨hc,hk⟩:=Bj hk;simp only[Bool.and_eq_true,Option.isNone_iff_eq_none]at hc;split at hk
  .rename_i r hr;obtain⟨A1,A2,hp,⟨hargs,hback⟩,hrest⟩:=Wz h.sg hr h.sg ha;refine⟨hc.1,λR K hR next=>?_⟩;have hH:=h.hr;rw[hc.2]at hH;have hst:St g.I g.w (AH++(A1++(A2++T))):=h.st.perm (by have:=(hp.append_right T).append_left AH;rwa [List.append_assoc A1 A2 T]at this)
   refine Ajd.mono (hk g.I g.w (A2++T) A1 AH ws hargs hH hst) (λv I' w' e⟨AH',A',H',k1,k2,b,io,us,B1,B2,k3,k4,k5,k6,k7⟩=>?_) (λv I' w' e⟨AH',H',t,l,u,k1,k2,k3,k4,k5⟩=>?_)
   .subst k3 k4;let g1:Gst:={g with I:=I',w:=w'}
    have hle1:Le g g1:=⟨e,Nat.le_refl _,λ_ _=>rfl,rfl⟩
    obtain⟨g2,hle2,hw2,hI2,hn2,hf2,hs2⟩:=Afe (g:=g1) k5;have hle:=hle1.trans hle2;have hio:SgR g2 (ioB σ.args as io) B2:=hback g2 io B2 hle (by rw[hI2,hw2];exact k6);have hsg:=hs2.app (hio.app (hrest.mono hle));have hst2:St g2.I g2.w (AH'++((B1++(B2++A2))++T)):=by rw[hI2,hw2];simpa [List.append_assoc] using k1
    have hn1:g1.n=c.nx:=h.n;rw[hn1]at hn2 hf2 hsg;obtain⟨a,c',g3,m1,m2,m3,m4,m5⟩:=Atr h hle hc.2 k7 hn2 (by rw[hI2,hw2];exact k2) hsg hst2 hf2;have:=next _ a c' g3 _ _ (hle.trans m2) m4 m5 m1;rw[m3,hw2]at this;exact this
   .refine hR v w' I' AH' H' t l u (h.le.trans e) ?_ k2 k3 k4 k5;exact Fv k1
  .exact hk.elim
 .exact hk.elim
def mkT:(ts:List Ty)->List (AV Y)->Option (Tup Y ts)
 | [],[]=>some ()
 |t::ts,a::as=>match asD t a,mkT ts as with
  |some x,some r=>some (x,r)
  |_,_=>none
 |_,_=>none
theorem Alx{g:Gst}:∀{ts:List Ty}{as:List (AV Y)}{x:Tup Y ts}{vs:List Value},mkT ts as=some x->F2 (AR g) as vs->Ah6 Y g.I g.w ts x vs
 | [],[],_,_,_,.nil=>rfl
 |t::ts,a::as,x,v::vs,h,.cons h1 h2=>by
  unfold mkT at h;split at h
  .rename_i y r hy hr;cases h;exact⟨v,vs,rfl,E2 hy h1,Alx hr h2⟩
  .cases h
 | [],_::_,_,_,h,_=>by simp [mkT]at h
 |_::_,[],_,_,h,_=>by simp [mkT]at h
def fvX(X:Pan Y)(c:Cf Y)(as rs:List Ty)(F:FT Y as rs)(l:List (AV Y))(k:AV Y->Cf Y->Prop):Prop:=match mkT as l,c.op with
 |some x,none=>F x c.H (λb H'=>A2r c c.sg c.nx H' k (Yh rs b)) X
 |_,_=>False
def Azi(sigs:FuncId->Option Sig)(X:Pan Y)(c:Cf Y)(cl:Operand)(as:Array Operand)(k:AV Y->Cf Y->Prop):Prop:=match evL c as.toList with
 |some l=>match cl with
  | .func q=>Ah0 sigs X c q l k
  |x=>match evA c x with
   |some (.own j)=>match lkS c.sg j with
    |some (.clo q fs cs)=>Ah0 sigs X c q (fs++(l++cs)) k
    |_=>False
   |some (.val (.func (.func q) ⟨[]⟩ ⟨[]⟩))=>Ah0 sigs X c q l k
   |some (.fn as rs F)=>fvX X c as rs F l k
   |_=>False
 |none=>False
theorem Azh{sigs:FuncId->Option Sig}{X:Pan Y}(h:RG g0 T c f g AH A){cl:Operand}{as:Array Operand}{at_:Array TypeId}(hk:Azi sigs X c cl as k):A2w g0 T X f g.w (.call ⟨.value cl,as,at_⟩) k g:=by
 intro N ops R K os dst ty pos af hR next;unfold Azi at hk;split at hk
 .rename_i l hl;have hF:=Xb h hl;split at hk
  .rename_i q;obtain⟨hc,hx⟩:=Xi h hk hF;exact Axh hc (hx R _ hR next) rfl (λv I' w' _ h=>h) (λv I' w' _ h=>h)
  .rename_i x hx0;split at hk
   .rename_i j ha;split at hk
    .rename_i q fs cs hs;obtain⟨A1,A2,_,_,⟨_,vs,us,h3,h4,h5⟩,_⟩:=h.sg.take hs;obtain⟨hc,hx⟩:=Xi h hk (h4.app (hF.app h5));exact Asg hc (hx R _ hR next) ((h.ev ha).2.trans h3) (by simp) (λv I' w' _ h=>h) (λv I' w' _ h=>h)
    .exact hk.elim
   .rename_i q ha;obtain⟨hc,hx⟩:=Xi h hk hF;exact Asg hc (hx R _ hR next) (h.ev ha) (by simp) (λv I' w' _ h=>h) (λv I' w' _ h=>h)
   .rename_i as' rs F ha;unfold fvX at hk;split at hk
    .rename_i x hx hop;obtain⟨_,hcall⟩:=h.ev ha;have hH:=h.hr;rw[hop]at hH;refine A75 (vs:=as.toList.map (ev f)) rfl (Clb.mono (hcall x c.H _ X hk g.I g.w (Ext.refl _ _) (A++T) AH _ (Alx hx hF) hH h.st) λe w' he=>?_);rcases he with ⟨v,I',rfl,e,AH',A',H',k1,k2,k3,b,us,k4,k5,k6⟩|⟨v,I',rfl,e,AH',H',t,l,u,k1,k2,k3,k4,k5⟩
     .subst k3 k4;let g1:Gst:={g with I:=I',w:=w'}
      have hle1:Le g g1:=⟨e,Nat.le_refl _,λ_ _=>rfl,rfl⟩
      obtain⟨a,c',g3,m1,m2,m3,m4,m5⟩:=Atr (g':=g1) h hle1 hop k6 h.n k2 (h.sg.mono hle1) (by simpa using k1) (Xq k5);have:=next _ a c' g3 _ _ (hle1.trans m2) m4 m5 m1;rw[m3]at this;exact this
     .exact hR v w' I' AH' H' t l u (h.le.trans e) (Fv k1) k2 k3 k4 k5
    .exact hk.elim
   .exact hk.elim
 .exact hk.elim
end
end
section
section
variable {Y:Sys}
def pl1:Ty->Bool
 | .int _ | .bool | .str | .ptr | .mref=>true
 |_=>false
def vl1:(t:Ty)->den Y.D t->Value
 | .int k,n=>.int k n
 | .bool,b=>.bool b
 | .str,s=>.string s
 | .ptr,p=>.pointer (p.map λb=>⟨b,0,none⟩)
 | .mref,p=>.map p
 | .sl _,_=>undef
 | .u _,_=>undef
def rg1:(t:Ty)->den Y.D t->Prop
 | .int k,n=>InK k n
 | .str,s=>s.size<=Vw
 | .bool,_=>True
 | .ptr,_=>True
 | .mref,_=>True
 | .sl _,_=>True
 | .u _,_=>True
variable {w:World}
theorem A23{t:Ty}(h:pl1 t=true){I:Reg}{v:Value}{x:den Y.D t}:rp Y.toUS t I w v x↔v=vl1 t x/\rg1 t x:=by
 cases t with
 |int k=>exact Bq
 |bool=>exact Nt.trans ⟨λh=>⟨h,trivial⟩,λh=>h.1⟩
 |str=>exact Ta
 |ptr=>exact Re.trans ⟨λh=>⟨h,trivial⟩,λh=>h.1⟩
 |mref=>exact Q0.trans ⟨λh=>⟨h,trivial⟩,λh=>h.1⟩
 |sl e=>simp [pl1]at h
 |u n=>simp [pl1]at h
def plT:List Ty->Bool
 | []=>true
 |t::ts=>pl1 t&&plT ts
def vlT:(ts:List Ty)->Tup Y ts->List Value
 | [],_=>[]
 |t::ts,x=>vl1 t x.1::vlT ts x.2
def rgT:(ts:List Ty)->Tup Y ts->Prop
 | [],_=>True
 |t::ts,x=>rg1 t x.1/\rgT ts x.2
theorem Ac5:∀{ts:List Ty},plT ts=true->∀{I:Reg}{w:World}{x:Tup Y ts}{vs:List Value},Ah6 Y I w ts x vs↔vs=vlT ts x/\rgT ts x
 | [],_,I,w,x,vs=>⟨λh=>⟨h,trivial⟩,λh=>h.1⟩
 |t::ts,h,I,w,x,vs=>by
  simp only[plT,Bool.and_eq_true]at h;constructor
  .rintro⟨v,vs',h1,h2,h3⟩;obtain⟨h4,h5⟩:=(A23 h.1).1 h2;obtain⟨h6,h7⟩:=(Ac5 h.2).1 h3;exact⟨by rw[h1,h4,h6];rfl,h5,h7⟩
  .rintro⟨h1,h2,h3⟩;exact⟨_,_,h1,(A23 h.1).2 ⟨rfl,h2⟩,(Ac5 h.2).2 ⟨rfl,h3⟩⟩
def Gw(Y:Sys)(I:Reg)(w:World):Prop:=(∀b,I b->b<w.heap.size)/\(HK' Y).gl I w
variable {f:Fr}
theorem RG.gw{Y:Sys}{g0 g:Gst}{T AH A:Own}{c:Cf Y}(h:RG g0 T c f g AH A)(s:Sx g w):Gw Y g.I w:=by
 refine⟨λb hb=>Nat.lt_of_lt_of_le (h.st.imm b hb) s.ext.size,(HK' Y).glm s.ext ?_⟩;have h1:=h.hr;unfold HR at h1;split at h1
 .obtain⟨L,_,h2⟩:=h1.ex;exact h2.gl
 .obtain⟨L,_,h2⟩:=h1.1.ex;exact h2.gl
structure PF(Y:Sys)(q:FuncId) where
 ta:List Ty
 tr:List Ty
 dom:Option (Tup Y ta->Prop)
 F:Tup Y ta->Tup Y tr
 pa:plT ta=true
 pr:plT tr=true
 can:En Y.P q=true
 ok:∀a,rgT ta a->(∀d,dom=some d->d a)->∀I w,Gw Y I w->Calls Y.P q ⟨vlT ta a⟩ w λe w'=>e=.returned (Qe (vlT tr (F a)))/\w'=w/\rgT tr (F a)
def A0r(c:Cf Y)(k:AV Y->Cf Y->Prop):List (AV Y)->Prop
 | [a]=>k a c
 |l=>k (.own c.nx) {c with sg:=(c.nx,.tp l)::c.sg,nx:=c.nx+1}
variable {q:FuncId}
def pfX(p:PF Y q)(c:Cf Y)(l:List (AV Y))(k:AV Y->Cf Y->Prop):Prop:=match mkT p.ta l with
 |some x=>match p.dom with
  |none=>A0r c k (Yh p.tr (p.F x))
  |some d=>(rgT p.ta x->d x)/\A0r c k (Yh p.tr (p.F x))
 |none=>False
theorem A4f{p:PF Y q}{g0 g:Gst}{T AH A:Own}{c:Cf Y}(h:RG g0 T c f g AH A){l:List (AV Y)}{vs:List Value}{k:AV Y->Cf Y->Prop}(hx:pfX p c l k)(hl:F2 (AR g) l vs):∃v a c' g',k a c'/\g'.w=g.w/\Le g g'/\RG g0 T c' f g' AH A/\AR g' a v/\∀w,Sx g w->Calls Y.P q ⟨vs⟩ w λe w'=>e=.returned v/\w'=w:=by
 unfold pfX at hx;split at hx
 .rename_i x hmk;obtain⟨h1,h2⟩:=(Ac5 p.pa).1 (Alx hmk hl);have hd:(∀d,p.dom=some d->d x)/\A0r c k (Yh p.tr (p.F x)):=by
   split at hx
   .rename_i hn;exact⟨λd h=>(by rw[hn]at h;cases h),hx⟩
   .rename_i d hn;exact⟨λd' h=>(by rw[hn]at h;cases h;exact hx.1 h2),hx.2⟩
  obtain⟨hd,hk⟩:=hd;have hr:rgT p.tr (p.F x):=by obtain⟨e,w',fr,hR,_⟩:=p.ok x h2 hd g.I g.w (h.gw (Sx.refl g)) [];exact hR.2.2
  have hF:F2 (AR g) (Yh p.tr (p.F x)) (vlT p.tr (p.F x)):=Xq ((Ac5 p.pr).2 ⟨rfl,hr⟩);have hc:∀w,Sx g w->Calls Y.P q ⟨vs⟩ w λe w'=>e=.returned (Qe (vlT p.tr (p.F x)))/\w'=w:=λw hw=>by rw[h1];exact Calls.mono (p.ok x h2 hd g.I w (h.gw hw)) λe w' he=>⟨he.1,he.2.1⟩
  generalize Yh p.tr (p.F x)=as at hk hF;generalize vlT p.tr (p.F x)=us at hc hF;unfold A0r at hk;split at hk
  .cases hF with
   |cons a1 a2=>cases a2;exact⟨_,_,c,g,hk,rfl,Le.refl _,h,a1,hc⟩
  .rename_i hne;have hv:Qe us=.tuple ⟨us⟩:=by
    cases hF with
    |nil=>rfl
    |cons h1 h2=>
     cases h2 with
     |nil=>exact absurd rfl (hne _)
     |cons _ _=>rfl
   rw[hv]at hc;have hle2:=Le.new (g:=g) (v:=.tuple ⟨us⟩) (Ext.refl g.I g.w);have:=h.new (s:=.tp as) (v:=.tuple ⟨us⟩) (A1:=[]) (w':=g.w) (Ext.refl _ _) ⟨rfl,us,g.Cz _ _,hF.mono λ_ _ r=>r.mono hle2⟩ h.st;exact⟨_,_,_,g.new g.w (.tuple ⟨us⟩),hk,rfl,hle2,this,J0 h.n,hc⟩
 .exact hx.elim
theorem Adc{as:Array Operand}{at_:Array TypeId}(hc:En Y.P q=true)(dst:Option Tmp)(ty:TypeId)(pos:String)(af:Array Edge)(gd:Option (Nat×Bool)):(execOp (ev f) ⟨dst,.call ⟨.value (.func q),as,at_⟩,ty,pos,af,gd⟩).run Y.P w=.ok (.enter q ⟨as.toList.map (ev f)⟩) w:=by simp [execOp,resolve,ev,Deferred.ofValue,invoke,Tz hc];rw[<-Array.toList_map]
end
end
section
section
variable {Y:Sys}
structure Inl(Y:Sys)(q:FuncId) where
 tr:Cf Y->List (AV Y)->Pan Y->(AV Y->Cf Y->Prop)->Prop
 can:En Y.P q=true
 ok:∀{g0 g:Gst}{T AH A:Own}{c:Cf Y}{f:Fr}{as:List (AV Y)}{vs:List Value}{X:Pan Y}{k:AV Y->Cf Y->Prop},RG g0 T c f g AH A->F2 (AR g) as vs->tr c as X k->
  ∀(R:List PanicEntry->World->Prop)(K:Value->World->Prop),Kz g0 T X R->(∀v a c' g' AH' A',Le g g'->RG g0 T c' f g' AH' A'->AR g' a v->k a c'->K v g'.w)->
   Calls Y.P q ⟨vs⟩ g.w λe w'=>match e with
    | .returned v=>K v w'
    | .panicked ch=>R ch w'
    | .outgrown=>False
def ilC(il:(q:FuncId)->Option (Inl Y q)):Operand->Option ((q:FuncId)×Inl Y q)
 | .func q=>match il q with
  |some p=>some ⟨q,p⟩
  |none=>none
 |_=>none
theorem A5y{il:(q:FuncId)->Option (Inl Y q)}{cl:Operand}{r:(q:FuncId)×Inl Y q}(h:ilC il cl=some r):cl=.func r.1:=by
 unfold ilC at h;split at h
 .split at h
  .cases h;rfl
  .cases h
 .cases h
def ilX(X:Pan Y)(c:Cf Y)(r:(q:FuncId)×Inl Y q)(as:Array Operand)(K:AV Y->Cf Y->Prop):Prop:=match evL c as.toList with
 |some l=>r.2.tr c l X K
 |none=>False
variable {X:Pan Y} {g0 g:Gst} {T AH A:Own} {c:Cf Y} {f:Fr} {as:Array Operand} {at_:Array TypeId} {k:AV Y->Cf Y->Prop}
theorem A5w(h:RG g0 T c f g AH A){r:(q:FuncId)×Inl Y q}(hk:ilX X c r as k):A2w g0 T X f g.w (.call ⟨.value (.func r.1),as,at_⟩) k g:=by
 intro N ops R K os dst ty pos af hR next;unfold ilX at hk;split at hk
 .rename_i l hl;refine Agp r.2.can rfl ?_;exact Calls.mono (r.2.ok h (Xb h hl) hk R (λv w'=>WL Y.P N ops R false K os (Go.X.put N f dst v) w') hR next) λe w' he=>by cases e<;>exact he
 .exact hk.elim
def Dp{ω:Type}(H:Hp ω)(b:Nat):Hp ω:=λc=>if c=b then none else H c
def Kk{ω:Type}(H:Hp ω)(b:Nat)(o:Option ω):Hp ω:=λc=>if c=b then o else H c
theorem Ab7{K:HK (Ob Y)}{I:Reg}{w:World}{H:HH Y}{b:Nat}(h:HpX K I w H b A)(hb:∀p∈A,p.1≠b):HpR K I w (Dp H b) A:=by
 obtain⟨L,h1,h2⟩:=h.ex;refine⟨L,λc=>?_,h2⟩;unfold Dp;by_cases hc:c=b
 .subst hc;rw[if_pos rfl];exact h2.fresh hb
 .rw[if_neg hc];exact h1 c hc
theorem Asy{K:HK (Ob Y)}{I:Reg}{w:World}{H:HH Y}{b:Nat}{o:Option (Ob Y)}(h:HpR K I w H A):HpX K I w (Kk H b o) b A:=by obtain⟨L,h1,h2⟩:=h.ex;exact⟨L,λc hc=>by rw[h1 c,Kk,if_neg hc],h2⟩
def ilO(X:Pan Y)(c:Cf Y)(o:Opn Y)(r:(q:FuncId)×Inl Y q)(as:Array Operand)(K:AV Y->Cf Y->Prop):Prop:=match evL c as.toList,lkS c.sg o.i with
 |some l,some (.blk _)=>r.2.tr {c with H:=Dp c.H o.b,op:=none} l X λa c'=>cls c' λc'=>match lkS c'.sg o.i with
  |some (.blk _)=>c'.H o.b=none->K a {c' with H:=Kk c'.H o.b (c.H o.b),op:=some o}
  |_=>False
 |_,_=>False
theorem A5x(h:RG g0 T c f g AH A){o:Opn Y}(ho:c.op=some o){r:(q:FuncId)×Inl Y q}(hk:ilO X c o r as k):A2w g0 T X f g.w (.call ⟨.value (.func r.1),as,at_⟩) k g:=by
 intro N ops R K os dst ty pos af hR next;unfold ilO at hk;split at hk
 .rename_i l cs hl hs;have hH:=h.hr;rw[ho]at hH;obtain⟨hX,h2,h3,h4⟩:=hH;obtain⟨A1,A2,hp,_,⟨b',arr,e,rfl,hb',_⟩,_⟩:=h.sg.take hs;rw[h4]at hb';have hb'':b'=o.b:=by injection hb' with hb';injection hb' with hb';injection hb' with hb' _;exact hb'.symm
  subst hb'';have hmem:(o.b,Obj.cells arr e (0,0))∈A:=hp.symm.mem_iff.1 (by simp);have hne:∀p∈AH,p.1≠o.b:=λp hp' e'=>by have hn:=h.st.nodup;rw[List.map_append,List.nodup_append]at hn;exact hn.2.2 p.1 (List.mem_map_of_mem hp') o.b (List.mem_map.2 ⟨_,List.mem_append_left _ hmem,rfl⟩) e'
  have hr:RG g0 T {c with H:=Dp c.H o.b,op:=none} f g AH A:=⟨h.n,h.le,h.st,Ab7 hX hne,h.sg,h.hs,h.pt,h.fr⟩
  refine Agp r.2.can rfl ?_;refine Calls.mono (r.2.ok hr (Xb h hl) hk R (λv w'=>WL Y.P N ops R false K os (Go.X.put N f dst v) w') hR λv a c' g' AH' A' hle hr' ha hk'=>?_) λe w' he=>by cases e<;>exact he
  obtain⟨c2,g2,AH2,A2',hk2,hw2,hle2,hr2,_,hop2⟩:=Fi hr' hk';split at hk2
  .rename_i cs2 hs2;have hH2:=hr2.hr;rw[hop2]at hH2;have hle3:=hle.trans hle2;have hμ:g2.μ o.i=.pointer (some ⟨o.b,0,none⟩):=by rw[hle3.μ _ h3];exact h4
   obtain⟨B1,B2,hq,_,⟨b2,arr2,e2,rfl,hb2,_⟩,_⟩:=hr2.sg.take hs2;rw[hμ]at hb2;have hb3:b2=o.b:=by injection hb2 with hb2;injection hb2 with hb2;injection hb2 with hb2 _;exact hb2.symm
   subst hb3;have hnone:c2.H o.b=none:=by refine Ab9 (T:=B2++T) (x:=.cells arr2 e2 (0,0)) hH2 (hr2.st.perm ?_);refine((hq.append_right T).append_left AH2).trans ?_;simp only[List.cons_append,List.nil_append,List.append_assoc];exact List.perm_middle
   rw[<-hw2];refine next v a {c2 with H:=Kk c2.H o.b (c.H o.b),op:=some o} g2 AH2 A2' hle3 ⟨hr2.n,hr2.le,hr2.st,⟨Asy hH2,λx hx=>?_,Nat.lt_of_lt_of_le h3 hle3.n,hμ⟩,hr2.sg,hr2.hs,hr2.pt,hr2.fr⟩ (ha.mono hle2) (hk2 hnone);show Kk c2.H o.b (c.H o.b) o.b=_;rw[Kk,if_pos rfl];exact h2 x hx
  .exact hk2.elim
 .exact hk.elim
def Azk(sigs:FuncId->Option Sig)(X:Pan Y)(c:Cf Y)(o:Opn Y)(q:FuncId)(as:Array Operand)(K:AV Y->Cf Y->Prop):Prop:=match evL c as.toList,lkS c.sg o.i with
 |some l,some (.blk _)=>Ah0 sigs X {c with H:=Dp c.H o.b,op:=none} q l λa c'=>cls c' λc'=>match lkS c'.sg o.i with
  |some (.blk _)=>c'.H o.b=none->K a {c' with H:=Kk c'.H o.b (c.H o.b),op:=some o}
  |_=>False
 |_,_=>False
theorem Azj{sigs:FuncId->Option Sig}(h:RG g0 T c f g AH A){o:Opn Y}(ho:c.op=some o){q:FuncId}(hk:Azk sigs X c o q as k):A2w g0 T X f g.w (.call ⟨.value (.func q),as,at_⟩) k g:=by
 intro N ops R K os dst ty pos af hR next;unfold Azk at hk;split at hk
 .rename_i l cs hl hs;have hH:=h.hr;rw[ho]at hH;obtain⟨hX,h2,h3,h4⟩:=hH;obtain⟨A1,A2,hp,_,⟨b',arr,e,rfl,hb',_⟩,_⟩:=h.sg.take hs;rw[h4]at hb';have hb'':b'=o.b:=by injection hb' with hb';injection hb' with hb';injection hb' with hb' _;exact hb'.symm
  subst hb'';have hmem:(o.b,Obj.cells arr e (0,0))∈A:=hp.symm.mem_iff.1 (by simp);have hne:∀p∈AH,p.1≠o.b:=λp hp' e'=>by have hn:=h.st.nodup;rw[List.map_append,List.nodup_append]at hn;exact hn.2.2 p.1 (List.mem_map_of_mem hp') o.b (List.mem_map.2 ⟨_,List.mem_append_left _ hmem,rfl⟩) e'
  have hr:RG g0 T {c with H:=Dp c.H o.b,op:=none} f g AH A:=⟨h.n,h.le,h.st,Ab7 hX hne,h.sg,h.hs,h.pt,h.fr⟩
  obtain⟨hc,hx⟩:=Xi hr hk (Xb h hl);refine Axh hc (hx R (λv w'=>WL Y.P N ops R false K os (Go.X.put N f dst v) w') hR λv a c' g' AH' A' hle hr' ha hk'=>?_) rfl (λv I' w' _ h=>h) (λv I' w' _ h=>h);obtain⟨c2,g2,AH2,A2',hk2,hw2,hle2,hr2,_,hop2⟩:=Fi hr' hk';split at hk2
  .rename_i cs2 hs2;have hH2:=hr2.hr;rw[hop2]at hH2;have hle3:=hle.trans hle2;have hμ:g2.μ o.i=.pointer (some ⟨o.b,0,none⟩):=by rw[hle3.μ _ h3];exact h4
   obtain⟨B1,B2,hq,_,⟨b2,arr2,e2,rfl,hb2,_⟩,_⟩:=hr2.sg.take hs2;rw[hμ]at hb2;have hb3:b2=o.b:=by injection hb2 with hb2;injection hb2 with hb2;injection hb2 with hb2 _;exact hb2.symm
   subst hb3;have hnone:c2.H o.b=none:=by refine Ab9 (T:=B2++T) (x:=.cells arr2 e2 (0,0)) hH2 (hr2.st.perm ?_);refine((hq.append_right T).append_left AH2).trans ?_;simp only[List.cons_append,List.nil_append,List.append_assoc];exact List.perm_middle
   rw[<-hw2];refine next v a {c2 with H:=Kk c2.H o.b (c.H o.b),op:=some o} g2 AH2 A2' hle3 ⟨hr2.n,hr2.le,hr2.st,⟨Asy hH2,λx hx=>?_,Nat.lt_of_lt_of_le h3 hle3.n,hμ⟩,hr2.sg,hr2.hs,hr2.pt,hr2.fr⟩ (ha.mono hle2) (hk2 hnone);show Kk c2.H o.b (c.H o.b) o.b=_;rw[Kk,if_pos rfl];exact h2 x hx
  .exact hk2.elim
 .exact hk.elim
def wrX(c:Cf Y)(op:BinOp)(x y:Operand)(K:AV Y->Cf Y->Prop):Prop:=match evA c x,evA c y with
 |some a,some b=>match asInt a,asInt b with
  |some (k,m),some (k2,n)=>match Ty.dec (.int k) (.int k2) with
   | .isTrue _=>arW op k m n λr=>K (.dat (.int k) r) c
   | .isFalse _=>False
  |_,_=>False
 |_,_=>False
theorem A3r(h:RG g0 T c f g AH A){op:BinOp}{x y:Operand}{t u:TypeId}{K:AV Y->Cf Y->Prop}(hk:wrX c op x y K):∃v a,K a c/\AR g a v/\∀ty,Yld Y.P f (.binOp op t x y u) ty v g.w:=by
 unfold wrX at hk;split at hk
 .rename_i a b ha hb;split at hk
  .rename_i k m k2 n h1 h2;split at hk
   .rename_i e _;cases e;have hx:=Jq h1 (h.ev ha);have hy:=Jq h2 (h.ev hb);have:∀ty:TypeId,∃r,K (.dat (.int k) r) c/\InK k r/\∀w,Yld Y.P f (.binOp op t x y u) ty (.int k r) w:=λty=>Azq (t:=t) (u:=u) (ty:=ty) hk hx hy;obtain⟨r,hr1,hr2,hr3⟩:=this 0;refine⟨_,_,hr1,Bq.2 ⟨rfl,hr2⟩,λty dst pos af gd=>?_⟩;have:=hr3 g.w dst pos af gd;simpa [execOp] using this
   .exact hk.elim
  .exact hk.elim
 .exact hk.elim
end
end
section
section
variable {Y:Sys}
def Aye(c:Cf Y)(x:Operand):Bool:=match evA c x with
 |some (.dat .mref _)=>true
 |_=>false
variable {g0 g:Gst} {T AH A:Own} {c:Cf Y} {f:Fr}
theorem RG.mr(h:RG g0 T c f g AH A)(hop:c.op=none){r:Nat}{k e:Ty}{m:List (den Y.D k×den Y.D e)}(hr:c.H r=some (.mp k e m)):∃A1 A2,OMp Y k e g.I g.w A1 (.map (some r)) m/\St g.I g.w (A1++(A2++(A++T)))/\∀(A1':Own)(g':Gst)(m':List (den Y.D k×den Y.D e)),Le g g'->g'.n=g.n->OMp Y k e g'.I g'.w A1' (.map (some r)) m'->St g'.I g'.w (A1'++(A2++(A++T)))->RG g0 T {c with H:=Ab c.H r (.mp k e m')} f g' (A1'++A2) A:=by have hH:=h.hr;rw[hop]at hH;obtain⟨A1,A2,h1,h2,h3⟩:=HpR.take hH hr h.st;refine⟨A1,A2,h1,h3,λA1' g' m' hle hn ho hs=>⟨hn.trans h.n,h.le.trans hle.ext,by rw[List.append_assoc];exact hs,?_,h.sg.mono hle,h.hs.mono hle,hle.pt h.pt,λi a hi=>(h.fr i a hi).mono hle⟩⟩;show HR _ _ _ _ c.op;rw[hop];exact HpX.lay (h2.mono hle.ext) ho
def luR(c:Cf Y)(t:TypeId)(x y:Operand)(ok:Bool)(K:AV Y->Cf Y->Prop):Prop:=cls c λc=>match Aad Y.P t,evA c x,evA c y with
 |some (kt,et),some (.dat .mref p),some b=>match Y.ty kt,Y.ty et with
  |some k,some e=>match asD k b,Az9 (Y:=Y) et e with
   |some kd,some zd=>chk (Y.km kt k) (∃r,p=some r/\∃m,c.H r=some (.mp k e m)/\(match ok with
    |false=>K (.dat e ((@Ac _ _ (L2 Y k) m kd).getD zd)) c
    |true=>K (.own c.nx) {c with sg:=(c.nx,.tp [.dat e ((@Ac _ _ (L2 Y k) m kd).getD zd),.prp ((@Ac _ _ (L2 Y k) m kd).isSome=true) inferInstance])::c.sg,nx:=c.nx+1}))
   |_,_=>False
  |_,_=>False
 |_,_,_=>False
variable {t:TypeId} {x y:Operand} {K:AV Y->Cf Y->Prop}
theorem A5g(h:RG g0 T c f g AH A){ok:Bool}(hx:luR c t x y ok K):Eff g0 T f g.w (.lookup t x y ok) K g:=by
 intro N ops R Kw os dst ty pos af next;obtain⟨c1,g1,AH1,A1,hx,hw,hle1,h1,_,hop⟩:=Fi h hx;rw[<-hw];split at hx
 .rename_i kt et p b hm ha hb;split at hx
  .rename_i k e hkt het;split at hx
   .rename_i kd zd hk hz;obtain⟨hkm,r,hp,m,hmp,hx⟩:=Bj hx;have hT:=Al0 (e:=e) hm hkm;obtain⟨B1,B2,ho,hst,back⟩:=h1.mr hop hmp;obtain⟨z,hz1,hz2⟩:=Aro hz g1.I g1.w;have hv:ev f x=.map (some r):=by have:=Q0.1 (h1.ev ha);rw[this,hp]
    letI:Rep (den Y.D k):=RT Y.toUS k
    letI:Rep (den Y.D e):=RT Y.toUS e
    letI:DecidableEq (den Y.D k):=L2 Y k
    split at hx
    .exact Agm hT ho hst hv rfl (E2 hk (h1.ev hb)) hz1 hz2 λu hu=>next u (.dat e ((Ac m kd).getD zd)) c1 g1 AH1 A1 hle1 h1 hu hx
    .refine Agl hT ho hst hv rfl (E2 hk (h1.ev hb)) hz1 hz2 λu hu=>?_;generalize hvt:Value.tuple #[u,.bool (Ac m kd).isSome]=vt;have hle:Le g1 (g1.new g1.w vt):=Le.new (Ext.refl _ _);refine next vt (.own c1.nx) _ (g1.new g1.w vt) AH1 A1 (hle1.trans hle) (h1.new (A1:=[]) (s:=.tp [.dat e ((Ac m kd).getD zd),.prp ((Ac m kd).isSome=true) inferInstance]) (Ext.refl _ _) ⟨rfl,[u,.bool (Ac m kd).isSome],(g1.Cz _ _).trans hvt.symm,.cons (show rp Y.toUS e _ _ u _ from Ig hle.ext hu) (.cons ?_ .nil)⟩ h1.st) ?_ hx
     .show Value.bool _=Value.bool _;cases hms:(Ac m kd).isSome<;>simp
     .rw[<-h1.n];exact⟨Nat.lt_succ_self _,(g1.Cz _ _).symm⟩
   .exact hx.elim
  .exact hx.elim
 .exact hx.elim
def A8h(c:Cf Y)(t:TypeId)(K:AV Y->Cf Y->Prop):Prop:=cls c λc=>match Aad Y.P t with
 |some (kt,et)=>match Y.ty kt,Y.ty et with
  |some k,some e=>∀r,c.H r=none->K (.dat .mref (some r)) {c with H:=Ab c.H r (.mp k e [])}
  |_,_=>False
 |none=>False
theorem A1c(h:RG g0 T c f g AH A)(hx:A8h c t K):Eff g0 T f g.w (.makeMap t none) K g:=by
 intro N ops R Kw os dst ty pos af next;obtain⟨c1,g1,AH1,A1,hx,hw,hle1,h1,_,hop⟩:=Fi h hx;rw[<-hw];split at hx
 .split at hx
  .rename_i k e hk he;letI:Rep (den Y.D k):=RT Y.toUS k
   letI:Rep (den Y.D e):=RT Y.toUS e
   have hH:=h1.hr;rw[hop]at hH;refine Ajy (den Y.D k) (den Y.D e) h1.st λv B1 w' e1 s1 ho=>?_;obtain⟨b,es,cl,rfl,rfl,_⟩:=@Dz.ex _ _ (RT Y.toUS k) (RT Y.toUS e) _ _ _ _ _ ho;let g2:Gst:={g1 with w:=w'}
   have hle:Le g1 g2:=⟨e1,Nat.le_refl _,λ_ _=>rfl,rfl⟩
   have hH2:HpR (HK' Y) g1.I w' c1.H AH1:=HpR.mono hH e1;have ho':(HK' Y).ob (.mp k e []) g1.I w' [(b,.map es cl)] b:=ho;refine next _ (.dat .mref (some b)) {c1 with H:=Ab c1.H b (.mp k e [])} g2 ([(b,.map es cl)]++AH1) A1 (hle1.trans hle) ⟨h1.n,h1.le.trans e1,by rw[List.append_assoc];exact s1,?_,h1.sg.mono hle,h1.hs.mono hle,hle.pt h1.pt,λi a hi=>(h1.fr i a hi).mono hle⟩ (Q0.2 rfl) (hx b (HpR.fresh hH2 ho' s1));show HR _ _ _ _ c1.op;rw[hop];exact HpR.new hH2 ho'
  .exact hx.elim
 .exact hx.elim
def upR(c:Cf Y)(t:TypeId)(x y z:Operand)(K:AV Y->Cf Y->Prop):Prop:=cls c λc=>match Aad Y.P t,evA c x,evA c y,evA c z with
 |some (kt,et),some (.dat .mref p),some b,some d=>match Y.ty kt,Y.ty et with
  |some k,some e=>match asD k b,asD e d with
   |some kd,some ed=>chk (Y.km kt k) (∃r,p=some r/\∃m,c.H r=some (.mp k e m)/\K (.val undef) {c with H:=Ab c.H r (.mp k e (@C4 _ _ (L2 Y k) m kd ed))})
   |_,_=>False
  |_,_=>False
 |_,_,_,_=>False
theorem Av6(h:RG g0 T c f g AH A){z:Operand}(hx:upR c t x y z K):Eff g0 T f g.w (.mapUpdate t x y z) K g:=by
 intro N ops R Kw os dst ty pos af next;obtain⟨c1,g1,AH1,A1,hx,hw,hle1,h1,_,hop⟩:=Fi h hx;rw[<-hw];split at hx
 .rename_i kt et p b d hm ha hb hd;split at hx
  .rename_i k e hkt het;split at hx
   .rename_i kd ed hk he;obtain⟨hkm,r,hp,m,hmp,hx⟩:=Bj hx;have hT:=Al0 (e:=e) hm hkm;obtain⟨B1,B2,ho,hst,back⟩:=h1.mr hop hmp;have hv:ev f x=.map (some r):=by have:=Q0.1 (h1.ev ha);rw[this,hp]
    letI:Rep (den Y.D k):=RT Y.toUS k
    letI:Rep (den Y.D e):=RT Y.toUS e
    letI:DecidableEq (den Y.D k):=L2 Y k
    refine An4 hT ho hst hv rfl rfl (E2 hk (h1.ev hb)) (E2 he (h1.ev hd)) λA' w' e1 s1 ho'=>?_;have hle:Le g1 {g1 with w:=w'}:=⟨e1,Nat.le_refl _,λ_ _=>rfl,rfl⟩
    exact next undef (.val undef) _ {g1 with w:=w'} _ A1 (hle1.trans hle) (back A' {g1 with w:=w'} (C4 m kd ed) hle rfl ho' s1) rfl hx
   .exact hx.elim
  .exact hx.elim
 .exact hx.elim
def dlR(c:Cf Y)(t:TypeId)(x y:Operand)(K:AV Y->Cf Y->Prop):Prop:=cls c λc=>match Aad Y.P t,evA c x,evA c y with
 |some (kt,et),some (.dat .mref p),some b=>match Y.ty kt,Y.ty et with
  |some k,some e=>match asD k b with
   |some kd=>chk (Y.km kt k) (∃r,p=some r/\∃m,c.H r=some (.mp k e m)/\K (.val (.tuple #[])) {c with H:=Ab c.H r (.mp k e (@Ez _ _ (L2 Y k) m kd))})
   |_=>False
  |_,_=>False
 |_,_,_=>False
theorem A6c(h:RG g0 T c f g AH A){at_:Array TypeId}(hat:at_[0]?=some t)(hx:dlR c t x y K):Eff g0 T f g.w (.call ⟨.builtin .delete,#[x,y],at_⟩) K g:=by
 intro N ops R Kw os dst ty pos af next;obtain⟨c1,g1,AH1,A1,hx,hw,hle1,h1,_,hop⟩:=Fi h hx;rw[<-hw];split at hx
 .rename_i kt et p b hm ha hb;split at hx
  .rename_i k e hkt het;split at hx
   .rename_i kd hk;obtain⟨hkm,r,hp,m,hmp,hx⟩:=Bj hx;have hT:=Al0 (e:=e) hm hkm;obtain⟨B1,B2,ho,hst,back⟩:=h1.mr hop hmp;have hv:ev f x=.map (some r):=by have:=Q0.1 (h1.ev ha);rw[this,hp]
    letI:Rep (den Y.D k):=RT Y.toUS k
    letI:Rep (den Y.D e):=RT Y.toUS e
    letI:DecidableEq (den Y.D k):=L2 Y k
    refine An5 hT ho hst hv rfl (E2 hk (h1.ev hb)) hat λA' w' e1 s1 ho'=>?_;have hle:Le g1 {g1 with w:=w'}:=⟨e1,Nat.le_refl _,λ_ _=>rfl,rfl⟩
    exact next _ (.val (.tuple #[])) _ {g1 with w:=w'} _ A1 (hle1.trans hle) (back A' {g1 with w:=w'} (Ez m kd) hle rfl ho' s1) rfl hx
   .exact hx.elim
  .exact hx.elim
 .exact hx.elim
def lnR(c:Cf Y)(t:TypeId)(x:Operand)(K:AV Y->Cf Y->Prop):Prop:=cls c λc=>match Aad Y.P t,evA c x with
 |some (kt,et),some (.dat .mref p)=>match Y.ty kt,Y.ty et with
  |some k,some e=>chk (Y.km kt k) (∃r,p=some r/\∃m:List (den Y.D k×den Y.D e),c.H r=some (.mp k e m)/\(m.length<=9223372036854775807/\K (.nat m.length) c))
  |_,_=>False
 |_,_=>False
theorem A5h(h:RG g0 T c f g AH A){at_:Array TypeId}(hat:at_[0]?=some t)(hx:lnR c t x K):Eff g0 T f g.w (.call ⟨.builtin .len,#[x],at_⟩) K g:=by
 intro N ops R Kw os dst ty pos af next;obtain⟨c1,g1,AH1,A1,hx,hw,hle1,h1,_,hop⟩:=Fi h hx;rw[<-hw];split at hx
 .rename_i kt et p hm ha;split at hx
  .rename_i k e hkt het;obtain⟨hkm,r,hp,m,hmp,hb,hx⟩:=Bj hx;have hT:=Al0 (e:=e) hm hkm;obtain⟨B1,B2,ho,hst,back⟩:=h1.mr hop hmp;have hv:ev f x=.map (some r):=by have:=Q0.1 (h1.ev ha);rw[this,hp]
   letI:Rep (den Y.D k):=RT Y.toUS k
   letI:Rep (den Y.D e):=RT Y.toUS e
   letI:DecidableEq (den Y.D k):=L2 Y k
   exact Axn ho hst hv hT hat (next _ (.nat m.length) c1 g1 AH1 A1 hle1 h1 ⟨rfl,hb⟩ hx)
  .exact hx.elim
 .exact hx.elim
end
end
end Go.Y
