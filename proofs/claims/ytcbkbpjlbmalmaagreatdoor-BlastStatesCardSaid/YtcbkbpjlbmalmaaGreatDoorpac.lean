/-
  The Y layer, part j: effects: stores, boxes, new blocks. (Merged by program out of 7 texts.)
-/
import Derived.Test.YtcbkbpjlbmalmaaGreatDoorpab
namespace Go.Y
open Go Go.RowKit Go.X
section
section
variable {Y:Sys}
variable {w:World} {b off o:Nat} {u v:Value}
theorem Vn{n:Nat}(hp:Dl w ⟨b,off,none⟩ u)(hv:v.cells.toList=(u.cells.toList.drop o).take n):Dl w ⟨b,off+o,none⟩ v:=by
 refine⟨rfl,λj hj=>?_⟩;have h1:v.cells[j]?=((u.cells.toList.drop o).take n)[j]?:=by rw[<-hv,Array.getElem?_toList]
 have hjn:j<n/\o+j<u.cells.size:=by
  have:j<((u.cells.toList.drop o).take n).length:=by rw[<-hv];simpa using hj
  simp at this;omega
 have h2:((u.cells.toList.drop o).take n)[j]?=u.cells[o+j]?:=by rw[List.getElem?_take_of_lt hjn.1,List.getElem?_drop,Array.getElem?_toList]
 have:=hp.2 (o+j) hjn.2;rw[h1,h2,<-this];show w.cell? ⟨b,off+o+j,none⟩=w.cell? ⟨b,off+(o+j),none⟩;rw[Nat.add_assoc]
variable {t:TypeId}
theorem N4{P:Program}{agg:Bool}{n:Nat}{a:Addr}(ht:Pg P t agg n=true)(hp:Dl w a v)(hc:v.cells.size=n)(hf:if agg then ∃cs,v=.agg cs else v.cells=#[v]):(loadVar t a).run P w=.ok v w:=by
 simp only[loadVar,Sem.run_bind,(GH (w:=w) ht).1,Result.andThen_ok];cases agg with
 |true=>
  simp only[if_true]at hf;obtain⟨cs,rfl⟩:=hf;simp only[if_true,Sem.run_bind,(GH (w:=w) ht).2,Result.andThen_ok];rw[<-hc,Ow hp];rfl
 |false=>
  simp only[Bool.false_eq_true,if_false]at hf;have h2:=hf;have h0:=hp.2 0 (by rw[h2];simp);obtain⟨b,o,s⟩:=a;obtain⟨hs,_⟩:=hp;simp only at hs;subst hs;rw[h2]at h0;simp only[Nat.add_zero,List.getElem?_toArray,List.getElem?_cons_zero]at h0;simp [h0]
variable {T:Ty}
theorem Ap4{I:BY}{x:den Y.D T}(h:rp Y.toUS T I w v x):if isU T then ∃cs,v=.agg cs else v.cells=#[v]:=(RT Y.toUS T).form h
variable {f:Fr} {ty:TypeId} {x:Operand}
theorem Rl{I:BY}{w':World}{y:den Y.D T}{a:Addr}(ht:Pg Y.P t (isU T) (sz Y.toUS T)=true)(hp:Dl w' a v)(hr:rp Y.toUS T I w v y)(hx:ev f x=.pointer (some a)):KC Y.P f (.load t x) ty v w':=λdst pos af gd=>by simp [execOp,Instr.loadAt,hx,Instr.sureAddr,N4 ht hp (Aax hr) (Ap4 hr)]
def ldD(t:TypeId)(T:Ty)(d:den Y.D T)(o:Nat)(k:AV Y->Prop):Prop:=match Y.ty t with
 |some T'=>Fu (Pg Y.P t (isU T') (sz Y.toUS T')) (match o with
  |0=>match Ty.dec T T' with
   | .isTrue h=>k (.dat T' (h▸d))
   | .isFalse _=>match XE T' ((Acf T d).take (sz Y.toUS T')) with
    |some y=>k (.dat T' y)
    |none=>False
  |o=>match XE T' (((Acf T d).drop o).take (sz Y.toUS T')) with
   |some y=>k (.dat T' y)
   |none=>False)
 |none=>False
variable {g:B3}
theorem Ab3{T':Ty}{d:den Y.D T}{y:den Y.D T'}(ht:Pg Y.P t (isU T') (sz Y.toUS T')=true)(hr:rp Y.toUS T g.I g.w u d)(hp:Dl g.w ⟨b,off,none⟩ u)(hb:g.I b)(hx:ev f x=.pointer (some ⟨b,off+o,none⟩))(hy:XE T' (((Acf T d).drop o).take (sz Y.toUS T'))=some y):∃v,rp Y.toUS T' g.I g.w v y/\∀w',Sx g w'->KC Y.P f (.load t x) ty v w':=by have hf:=((Ace hr).drop o).take (sz Y.toUS T');obtain⟨v,hv,hry,_⟩:=Aah hy hf;refine⟨v,hry,λw' hw'=>?_⟩;have hp':=hw'.points (a:=⟨b,off,none⟩) hb hp;exact Rl ht (Vn hp' (by rw[hv])) hry hx
theorem Aeo{d:den Y.D T}{k:AV Y->Prop}(h:ldD t T d o k)(hr:rp Y.toUS T g.I g.w u d)(hp:Dl g.w ⟨b,off,none⟩ u)(hb:g.I b)(hx:ev f x=.pointer (some ⟨b,off+o,none⟩)):∃v a,k a/\AR g a v/\∀w',Sx g w'->KC Y.P f (.load t x) ty v w':=by
 unfold ldD at h;split at h
 .rename_i T' hT;obtain⟨ht,h⟩:=AM h;split at h
  .split at h
   .rename_i e _;subst e;exact⟨u,_,h,hr,λw' hw'=>Rl ht (hw'.points (a:=⟨b,off,none⟩) hb hp) hr hx⟩
   .split at h
    .rename_i y hy;obtain⟨v,h1,h2⟩:=Ab3 (o:=0) ht hr hp hb hx hy;exact⟨v,_,h,h1,h2⟩
    .exact h.elim
  .split at h
   .rename_i y hy;obtain⟨v,h1,h2⟩:=Ab3 ht hr hp hb hx hy;exact⟨v,_,h,h1,h2⟩
   .exact h.elim
 .exact h.elim
theorem VV:∀(l:List Value)(s off:Nat)(cells:Array Value),off+s+l.length<=cells.size->((l.zipIdx s).foldl (λcs(p:Value×Nat)=>cs.setIfInBounds (off+p.2) p.1) cells).toList=cells.toList.take (off+s)++(l++cells.toList.drop (off+s+l.length))
 | [],s,off,cells,_=>by simp
 |x::l,s,off,cells,h=>by
  simp only[List.length_cons]at h;have ih:=VV l (s+1) off (cells.setIfInBounds (off+s) x) (by simp;omega);simp only[List.zipIdx_cons,List.foldl_cons];rw[ih];have hlt:off+s<cells.toList.length:=by simp;omega
  have e1:off+(s+1)=off+s+1:=by omega
  rw[Array.toList_setIfInBounds,e1,List.take_set,List.drop_set];have e2:off+s<off+s+1+l.length:=by omega
  rw[if_pos e2];have e3:(cells.toList.take (off+s+1)).set (off+s) x=cells.toList.take (off+s)++[x]:=by
   rw[List.take_succ_eq_append_getElem hlt,List.set_append_right _ _ (by simp;omega)];have hm:min (off+s) cells.size=off+s:=by simp at hlt;omega
   simp [List.length_take,hm]
  rw[e3,List.append_assoc,List.length_cons];have e4:off+s+1+l.length=off+s+(l.length+1):=by omega
  rw[e4];rfl
def UA(a:AV Y)(ts:List Ty):Option (List (Lf Y.D)):=match a with
 | .dat (.u m) d=>some (Y.flat m d)
 | .val (.agg cs)=>K8 ts cs.toList
 |a=>match ts with
  | [t]=>match t.leaf,U0 t a with
   |true,some x=>some [⟨t,x⟩]
   |_,_=>none
  |_=>none
theorem VC{a:AV Y}{ts:List Ty}{l:List (Lf Y.D)}(h:UA a ts=some l)(ha:AR g a v):F2 (λc(l:Lf Y.D)=>rp Y.toUS l.t g.I g.w c l.x) v.cells.toList l:=by
 unfold UA at h;split at h
 .cases h;obtain⟨cs,rfl,h2⟩:=Hq.1 ha;exact h2
 .obtain rfl:v=_:=ha;exact Lk h
 .split at h
  .split at h
   .rename_i hl hx;cases h;have hr:=Dk hx ha;rw[(J1 hl hr).1];exact .cons hr .nil
   .cases h
  .cases h
def Ach(place:Nat->Option (Nat×Nat))(ts:List Ty):List (Lf Y.D)->List (Nat×AV Y)->Option (List (Lf Y.D))
 |ls,[]=>some ls
 |ls,(i,a)::rest=>match place i with
  |none=>none
  |some (off,size)=>match UA a ((ts.drop off).take size) with
   |some l=>match Nat.beq l.length size&&Nat.ble (off+size) ls.length with
    |true=>Ach place ts (ls.take off++(l++ls.drop (off+size))) rest
    |false=>none
   |none=>none
theorem Acg{g:B3}{place:Nat->Option (Nat×Nat)}{ts:List Ty}:∀{ps:List (Nat×AV Y)}{qs:List (Nat×Value)}{cells:Array Value}{ls l':List (Lf Y.D)},Ach place ts ls ps=some l'->F2 (λc(l:Lf Y.D)=>rp Y.toUS l.t g.I g.w c l.x) cells.toList ls->F2 (λ(p:Nat×AV Y)(q:Nat×Value)=>p.1=q.1/\AR g p.2 q.2) ps qs->∃cells',Instr.fill place cells qs=some cells'/\F2 (λc(l:Lf Y.D)=>rp Y.toUS l.t g.I g.w c l.x) cells'.toList l'
 | [],_,cells,ls,l',h,hc,.nil=>by cases h;exact⟨cells,rfl,hc⟩
 |(i,a)::rest,(i',v)::qs,cells,ls,l',h,hc,.cons ⟨hi,ha⟩ hq=>by
  simp only at hi ha;subst hi;unfold Ach at h;unfold Instr.fill;split at h
  .cases h
  .rename_i off size hp;split at h
   .rename_i l hl;split at h
    .rename_i hb;simp only[Bool.and_eq_true,Nat.beq_eq,Nat.ble_eq]at hb;have hv:=VC hl ha;have hsz:v.cells.size=size:=by have:=hv.len;simp only[Array.length_toList]at this;omega
     have hcs:cells.size=ls.length:=by have:=hc.len;simpa using this
     have hn:¬(v.cells.size≠size∨off+v.cells.size>cells.size):=by omega
     simp only[hp,Bool.or_eq_true,decide_eq_true_eq,hn,if_false];refine Acg h ?_ hq;have:=VV v.cells.toList 0 off cells (by simp;omega);have e:(v.cells.zipIdx.foldl (λcs(x:Value×Nat)=>cs.setIfInBounds (off+x.2) x.1) cells)=(v.cells.toList.zipIdx.foldl (λcs(x:Value×Nat)=>cs.setIfInBounds (off+x.2) x.1) cells):=by rw[<-Array.foldl_toList,Array.toList_zipIdx]
     show F2 _ (v.cells.zipIdx.foldl (λcs(x:Value×Nat)=>cs.setIfInBounds (off+x.2) x.1) cells).toList _;rw[e,this];simp only[Nat.add_zero,Array.length_toList,hsz];exact(hc.take off).app (hv.app (hc.drop _))
    .cases h
   .cases h
def plc(P:Program)(t:TypeId):Option ((Nat->Option (Nat×Nat))×Value):=match P.info? t,P.underlying t with
 |some it,some (.array _ e)=>match it.zero,P.info? e with
  |some z,some ie=>some (λi=>some (i*ie.size,ie.size),z)
  |_,_=>none
 |some it,some (.struct fields)=>match it.zero,fields.toList.mapM (λf=>(P.info? f.type).map λi=>(f.offset,i.size)) with
  |some z,some places=>some ((places.toArray[·]?),z)
  |_,_=>none
 |_,_=>none
theorem XR{P:Program}{p:(Nat->Option (Nat×Nat))×Value}(h:plc P t=some p)(parts:List (Nat×Value)):P.built t parts=Instr.fill p.1 p.2.cells parts:=by
 unfold plc at h;unfold Program.built;split at h
 .rename_i it e h1 h2;split at h
  .rename_i z ie h3 h4;cases h;simp only[h1,h2,h3,h4]
  .cases h
 .rename_i it fs h1 h2;split at h
  .rename_i z pl h3 h4;cases h;simp only[h1,h2,h3,h4]
  .cases h
 .cases h
def evP(c:Cf Y):List (Nat×Operand)->Option (List (Nat×AV Y))
 | []=>some []
 |(i,x)::l=>match Ey c x,evP c l with
  |some a,some m=>some ((i,a)::m)
  |_,_=>none
theorem Aez{g0 g:B3}{T AH A:Bh}{c:Cf Y}{f:Fr}(h:RG g0 T c f g AH A):∀{l:List (Nat×Operand)}{m:List (Nat×AV Y)},evP c l=some m->F2 (λ(p:Nat×AV Y)(q:Nat×Value)=>p.1=q.1/\AR g p.2 q.2) m (l.map λp=>(p.1,ev f p.2))
 | [],m,hm=>by cases hm;exact .nil
 |(i,x)::l,m,hm=>by
  unfold evP at hm;split at hm
  .rename_i a m' h1 h2;cases hm;exact .cons ⟨rfl,h.ev h1⟩ (Aez h h2)
  .cases hm
def Ar8(c:Cf Y)(t:TypeId)(ps:Array (Nat×Operand))(k:AV Y->Prop):Prop:=match Y.ty t,plc Y.P t,evP c ps.toList with
 |some (.u n),some (p,.agg z),some qs=>match K8 (Y:=Y) (Y.sig n) z.toList with
  |some zl=>match (Ach p (Y.sig n) zl qs).bind (Y.Ah5 n) with
   |some x=>k (.dat (.u n) x)
   |none=>False
  |none=>False
 |_,_,_=>False
theorem Aho{g0:B3}{T AH A:Bh}{c:Cf Y}(h:RG g0 T c f g AH A){ps:Array (Nat×Operand)}{k:AV Y->Prop}(hx:Ar8 c t ps k):∃v a,k a/\AR g a v/\∀w',KC Y.P f (.build t ps) ty v w':=by
 unfold Ar8 at hx;split at hx
 .rename_i n p z qs h1 h2 h3;split at hx
  .rename_i zl hz;cases hf:Ach p (Y.sig n) zl qs with
   |none=>rw[hf]at hx;exact hx.elim
   |some l'=>
    rw[hf]at hx;simp only[Option.bind_some]at hx;split at hx
    .rename_i x hu;obtain⟨cells,hc1,hc2⟩:=Acg (cells:=z) hf (Lk hz) (Aez h h3);refine⟨.agg cells,_,hx,Hq.2 ⟨cells.toList,rfl,by rw[Y.Rv n _ _ hu];exact hc2⟩,λw' dst pos af gd=>?_⟩;have hb:Y.P.built t (ps.map λ(x:Nat×Operand)=>match x with|(i,x)=>(i,ev f x)).toList=some cells:=by rw[XR h2,Array.toList_map];exact hc1
     simp only[execOp,Sem.run_bind];rw[run_build w' t _ cells hb];rfl
    .exact hx.elim
  .exact hx.elim
 .exact hx.elim
end
end
section
section
variable {Y:Sys}
variable {P:Program} {f:Fr} {ty:TypeId} {w:World}
theorem Rk{op:Op}{v:Value}(h:∀(dst:Option Tmp)(pos:String)(af:Array Edge)(gd:Option (Nat×Bool)),(execOp (ev f) ⟨dst,op,ty,pos,af,gd⟩).run P w=.ok (.value v) w):KC P f op ty v w:=h
def XW(kn:Option Nat):List Hs->Nat->List Hs
 | [],_=>[]
 |h::l,w=>if h.w=w then (match h.n with |none=>{h with n:=kn} |some _=>h)::l else h::XW kn l w
theorem Abk{g:B3}{kn:Option Nat}{w:Nat}:∀{l:List Hs},HsR g l->HsR g (XW kn l w)
 | [],h=>h
 |x::l,h=>by
  unfold XW;by_cases hx:x.w=w
  .rw[if_pos hx];intro y hy;rcases List.mem_cons.1 hy with rfl|hy
   .split
    .exact h x List.mem_cons_self
    .exact h x List.mem_cons_self
   .exact h y (List.mem_cons_of_mem _ hy)
  .rw[if_neg hx];intro y hy;rcases List.mem_cons.1 hy with rfl|hy
   .exact h _ List.mem_cons_self
   .exact Abk (λz hz=>h z (List.mem_cons_of_mem _ hz)) y hy
def adA(c:Cf Y)(off:Nat)(kn:Option Nat)(k:AV Y->Cf Y->Prop):AV Y->Prop
 | .adr i o=>k (.adr i (o+off)) c
 | .del T x o=>k (.del T x (o+off)) c
 | .el i T j o=>k (.el i T j (o+off)) c
 | .hp w b o=>k (.hp w b (o+off)) (match kn with |none=>c |some n=>{c with hs:=XW (some n) c.hs w})
 | .ptr w p=>match lkH c.hs w with
  |some h=>k (.hp w h.b off) (match kn with |none=>c |some n=>{c with hs:=XW (some n) c.hs w})
  |none=>∃b,p=some b/\k (.hp w b off) {c with hs:=⟨w,b,kn⟩::c.hs}
 |_=>False
variable {g0 g:B3} {T AH A:Bh} {c:Cf Y}
theorem Afc(hr:RG g0 T c f g AH A){off:Nat}{kn:Option Nat}{k:AV Y->Cf Y->Prop}{a:AV Y}{v:Value}(h:adA c off kn k a)(ha:AR g a v):∃b o d c',v=.pointer (some ⟨b,o,none⟩)/\k d c'/\AR g d (.pointer (some ⟨b,o+off,none⟩))/\RG g0 T c' f g AH A:=by
 have note:∀(kn:Option Nat)(w:Nat),RG g0 T (match kn with|none=>c|some n=>{c with hs:=XW (some n) c.hs w}) f g AH A:=λkn w=>by
  cases kn with
  |none=>exact hr
  |some n=>exact⟨hr.n,hr.le,hr.st,hr.hr,hr.sg,Abk hr.hs,hr.pt,hr.fr⟩
 unfold adA at h;split at h
 .obtain⟨h1,b,h2,h3⟩:=ha;exact⟨b,_,_,_,h3,h,⟨h1,b,h2,rfl⟩,hr⟩
 .obtain⟨b,o,u,h1,h2,h3,h4⟩:=ha;exact⟨b,_,_,_,h4,h,⟨b,o,u,h1,h2,h3,by rw[Nat.add_assoc]⟩,hr⟩
 .obtain⟨h1,b,off',len,cap,h2,h3⟩:=ha;exact⟨b,_,_,_,h3,h,⟨h1,b,off',len,cap,h2,by rw[Nat.add_assoc]⟩,hr⟩
 .obtain⟨h1,h2,h3⟩:=ha;exact⟨_,_,_,_,h3,h,⟨h1,h2,rfl⟩,note _ _⟩
 .obtain⟨h1,h2,h3⟩:=ha;split at h
  .rename_i x hx;obtain⟨hm,hw⟩:=Zy hx;obtain⟨h4,h5⟩:=hr.hs x hm;rw[hw]at h5;refine⟨_,0,_,_,h2.symm.trans h5,h,⟨h1,h5,by rw[Nat.zero_add]⟩,note _ _⟩
  .obtain⟨b,rfl,h⟩:=h;refine⟨_,0,_,_,h3,h,⟨h1,h2.trans h3,by rw[Nat.zero_add]⟩,⟨hr.n,hr.le,hr.st,hr.hr,hr.sg,λx hx=>?_,hr.pt,hr.fr⟩⟩;rcases List.mem_cons.1 hx with rfl|hx
   .exact⟨h1,h2.trans h3⟩
   .exact hr.hs x hx
 .exact h.elim
def TC(c:Cf Y):List Operand->Option (List (IntKind×Int))
 | []=>some []
 |x::l=>match (Ey c x).bind asInt,TC c l with
  |some p,some m=>some (p::m)
  |_,_=>none
def Ajt(k:IntKind):List (IntKind×Int)->Bool
 | []=>true
 |p::l=>decide (p.1=k)&&Ajt k l
def Je(mx:Bool)(a:Int):List (IntKind×Int)->Int
 | []=>a
 |p::l=>Je mx (if mx then max a p.2 else min a p.2) l
theorem Yz{g0 g:B3}{T AH A:Bh}{c:Cf Y}{f:Fr}(h:RG g0 T c f g AH A):∀{l:List Operand}{m:List (IntKind×Int)},TC c l=some m->l.map (ev f)=m.map λp=>.int p.1 p.2
 | [],m,hm=>by cases hm;rfl
 |x::l,m,hm=>by
  unfold TC at hm;split at hm
  .rename_i p m' h1 h2;cases hm;cases ha:Ey c x with
   |none=>rw[ha]at h1;cases h1
   |some a=>
    rw[ha]at h1;have:=FN (p:=p) h1 (h.ev ha);rw[List.map_cons,List.map_cons,this,Yz h h2]
  .cases hm
theorem Amo{P:Program}{w:World}{k:IntKind}(mx:Bool):∀(l:List (IntKind×Int))(a:Int),Ajt k l=true->((l.map λp=>Value.int p.1 p.2).foldlM (if mx then Builtin.max2 else Builtin.min2) (.int k a)).run P w=.ok (.int k (Je mx a l)) w
 | [],a,_=>rfl
 |p::l,a,h=>by
  simp only[Ajt,Bool.and_eq_true,decide_eq_true_eq]at h;have ih:=Amo (P:=P) (w:=w) mx l (if mx then max a p.2 else min a p.2) h.2;simp only[List.map_cons,List.foldlM_cons,Sem.run_bind];cases mx with
  |true=>
   have h1:(Builtin.max2 (.int k a) (.int p.1 p.2)).run P w=.ok (.int k (max a p.2)) w:=by
    have:(if p.2>a then p.2 else a)=max a p.2:=by split<;>omega
    simp [Builtin.max2,this]
   simp only[if_true,h1,Result.andThen_ok]at ih ⊢;exact ih
  |false=>
   have h1:(Builtin.min2 (.int k a) (.int p.1 p.2)).run P w=.ok (.int k (min a p.2)) w:=by
    have:(if p.2<a then p.2 else a)=min a p.2:=by split<;>omega
    simp [Builtin.min2,this]
   simp only[Bool.false_eq_true,if_false,h1,Result.andThen_ok]at ih ⊢;exact ih
theorem Amp{k:IntKind}(mx:Bool):∀(l:List (IntKind×Int))(a:Int),Ag k a->(∀p∈l,Ag k p.2)->Ag k (Je mx a l)
 | [],_,h,_=>h
 |p::l,a,h,hl=>by
  refine Amp mx l _ ?_ (λq hq=>hl q (List.mem_cons_of_mem _ hq));have:=hl p List.mem_cons_self;cases mx
  .simp only[Bool.false_eq_true,if_false];unfold Ag at *;omega
  .simp only[if_true];unfold Ag at *;omega
theorem Ac3{k:IntKind}:∀{l:List (IntKind×Int)},Ajt k l=true->∀q∈l,q.1=k
 | [],_,q,hq=>by cases hq
 |p::l,h,q,hq=>by
  simp only[Ajt,Bool.and_eq_true,decide_eq_true_eq]at h;rcases List.mem_cons.1 hq with rfl|hq
  .exact h.1
  .exact Ac3 h.2 q hq
def Aq5(c:Cf Y):List Operand->List (IntKind×Int)->Bool
 | [],[]=>true
 |x::l,p::m=>(match isK x with |true=>decide (p.1.min<=p.2/\p.2<=p.1.max) |false=>(match Ey c x with |some (.dat (.int _) _) |some (.nat _)=>true |_=>false))&&Aq5 c l m
 |_,_=>false
theorem Agt{g0 g:B3}{T AH A:Bh}{c:Cf Y}{f:Fr}(h:RG g0 T c f g AH A):∀{l:List Operand}{m:List (IntKind×Int)},TC c l=some m->Aq5 c l m=true->∀p∈m,Ag p.1 p.2
 | [],m,hm,_=>by cases hm;intro p hp;cases hp
 |x::l,m,hm,hr=>by
  unfold TC at hm;split at hm
  .rename_i p m' h1 h2;cases hm;unfold Aq5 at hr;simp only[Bool.and_eq_true]at hr;intro q hq;rcases List.mem_cons.1 hq with rfl|hq
   .have h3:=hr.1;split at h3
    .simpa [Ag] using h3
    .cases ha:Ey c x with
     |none=>rw[ha]at h1;cases h1
     |some a=>
      rw[ha]at h1 h3;have h4:=h.ev ha;split at h3
      .rename_i hh;cases hh;cases h1;exact(AX.1 h4).2
      .rename_i hh;cases hh;cases h1;have h5:IntKind.i64.min=-9223372036854775808:=by decide
       have h6:IntKind.i64.max=9223372036854775807:=by decide
       have:=h4.2;show Ag .i64 _;unfold Ag;omega
      .cases h3
   .exact Agt h h2 hr.2 q hq
  .cases hm
def Atz(c:Cf Y):List Operand->Prop->Prop
 | [],p=>p
 |x::l,p=>match Ey c x with
  |some a=>Ke x a (Atz c l p)
  |none=>False
def Aqx(c:Cf Y)(mx:Bool)(as:Array Operand)(k:AV Y->Prop):Prop:=match TC c as.toList with
 |some (p::l)=>Fu (Ajt p.1 l&&Aq5 c as.toList (p::l)) (k (.dat (.int p.1) (Je mx p.2 l)))
 |_=>False
variable {k:AV Y->Prop}
theorem Agq(h:RG g0 T c f g AH A){mx:Bool}{as:Array Operand}{at_:Array TypeId}(hx:Aqx c mx as k):∃v a,k a/\AR g a v/\∀w',KC Y.P f (.call ⟨.builtin (if mx then .max else .min),as,at_⟩) ty v w':=by
 unfold Aqx at hx;split at hx
 .rename_i p l hm;obtain⟨hb,hx⟩:=AM hx;simp only[Bool.and_eq_true]at hb;have hin:=Agt h hm hb.2;have hk:=Ac3 hb.1;refine⟨.int p.1 (Je mx p.2 l),_,hx,AX.2 ⟨rfl,Amp mx l _ (hin p List.mem_cons_self) (λq hq=>by rw[<-hk q hq];exact hin q (List.mem_cons_of_mem _ hq))⟩,λw'=>Rk λdst pos af gd=>?_⟩;have he:as.toList.map (ev f)=Value.int p.1 p.2::l.map λp=>Value.int p.1 p.2:=by rw[Yz h hm];rfl
  have hr:=Amo (P:=Y.P) (w:=w') mx l p.2 hb.1;cases mx with
  |true=>simp [execOp,resolve,invoke,builtin,Builtin.max_,he] ;simp only[if_true]at hr;rw[hr];rfl
  |false=>simp [execOp,resolve,invoke,builtin,Builtin.min_,he] ;simp only[Bool.false_eq_true,if_false]at hr;rw[hr];rfl
 .exact hx.elim
variable {x:Operand} {t:TypeId}
theorem Y6{as:Array TypeId}{e:TypeId}{a:Option Addr}{n cap:Nat}(hx:ev f x=.slice a n cap)(ht:P.underlying t=some (.slice e))(hat:as[0]?=some t):KC P f (.call ⟨.builtin .len,#[x],as⟩) ty (.int .i64 n) w:=λdst pos af gd=>by simp [execOp,resolve,invoke,builtin,Builtin.len_,hat,hx,run_underlying ht,goInt]
theorem Akk{as:Array TypeId}{s:ByteArray}(hx:ev f x=.string s)(ht:P.underlying t=some .string)(hat:as[0]?=some t):KC P f (.call ⟨.builtin .len,#[x],as⟩) ty (.int .i64 s.size) w:=λdst pos af gd=>by simp [execOp,resolve,invoke,builtin,Builtin.len_,hat,hx,run_underlying ht,goInt]
def dSl:TypeDesc->Bool
 | .slice _=>true
 |_=>false
theorem Lw(h:Gn P t dSl=true):∃e,P.underlying t=some (.slice e):=by
 unfold Gn at h;split at h
 .rename_i d hd;cases d<;>simp [dSl]at h;exact⟨_,hd⟩
 .cases h
def Av3(c:Cf Y)(as:Array Operand)(at_:Array TypeId)(k:AV Y->Prop):Prop:=match as.toList,at_.toList with
 | [x],t::_=>match Ey c x with
  |some (.dat (.sl _) xs)=>Fu (Gn Y.P t dSl) (xs.length<=9223372036854775807->k (.nat xs.length))
  |some (.own i)=>match HG c.sg i with
   |some (.sl _ xs)=>Fu (Gn Y.P t dSl) (xs.length<=9223372036854775807->k (.nat xs.length))
   |_=>False
  |some (.val (.slice none 0 0))=>Fu (Gn Y.P t dSl) (k (.nat 0))
  |some a=>match asS a with
   |some s=>Fu (Gn Y.P t Arq) (s.size<=9223372036854775807->k (.nat s.size))
   |none=>False
  |none=>False
 |_,_=>False
theorem RG.sl(h:RG g0 T c f g AH A){i:Nat}{t:Ty}{xs:List (den Y.D t)}(hi:HG c.sg i=some (.sl t xs)):∃A1,ND Y t g.I g.w A1 (g.μ i) xs/\∃A2,A.Perm (A1++A2)/\Fv g (Gb c.sg i) A2/\i<g.n:=by obtain⟨A1,A2,h1,h2,h3,h4⟩:=h.sg.take hi;exact⟨A1,h3,A2,h1,h4,h2⟩
theorem Aq3(h:RG g0 T c f g AH A){as:Array Operand}{at_:Array TypeId}(hx:Av3 c as at_ k):∃v a,k a/\AR g a v/\∀w',KC Y.P f (.call ⟨.builtin .len,as,at_⟩) ty v w':=by
 unfold Av3 at hx;split at hx
 .rename_i x t ts h1 h2;obtain⟨as⟩:=as;simp only at h1;subst h1;have hat:at_[0]?=some t:=by rw[<-Array.getElem?_toList,h2];rfl
  split at hx
  .rename_i e xs ha;obtain⟨ht,hx⟩:=AM hx;obtain⟨e',ht⟩:=Lw ht;obtain⟨a,cap,hv,hc,hm,_⟩:=R8.1 (h.ev ha);have hb:xs.length<=9223372036854775807:=by unfold NS at hm;omega
   exact⟨_,_,hx hb,⟨rfl,hb⟩,λw'=>Y6 hv ht hat⟩
  .rename_i i ha;split at hx
   .rename_i e xs hs;obtain⟨ht,hx⟩:=AM hx;obtain⟨e',ht⟩:=Lw ht;obtain⟨A1,ho,_⟩:=h.sl hs;obtain⟨a,cap,hv,hb⟩:=@Bw.len _ (RT Y.toUS e) _ _ _ _ _ ho;exact⟨_,_,hx hb,⟨rfl,hb⟩,λw'=>Y6 ((h.ev ha).2.trans hv) ht hat⟩
   .exact hx.elim
  .rename_i ha;obtain⟨ht,hx⟩:=AM hx;obtain⟨e',ht⟩:=Lw ht;exact⟨_,_,hx,⟨rfl,by omega⟩,λw'=>Y6 (h.ev ha) ht hat⟩
  .rename_i a _ _ _ ha;split at hx
   .rename_i s hs;obtain⟨ht,hx⟩:=AM hx;have hv:=LU.1 (Dk hs (h.ev ha));exact⟨_,_,hx hv.2,⟨rfl,hv.2⟩,λw'=>Akk hv.1 (Aaj ht) hat⟩
   .exact hx.elim
  .exact hx.elim
 .exact hx.elim
def aiI(P:Program)(t:TypeId):Option (Nat×Nat):=match P.underlying t with
 |some (.array n e)=>(P.info? e).bind λi=>if n<=1 then none else some (n,i.size)
 |_=>none
theorem Axw{n s:Nat}(h:aiI P t=some (n,s)):∃e,P.underlying t=some (.array n e)/\(∀w,(sizeOf e).run P w=.ok s w)/\¬n<=1:=by
 unfold aiI at h;split at h
 .rename_i n' e hu;cases hi:P.info? e with
  |none=>rw[hi]at h;cases h
  |some i=>
   rw[hi]at h;simp only[Option.bind_some]at h;split at h
   .cases h
   .rename_i hn;injection h with h
    injection h with h1 h2
    subst h1 h2;exact⟨e,hu,λw=>by simp [sizeOf,typeInfo,hi],hn⟩
 .cases h
def Awm(c:Cf Y)(t:TypeId)(x y:Operand)(k:AV Y->Prop):Prop:=match aiI Y.P t with
 |some (n,s)=>match Ey c x,y with
  |some (.adr i o),.const (.int _ (.ofNat j))=>Fu (Nat.blt j n) (k (.adr i (o+j*s)))
  |some (.el i T 0 0),y=>match Ey c y with
   |some b=>Fu (Nat.beq s (sz Y.toUS T)) (Ke y b (ixA b n λj _=>k (.el i T j 0)))
   |none=>False
  |_,_=>False
 |none=>match slI Y.P t,Ey c y with
  |some (e,nb),some b=>match Ey c x with
   |some (.dat (.sl T) xs)=>Fu (WH Y.P t e (sz Y.toUS T) nb) (Ke y b (ixA b xs.length λj h=>k (.del T xs[j] 0)))
   |some (.own i)=>match HG c.sg i with
    |some (.sl T xs)=>Fu (WH Y.P t e (sz Y.toUS T) nb) (Ke y b (ixA b xs.length λj _=>k (.el i T j 0)))
    |_=>False
   |_=>False
  |_,_=>False
theorem Aq9(h:RG g0 T c f g AH A){y:Operand}(hx:Awm c t x y k):∃v a,k a/\AR g a v/\∀w',KC Y.P f (.indexAddr t x y) ty v w':=by
 unfold Awm at hx;split at hx
 .rename_i n s har;obtain⟨e,hu,hsz,hn⟩:=Axw har;split at hx
  .rename_i i o kd j ha;obtain⟨hj,hx⟩:=AM hx;have hj:j<n:=Nat.le_of_ble_eq_true hj;obtain⟨hin,b,hb,hv⟩:=h.ev ha;refine⟨_,_,hx,⟨hin,b,hb,rfl⟩,λw'=>Rk λdst pos af gd=>?_⟩;have hv2:ev f (.const (.int kd (.ofNat j)))=.int kd (j:Int):=rfl;generalize Operand.const (.int kd (.ofNat j))=y at hv2 ⊢;have h3:(j:Int)<n:=Int.ofNat_lt.2 hj;simp [execOp,Instr.indexAt,hv,hv2,asIntOf,run_underlying hu,hsz,Instr.sureAddr,DM];exact λh=>absurd h (by omega)
  .rename_i _ i T ha;split at hx
   .rename_i b h2;have hy:=h.ev h2;obtain⟨hs,hx⟩:=AM hx;have hs:s=sz Y.toUS T:=Nat.eq_of_beq_eq_true hs;obtain⟨kd,j,hj,hlt,hx⟩:=VI hy (Fe hy hx);obtain⟨hin,b,off,len,cap,hb,hv⟩:=h.ev ha;simp only[Nat.zero_mul,Nat.add_zero]at hv;refine⟨_,_,hx,⟨hin,b,off,len,cap,hb,rfl⟩,λw'=>Rk λdst pos af gd=>?_⟩;have h3:(j:Int)<n:=Int.ofNat_lt.2 hlt;subst hs;simp [execOp,Instr.indexAt,hv,hj,asIntOf,run_underlying hu,hsz,Instr.sureAddr,DM];exact λh=>absurd h (by omega)
   .exact hx.elim
  .exact hx.elim
 split at hx
 .rename_i e nb b h1 h2;have hy:=h.ev h2;split at hx
  .rename_i T xs ha;obtain⟨ht,hx⟩:=AM hx;obtain⟨kd,j,hj,hlt,hx⟩:=VI hy (Fe hy hx);have hs:=EO ht;obtain⟨a,cap,hv,hc,hm,he⟩:=R8.1 (h.ev ha);rcases he with he|⟨b,off,rfl,hb,he⟩
   .subst he;simp at hlt
   obtain⟨v,hv1,hv2⟩:=he j hlt;refine⟨_,_,hx,⟨b,off+j*sz Y.toUS T,v,hv1,hv2,hb,rfl⟩,λw'=>Rk λdst pos af gd=>?_⟩;have h1:(0:Int)<=j/\(j:Int)<xs.length:=by omega
   simp [execOp,Instr.indexAt,hv,hj,asIntOf,run_underlying hs.under,h1,hs.size,DM];exact λh=>absurd h (by omega)
  .rename_i i ha;split at hx
   .rename_i T xs hs;obtain⟨ht,hx⟩:=AM hx;obtain⟨kd,j,hj,hlt,hx⟩:=VI hy (Fe hy hx);obtain⟨A1,ho,A2,hp,hsg,hin⟩:=h.sl hs;have hsl:=EO ht;rcases @Bw.ex _ (RT Y.toUS T) _ _ _ _ _ ho with ⟨_,h3,_⟩|⟨b,arr,cap,e0,off,rfl,hμ,h3,h4,h5,h6⟩
    .subst h3;simp at hlt
    refine⟨_,_,hx,⟨hin,b,off,_,_,hμ,rfl⟩,λw'=>Rk λdst pos af gd=>?_⟩;have h1:(0:Int)<=j/\(j:Int)<xs.length:=by omega
    have hv:=(h.ev ha).2.trans hμ;simp [execOp,Instr.indexAt,hv,hj,asIntOf,run_underlying hsl.under,h1,hsl.size,DM];exact λh=>absurd h (by omega)
   .exact hx.elim
  .exact hx.elim
 .exact hx.elim
end
end
section
section
variable {Y:Sys}
def Wt:BinOp->Nat->Nat->(p:Prop)×(Decidable p)
 | .eql,a,b=>⟨a=b,inferInstance⟩
 | .neq,a,b=>⟨¬a=b,inferInstance⟩
 | .lss,a,b=>⟨a<b,inferInstance⟩
 | .leq,a,b=>⟨a<=b,inferInstance⟩
 | .gtr,a,b=>⟨b<a,inferInstance⟩
 |_,a,b=>⟨b<=a,inferInstance⟩
theorem Aw3{p q:Prop}(d1:Decidable p)(d2:Decidable q)(h:p↔q):@decide p d1=@decide q d2:=by
 by_cases hp:p
 .rw[@decide_eq_true p d1 hp,@decide_eq_true q d2 (h.1 hp)]
 .rw[@decide_eq_false p d1 hp,@decide_eq_false q d2 (λhq=>hp (h.2 hq))]
theorem Arx(op:BinOp)(a b:Nat):@decide (Wt op a b).1 (Wt op a b).2=@decide (Xy op a b).1 (Xy op a b).2:=
 Aw3 _ _ (by cases op<;>simp only[Wt,Xy]<;>omega)
def Avl(op:BinOp)(a b:AV Y):Option ((AV Y->Prop)->Prop):=match a,b with
 | .nat i,.nat j=>match OA op with
  |true=>some λk=>k (.prp (Wt op i j).1 (Wt op i j).2)
  |false=>none
 | .nat i,.val (.int .i64 (.ofNat j))=>match op with
  | .add=>some λk=>(i+j<=9223372036854775807/\k (.nat (i+j)))
  |op=>match OA op with
   |true=>some λk=>k (.prp (Wt op i j).1 (Wt op i j).2)
   |false=>none
 | .val (.int .i64 (.ofNat i)),.nat j=>match OA op with
  |true=>some λk=>k (.prp (Wt op i j).1 (Wt op i j).2)
  |false=>none
 |_,_=>none
variable {g:B3} {P:Program} {f:Fr} {op:BinOp} {x y:Operand} {t u ty:TypeId} {a:AV Y} {k:AV Y->Prop}
theorem Aqr{b:AV Y}{z:(AV Y->Prop)->Prop}(h:Avl op a b=some z)(hz:z k)(ha:AR g a (ev f x))(hb:AR g b (ev f y)):∃v c,k c/\AR g c v/\∀w',KC P f (.binOp op t x y u) ty v w':=by
 have cmp:∀{i j:Nat},OA op=true->ev f x=.int .i64 i->ev f y=.int .i64 j->k (.prp (Wt op i j).1 (Wt op i j).2)->∃v c,k c/\AR g c v/\∀w',KC P f (.binOp op t x y u) ty v w':=λ{i j}hc h1 h2 hk=>
  ⟨_,_,hk,rfl,λw'=>by rw[Arx];exact Ahk hc h1 h2 w'⟩
 unfold Avl at h;split at h
 .split at h
  .rename_i hc;cases h;exact cmp hc ha.1 hb.1 hz
  .cases h
 .split at h
  .cases h;rename_i i j _;have h1:=ha.1;have h2:ev f y=.int .i64 (j:Int):=hb;refine⟨_,_,hz.2,⟨rfl,hz.1⟩,λw'=>AD λpos af K' hk=>Agl h1 h2 ?_⟩;rw[U2 (by omega) (by have:=hz.1;omega)];rw[Int.natCast_add]at hk;exact hk
  .split at h
   .rename_i hc;cases h;exact cmp hc ha.1 hb hz
   .cases h
 .split at h
  .rename_i hc;cases h;exact cmp hc ha hb.1 hz
  .cases h
 .cases h
theorem Aee{α:Type}[AT α]{I:BY}{w:World}{A:Bh}{v:Value}{xs:List α}(o:Bw I w A v xs)(hne:¬xs=[]):∃a l cp,v=.slice a l cp/\a.isNone=false:=by
 rcases o.ex with ⟨_,h,_⟩|⟨b,arr,cap,e0,off,_,h2,_⟩
 .exact absurd h hne
 .exact⟨_,_,_,h2,rfl⟩
def Avk(c:Cf Y)(op:BinOp)(t:TypeId)(a b:AV Y):Option (Prop×Bool):=match a,b with
 | .own i,.val (.slice none 0 0)=>match HG c.sg i,Gn Y.P t dSl with
  |some (.sl _ xs),true=>match op with
   | .eql=>some (¬xs=[],false)
   | .neq=>some (¬xs=[],true)
   |_=>none
  |_,_=>none
 | .val (.slice none 0 0),.val (.slice none 0 0)=>match Gn Y.P t dSl with
  |true=>match op with
   | .eql=>some (True,true)
   | .neq=>some (True,false)
   |_=>none
  |false=>none
 |_,_=>none
theorem Pe{a:Option Addr}{l cp:Nat}{r:Bool}(ht:∃e,P.underlying t=some (.slice e))(hx:ev f x=.slice a l cp)(hy:ev f y=.slice none 0 0)(ho:(op=.eql/\r=a.isNone)∨(op=.neq/\r=!a.isNone))(w:World):KC P f (.binOp op t x y u) ty (.bool r) w:=by
 intro dst pos af gd;obtain⟨e,ht⟩:=ht;have hg:∀op:BinOp,(eqGuard op t x y (.slice a l cp) (.slice none 0 0)).run P w=.ok () w:=λop=>by simp only[eqGuard];cases op<;>simp
 have hE:∀n,(Op.equalIn (n+1) t (.slice a l cp) (.slice none 0 0)).run P w=.ok a.isNone w:=λn=>by cases a<;>simp [Op.equalIn,run_underlying ht]
 rcases ho with ⟨rfl,rfl⟩|⟨rfl,rfl⟩
 .simp only[execOp,hx,hy,Sem.run_bind,hg,Result.andThen_ok,binOp,Op.equal,Op.maxDepth,hE 9999,Sem.run_pure]
 .simp only[execOp,hx,hy,Sem.run_bind,hg,Result.andThen_ok,binOp,Op.equal,Op.maxDepth,hE 9999,Sem.run_pure]
variable {g0:B3} {T AH A:Bh} {c:Cf Y}
theorem Aqo(h:RG g0 T c f g AH A){b:AV Y}{p:Prop}{r:Bool}(hn:Avk c op t a b=some (p,r))(hp:p)(ha:AR g a (ev f x))(hb:AR g b (ev f y))(w:World):KC Y.P f (.binOp op t x y u) ty (.bool r) w:=by
 unfold Avk at hn;split at hn
 .rename_i i;have hy:ev f y=.slice none 0 0:=hb;split at hn
  .rename_i T' xs hs ht;obtain⟨A1,A2,_,_,h3,_⟩:=h.sg.take hs;have key:¬xs=[]->∃a l cp,ev f x=.slice a l cp/\a.isNone=false:=λhne=>by rw[ha.2];exact @Aee _ (RT Y.toUS T') _ _ _ _ _ h3 hne
   split at hn
   .cases hn;obtain⟨a,l,cp,hx,ha⟩:=key hp;exact Pe (Lw ht) hx hy (.inl ⟨rfl,ha.symm⟩) w
   .cases hn;obtain⟨a,l,cp,hx,ha⟩:=key hp;exact Pe (Lw ht) hx hy (.inr ⟨rfl,by rw[ha];rfl⟩) w
   .cases hn
  .cases hn
 .have hx:ev f x=.slice none 0 0:=ha;have hy:ev f y=.slice none 0 0:=hb;split at hn
  .rename_i ht;split at hn
   .cases hn;exact Pe (Lw ht) hx hy (.inl ⟨rfl,rfl⟩) w
   .cases hn;exact Pe (Lw ht) hx hy (.inr ⟨rfl,rfl⟩) w
   .cases hn
  .cases hn
 .cases hn
def Axn(c:Cf Y)(op:BinOp)(t:TypeId)(x y:Operand)(k:AV Y->Prop):Prop:=match Ey c x,Ey c y with
 |some a,some b=>match Avk c op t a b with
  |some (p,r)=>p/\k (.val (.bool r))
  |none=>match Avl op a b with
   |some z=>z k
   |none=>match asInt a,asInt b with
    |some (ka,n),some (kb,m)=>match OA op,A24 op with
     |true,_=>Fu (decide (ka=kb)) (k (.prp (Xy op n m).1 (Xy op n m).2))
     |_,true=>Ke x a (Ke y b ((op=.shr->Ag ka n)/\shI op ka n m λr=>k (.dat (.int ka) r)))
     |_,_=>Fu (decide (ka=kb)) (Ke x a (Ke y b (match A25 ka with
      |true=>arI op ka n m λr=>k (.dat (.int ka) r)
      |false=>arW op ka n m λr=>k (.dat (.int ka) r))))
    |_,_=>match a with
     | .dat (.u n) d=>eqU op t (.dat (.u n) d) b k
     |a=>eqX Y.P op t a b k
 |_,_=>False
theorem Asa(h:RG g0 T c f g AH A)(hx:Axn c op t x y k):∃v a,k a/\AR g a v/\∀w',KC Y.P f (.binOp op t x y u) ty v w':=by
 unfold Axn at hx;split at hx
 .rename_i a b ha hb;have hra:=h.ev ha;have hrb:=h.ev hb;split at hx
  .rename_i p r hn;exact⟨_,_,hx.2,rfl,λw=>Aqo h hn hx.1 hra hrb w⟩
  split at hx
  .rename_i z hz;exact Aqr hz hx hra hrb
  split at hx
  .rename_i ka n kb m hn hm;have h1:=FN hn hra;have h2:=FN hm hrb;split at hx
   .rename_i hc;obtain⟨hk,hz⟩:=AM hx;clear hx;obtain rfl:ka=kb:=by simpa using hk
    exact⟨_,_,hz,rfl,λw'=>Ahk hc h1 h2 w'⟩
   .obtain⟨hs,hx⟩:=Fe hrb (Fe hra hx);obtain⟨r,h3,h4,h5⟩:=Aui hx h1 h2 hs;exact⟨_,_,h3,AX.2 ⟨rfl,h4⟩,h5⟩
   .obtain⟨hk,hz⟩:=AM hx;clear hx;obtain rfl:ka=kb:=by simpa using hk
    have hu:=Fe hrb (Fe hra hz);split at hu
    .obtain⟨r,h3,h4,h5⟩:=Axs hu h1 h2;exact⟨_,_,h3,AX.2 ⟨rfl,h4⟩,h5⟩
    .obtain⟨r,h3,h4,h5⟩:=Aon hu h1 h2;exact⟨_,_,h3,AX.2 ⟨rfl,h4⟩,h5⟩
  .split at hx
   .exact Aww hx hra hrb
   .exact Awv hx hra hrb
 .exact hx.elim
def unX(c:Cf Y)(op:UnOp)(x:Operand)(k:AV Y->Prop):Prop:=match op,Ey c x with
 | .not,some a=>match asB a with
  |some (.kn b)=>k (.val (.bool (!b)))
  |some (.pr p d)=>k (.prp (¬p) (@instDecidableNot p d))
  |none=>False
 | .neg,some a=>match asInt a with
  |some (.i64,n)=>Ke x a (Ag .i64 (-n)/\k (.dat I6 (-n)))
  |some (kd,n)=>k (.dat (.int kd) (kd.wrap (0-n)))
  |none=>False
 |_,_=>False
theorem At2(h:RG g0 T c f g AH A){op:UnOp}(hx:unX c op x k):∃v a,k a/\AR g a v/\∀w',KC Y.P f (.unOp op t x) ty v w':=by
 unfold unX at hx;split at hx
 .rename_i a ha;split at hx
  .rename_i b hb;exact⟨_,_,hx,rfl,λw'=>AD λpos af K' hk=>As2 (Nx hb (h.ev ha)) hk⟩
  .rename_i p d hb;refine⟨_,_,hx,rfl,λw'=>AD λpos af K' hk=>As2 (Nx hb (h.ev ha)) ?_⟩;have:(!(BV.pr p d).val)=@decide (¬p) (@instDecidableNot p d):=by
    show (!@decide p d)=_;cases d with
    |isTrue hp|isFalse hp=>rfl
   rw[this];exact hk
  .exact hx.elim
 .rename_i a ha;split at hx
  .rename_i n hn;have h1:=FN hn (h.ev ha);obtain⟨h2,hx⟩:=Fe (h.ev ha) hx;refine⟨_,_,hx,AX.2 ⟨rfl,h2⟩,λw'=>AD λpos af K' hk=>As3 h1 ?_⟩;rw[show (0:Int)-(IntKind.i64,n).2=-n by simp,E3 h2];exact hk
  .rename_i kd n _ hn;have h1:=FN hn (h.ev ha);exact⟨_,_,hx,AX.2 ⟨rfl,IA _ _⟩,λw'=>AD λpos af K' hk=>As3 h1 hk⟩
  .exact hx.elim
 .exact hx.elim
def kindOf(P:Program)(t:TypeId):Option IntKind:=match P.underlying t with
 |some (.int k)=>some k
 |_=>none
def Aw9(c:Cf Y)(s d:TypeId)(x:Operand)(k:AV Y->Prop):Prop:=match kindOf Y.P s,kindOf Y.P d,Ey c x with
 |some ks,some kd,some a=>match a with
  | .dat (.int k1) n=>Fu (decide (k1=ks)) (match decide (kd=k1) with
   |true=>k (.dat (.int k1) n)
   |false=>Ag k1 n->k (.dat (.int kd) (kd.wrap n)))
  | .nat j=>Fu (decide (ks=.i64)) (match decide (kd=.i64) with
   |true=>k (.nat j)
   |false=>k (.dat (.int kd) (kd.wrap j)))
  |a=>match asInt a with
   |some (_,n)=>k (.dat (.int kd) (kd.wrap n))
   |none=>False
 |_,_,_=>False
theorem Yg{k:IntKind}(h:kindOf P t=some k):P.underlying t=some (.int k):=by
 unfold kindOf at h;split at h
 .rename_i h1;cases h;exact h1
 .cases h
theorem Art(h:RG g0 T c f g AH A){s d:TypeId}(hx:Aw9 c s d x k):∃v a,k a/\AR g a v/\∀w',KC Y.P f (.convert s d x) ty v w':=by
 unfold Aw9 at hx;split at hx
 .rename_i ks kd a h1 h2 ha;have hs:=Yg h1;have hd:=Yg h2;have hr:=h.ev ha;split at hx
  .rename_i k1 n;obtain⟨hk,hx⟩:=AM hx;have hv:=AX.1 hr;split at hx
   .rename_i he;obtain rfl:kd=k1:=by simpa using he
    refine⟨_,_,hx,AX.2 ⟨rfl,hv.2⟩,λw'=>AD λpos af K' hk=>Vw hs hd hv.1 ?_⟩;rw[E3 hv.2];exact hk
   .exact⟨_,_,hx hv.2,AX.2 ⟨rfl,IA _ _⟩,λw'=>AD λpos af K' hk=>Vw hs hd hv.1 hk⟩
  .rename_i j;obtain⟨hk,hz⟩:=AM hx;clear hx;split at hz
   .rename_i he;obtain rfl:kd=.i64:=by simpa using he
    refine⟨_,_,hz,⟨rfl,hr.2⟩,λw'=>AD λpos af K' hk=>Vw hs hd hr.1 ?_⟩;rw[U2 (by omega) (by have:=hr.2;omega)];exact hk
   .exact⟨_,_,hz,AX.2 ⟨rfl,IA _ _⟩,λw'=>AD λpos af K' hk=>Vw hs hd hr.1 hk⟩
  .split at hx
   .rename_i k1 n hn;exact⟨_,_,hx,AX.2 ⟨rfl,IA _ _⟩,λw'=>AD λpos af K' hk=>Vw hs hd (FN hn hr) hk⟩
   .exact hx.elim
 .exact hx.elim
def Axg(c:Cf Y)(t:TypeId)(x y:Operand)(k:AV Y->Prop):Prop:=match (Ey c x).bind asS,Ey c y with
 |some s,some b=>Fu (Gn Y.P t Arq) (Ke y b (ixA b s.size λj h=>k (.dat (.int .u8) (s[j].toNat:Int))))
 |_,_=>False
theorem Ar1(h:RG g0 T c f g AH A)(hx:Axg c t x y k):∃v a,k a/\AR g a v/\∀w',KC Y.P f (.index t x y) ty v w':=by
 unfold Axg at hx;split at hx
 .rename_i s b h1 h2;obtain⟨ht,hx⟩:=AM hx;have hy:=h.ev h2;obtain⟨kd,j,hj,hlt,hx⟩:=VI hy (Fe hy hx);cases ha:Ey c x with
  |none=>rw[ha]at h1;cases h1
  |some a=>
   rw[ha]at h1;have hv:=LU.1 (Dk (t:=.str) h1 (h.ev ha));exact⟨_,_,hx,AX.2 ⟨rfl,Awi _⟩,λw'=>AD λpos af K' hk=>Amd (Aaj ht) hlt hv.1 hj rfl hk⟩
 .exact hx.elim
def Aw4(P:Program)(kd:IntKind)(n:Nat):TypeDesc->Bool
 | .array m e=>Nat.beq m n&&Gn P e (An3 kd)&&(match P.info? e with
  |some i=>Nat.beq i.size 1
  |none=>false)
 |_=>false
def lfI(k:IntKind):List (Lf Y.D)->Option (List Int)
 | []=>some []
 |⟨.int k',x⟩::l=>match Ty.dec (.int k) (.int k'),lfI k l with
  | .isTrue _,some r=>some (x::r)
  |_,_=>none
 |_::_=>none
theorem Amx{g:B3}{k:IntKind}:∀{l:List (Lf Y.D)}{r:List Int}{cs:List Value},lfI k l=some r->F2 (λc(l:Lf Y.D)=>rp Y.toUS l.t g.I g.w c l.x) cs l->cs=r.map (.int k)/\∀x∈r,Ag k x
 | [],r,_,h,.nil=>by cases h;exact⟨rfl,λx hx=>(by cases hx)⟩
 |⟨t,x⟩::l,r,c::cs,h,.cons h1 h2=>by
  cases t with
  |int k'=>
   simp only[lfI]at h;split at h
   .rename_i e r' _ hr;cases e;cases h;obtain⟨h3,h4⟩:=Amx hr h2;obtain⟨h5,h6⟩:=AX.1 h1;exact⟨by rw[h5,h3];rfl,λy hy=>by rcases List.mem_cons.1 hy with rfl|hy;exact h6;exact h4 y hy⟩
   .cases h
  |_=>simp [lfI]at h
def Axq(c:Cf Y)(t:TypeId)(y:Operand)(n:Nat)(d:Y.D n)(k:AV Y->Prop):Prop:=match lfI .i64 (Y.flat n d),Ey c y with
 |some r,some b=>Fu (Gn Y.P t (Aw4 Y.P .i64 r.length)) (Ke y b (ixA b r.length λj h=>k (.dat I6 r[j])))
 |_,_=>False
theorem Asc(h:RG g0 T c f g AH A){n:Nat}{d:Y.D n}(hd:Ey c x=some (.dat (.u n) d))(hx:Axq c t y n d k):∃v a,k a/\AR g a v/\∀w',KC Y.P f (.index t x y) ty v w':=by
 unfold Axq at hx;split at hx
 .rename_i r b h1 h2;obtain⟨ht,hx⟩:=AM hx;have hy:=h.ev h2;obtain⟨kd,j,hj,hlt,hx⟩:=VI hy (Fe hy hx);obtain⟨cs,hcs,hF⟩:=Hq.1 (h.ev hd);obtain⟨h3,h4⟩:=Amx h1 hF;refine⟨_,_,hx,AX.2 ⟨rfl,h4 _ (List.getElem_mem hlt)⟩,λw' dst pos af gd=>?_⟩;unfold Gn at ht;split at ht
  .rename_i td htd;cases td with
   |array m e=>
    simp only[Aw4,Bool.and_eq_true,Nat.beq_eq]at ht;obtain⟨⟨hm,he⟩,hs⟩:=ht;subst hm;have hu:=UR he;have hsz:(sizeOf e).run Y.P w'=.ok 1 w':=by
     split at hs
     .rename_i i hi;rw[run_sizeOf w' hi];simp [Program.cellsOf,hi,Nat.eq_of_beq_eq_true hs]
     .cases hs
    have hcj:(⟨cs⟩:Array Value)[j]?=some (.int .i64 r[j]):=by simp [h3,hlt]
    simp only[execOp,Instr.index,hcs,hj,asIntOf,Sem.run_bind,Sem.run_pure,Result.andThen_ok,run_underlying htd];rw[if_pos ⟨Int.natCast_nonneg j,by exact_mod_cast hlt⟩];simp [hsz,part,isAgg,run_underlying hu,h3,hlt]
   |_=>simp [Aw4]at ht
  .cases ht
 .exact hx.elim
def Awu(c:Cf Y)(t:TypeId)(x:Operand)(i:Nat)(k:AV Y->Prop):Prop:=match Ay0 Y.P t i,Ey c x with
 |some off,some (.dat (.u n) d)=>Fu (fvB Y.P t i off) (match (Y.flat n d)[off]? with
  |some l=>k (.dat l.t l.x)
  |none=>False)
 |_,_=>False
theorem Arj(h:RG g0 T c f g AH A){i:Nat}(hx:Awu c t x i k):∃v a,k a/\AR g a v/\∀w',KC Y.P f (.field t x i) ty v w':=by
 unfold Awu at hx;split at hx
 .rename_i off n d h1 h2;obtain⟨ht,hx⟩:=AM hx;obtain⟨cs,hv,hf⟩:=Hq.1 (h.ev h2);split at hx
  .rename_i l hl;obtain⟨v,h3,h4⟩:=hf.get hl;exact⟨v,_,hx,h4,λw'=>AD λpos af K' hk=>Amf (cs:=⟨cs⟩) ht hv (by simpa using h3) hk⟩
  .exact hx.elim
 .exact hx.elim
def Acs:TypeDesc->Bool
 | .struct _=>true
 |_=>false
theorem Ah8(h:Gn P t Acs=true):∃e,P.underlying t=some (.struct e):=by
 unfold Gn at h;split at h
 .rename_i d hd;cases d<;>simp [Acs]at h;exact⟨_,hd⟩
 .cases h
def onA(a:Option (AV Y))(k:AV Y->Prop):Prop:=match a with
 |some a=>k a
 |none=>False
theorem Zo{a:Option (AV Y)}(h:onA a k):∃b,a=some b/\k b:=by
 unfold onA at h;split at h
 .exact⟨_,rfl,h⟩
 .exact h.elim
variable {α β:Type}
theorem Ao2{R Q:α->β->Prop}{l:List α}{m:List β}(h:F2 R l m)(h':∀b∈m,∀a,R a b->Q a b):F2 Q l m:=by
 induction h with
 |nil=>exact .nil
 |cons h _ ih=>exact .cons (h' _ List.mem_cons_self _ h) (ih λb hb=>h' b (List.mem_cons_of_mem _ hb))
theorem Ao0{γ:Type}{R:γ->β->Prop}{q:α->γ}{l:List α}{m:List β}(h:F2 (λa b=>R (q a) b) l m):F2 R (l.map q) m:=by
 induction h with
 |nil=>exact .nil
 |cons h _ ih=>exact .cons h ih
theorem Ahy{R:α->β->Prop}{l:List α}{m:List β}(h:F2 R l m):F2 (λb a=>R a b) m l:=by
 induction h with
 |nil=>exact .nil
 |cons h _ ih=>exact .cons h ih
theorem Ab2{l:List (Lf Y.D)}{cs:List Value}(h:F2 (λc(l:Lf Y.D)=>rp Y.toUS l.t g.I g.w c l.x) cs l)(hl:(l.all λx=>x.t.leaf)=true):∀c∈cs,c.oneCell'=true:=
 W7 h λx hx=>by simpa using List.all_eq_true.1 hl x hx
def Apq(vs:List Value):List (AV Y):=vs.map AV.val
def Aiy(c:Cf Y):AV Y->Bool
 | .dat t _=>t.leaf
 | .nat _ | .prp _ _ | .adr _ _ | .el _ _ _ _ | .del _ _ _ | .ptr _ _ | .hp _ _ _ | .mob _ | .ifc _ _ _ | .fbx _ _ _=>true
 | .own i=>match HG c.sg i with
  |some (.sl _ _) |some (.mp _ _ _) |some (.clo _ _ _)=>true
  |_=>false
 | .val v=>v.oneCell'
 | .sub _ _ _=>true
 | .fn _ _ _=>false
variable {v:Value}
theorem Agf(h:RG g0 T c f g AH A)(h1:Aiy c a=true)(ha:AR g a v):v.oneCell'=true:=by
 unfold Aiy at h1;split at h1
 .exact(J1 h1 ha).2
 .rw[ha.1];rfl
 .rw[show v=_ from ha];rfl
 .obtain⟨_,b,_,h2⟩:=ha;rw[h2];rfl
 .obtain⟨_,b,_,_,_,_,h2⟩:=ha;rw[h2];rfl
 .obtain⟨b,_,_,_,_,_,h2⟩:=ha;rw[h2];rfl
 .rw[ha.2.2];rfl
 .rw[ha.2.2];rfl
 .rw[show v=_ from ha];rfl
 .obtain⟨u,h2,_⟩:=ha;rw[h2];rfl
 .obtain⟨b,off,u,_,_,_,h2⟩:=ha;rw[h2];rfl
 .rename_i i;have hv:=ha.2;split at h1
  .rename_i t xs hs;obtain⟨A1,A2,_,_,h3,_⟩:=h.sg.take hs;obtain⟨a,cap,h4,_⟩:=@Bw.len _ (RT Y.toUS t) _ _ _ _ _ h3;rw[hv,h4];rfl
  .rename_i k e m hs;obtain⟨A1,A2,_,_,h3,_⟩:=h.sg.take hs;obtain⟨b,es,cl,_,h4,_⟩:=@C4.ex _ _ (RT Y.toUS k) (RT Y.toUS e) _ _ _ _ _ h3;rw[hv,h4];rfl
  .rename_i g' fs cs hs;obtain⟨A1,A2,_,_,⟨_,vs,us,h4,_⟩,_⟩:=h.sg.take hs;rw[hv,h4];rfl
  .cases h1
 .rw[show v=_ from ha];exact h1
 .obtain⟨_,h2,a,len,cap,h3,_⟩:=ha;rw[h2,h3];rfl
 .cases h1
theorem Aix(h:v.oneCell'=true):v.cells=#[v]:=by cases v<;>first|rfl|simp [Value.oneCell']at h
theorem U3{g:B3}:∀{vs:List Value},vs.all (·.oneCell')=true->F2 (λa v=>AR g a v/\v.oneCell'=true) (Apq (Y:=Y) vs) vs
 | [],_=>.nil
 |v::vs,h=>by simp only[List.all_cons,Bool.and_eq_true]at h;exact .cons ⟨rfl,h.1⟩ (U3 h.2)
def ZN(c:Cf Y)(a:AV Y):Option (List (AV Y)):=match a with
 | .dat (.u m) d=>some ((Y.flat m d).map λx=>.dat x.t x.x)
 | .val (.agg cs)=>match cs.toList.all (·.oneCell') with
  |true=>some (Apq cs.toList)
  |false=>none
 | .own j=>match HG c.sg j with
  |some (.ag cs)=>some cs
  |_=>match Aiy c a with
   |true=>some [a]
   |false=>none
 |a=>match Aiy c a with
  |true=>some [a]
  |false=>none
theorem Yw(h:RG g0 T c f g AH A){cs:List (AV Y)}(hc:ZN c a=some cs)(ha:AR g a v):F2 (λa v=>AR g a v/\v.oneCell'=true) cs v.cells.toList:=by
 have one:∀{a:AV Y},AR g a v->Aiy c a=true->F2 (λa v=>AR g a v/\v.oneCell'=true) [a] v.cells.toList:=λha h1=>by have hone:=Agf h h1 ha;rw[Aix hone];exact .cons ⟨ha,hone⟩ .nil
 unfold ZN at hc;split at hc
 .rename_i m d;cases hc;obtain⟨us,rfl,h2⟩:=Hq.1 ha;have hone:=W7 h2 Pv;exact Ao0 (q:=λx:Lf Y.D=>AV.dat x.t x.x) (Ao2 (Ahy h2) λv hv a r=>⟨r,hone v hv⟩)
 .rename_i us;split at hc
  .rename_i h1;cases hc;obtain rfl:v=_:=ha;exact U3 h1
  .cases hc
 .rename_i j;split at hc
  .rename_i cs' hj;cases hc;obtain⟨A1,A2,_,_,⟨_,vs,h4,h5⟩,_⟩:=h.sg.take hj;rw[ha.2,h4];exact h5
  .split at hc
   .rename_i h1;cases hc;exact one ha h1
   .cases hc
 .split at hc
  .rename_i h1;cases hc;exact one ha h1
  .cases hc
def Ag7(c:Cf Y)(place:Nat->Option (Nat×Nat)):List (AV Y)->List (Nat×AV Y)->Option (List (AV Y))
 |ls,[]=>some ls
 |ls,(i,a)::rest=>match place i with
  |none=>none
  |some (off,size)=>match ZN c a with
   |some l=>match Nat.beq l.length size&&Nat.ble (off+size) ls.length with
    |true=>Ag7 c place (ls.take off++(l++ls.drop (off+size))) rest
    |false=>none
   |none=>none
theorem Aci{g0 g:B3}{T AH A:Bh}{c:Cf Y}{f:Fr}(h0:RG g0 T c f g AH A){place:Nat->Option (Nat×Nat)}:∀{ps:List (Nat×AV Y)}{qs:List (Nat×Value)}{cells:Array Value}{ls l':List (AV Y)},Ag7 c place ls ps=some l'->F2 (λa v=>AR g a v/\v.oneCell'=true) ls cells.toList->F2 (λ(p:Nat×AV Y)(q:Nat×Value)=>p.1=q.1/\AR g p.2 q.2) ps qs->∃cells',Instr.fill place cells qs=some cells'/\F2 (λa v=>AR g a v/\v.oneCell'=true) l' cells'.toList
 | [],_,cells,ls,l',h,hc,.nil=>by cases h;exact⟨cells,rfl,hc⟩
 |(i,a)::rest,(i',v)::qs,cells,ls,l',h,hc,.cons ⟨hi,ha⟩ hq=>by
  simp only at hi ha;subst hi;unfold Ag7 at h;unfold Instr.fill;split at h
  .cases h
  .rename_i off size hp;split at h
   .rename_i l hl;split at h
    .rename_i hb;simp only[Bool.and_eq_true,Nat.beq_eq,Nat.ble_eq]at hb;have hv:=Yw h0 hl ha;have hsz:v.cells.size=size:=by have:=hv.len;simp only[Array.length_toList]at this;omega
     have hcs:cells.size=ls.length:=by have:=hc.len;simp only[Array.length_toList]at this;omega
     have hn:¬(v.cells.size≠size∨off+v.cells.size>cells.size):=by omega
     simp only[hp,Bool.or_eq_true,decide_eq_true_eq,hn,if_false];refine Aci h0 h ?_ hq;have:=VV v.cells.toList 0 off cells (by simp;omega);have e:(v.cells.zipIdx.foldl (λcs(x:Value×Nat)=>cs.setIfInBounds (off+x.2) x.1) cells)=(v.cells.toList.zipIdx.foldl (λcs(x:Value×Nat)=>cs.setIfInBounds (off+x.2) x.1) cells):=by rw[<-Array.foldl_toList,Array.toList_zipIdx]
     show F2 _ _ (v.cells.zipIdx.foldl (λcs(x:Value×Nat)=>cs.setIfInBounds (off+x.2) x.1) cells).toList;rw[e,this];simp only[Nat.add_zero,Array.length_toList,hsz];exact(hc.take off).app (hv.app (hc.drop _))
    .cases h
   .cases h
def Axl(c:Cf Y)(t:TypeId)(ps:Array (Nat×Operand))(K:AV Y->Cf Y->Prop):Prop:=match plc Y.P t,evP c ps.toList with
 |some (p,.agg z),some qs=>Fu (z.toList.all (·.oneCell')) (match Ag7 c p (Apq z.toList) qs with
  |some cs=>K (.own c.nx) {c with sg:=(c.nx,.ag cs)::c.sg,nx:=c.nx+1}
  |none=>False)
 |_,_=>False
theorem Ar9(h:RG g0 T c f g AH A){ps:Array (Nat×Operand)}{K:AV Y->Cf Y->Prop}(hx:Axl c t ps K):∃v a c' g',K a c'/\g'.w=g.w/\Le g g'/\RG g0 T c' f g' AH A/\AR g' a v/\∀w',Sx g w'->KC Y.P f (.build t ps) ty v w':=by
 unfold Axl at hx;split at hx
 .rename_i p z qs h2 h3;obtain⟨h1,hx⟩:=AM hx;split at hx
  .rename_i cs hf;obtain⟨cells,hc1,hc2⟩:=Aci h (cells:=z) hf (U3 h1) (Aez h h3);have hle:Le g (g.new g.w (.agg cells)):=Le.new (Ext.refl _ _);refine⟨.agg cells,_,_,g.new g.w (.agg cells),hx,rfl,hle,?_,?_,λw' _ dst pos af gd=>?_⟩
   .exact h.new (A1:=[]) (Ext.refl _ _) ⟨rfl,cells.toList,g.B7 _ _,hc2.mono λ_ _ r=>⟨r.1.mono hle,r.2⟩⟩ (by simpa using h.st)
   .rw[<-h.n];exact⟨Nat.lt_succ_self _,(g.B7 _ _).symm⟩
   .have hb:Y.P.built t (ps.map λ(x:Nat×Operand)=>match x with|(i,x)=>(i,ev f x)).toList=some cells:=by rw[XR h2,Array.toList_map];exact hc1
    simp only[execOp,Sem.run_bind];rw[run_build w' t _ cells hb];rfl
  .exact hx.elim
 .exact hx.elim
theorem Am0{as rs:List Ty}{F:FT Y as rs}(ht:Pg Y.P t false 1=true)(h:FbR Y as rs F g.I g.w (ev f x)):∃v,AR g (.fn as rs F) v/\∀w',Sx g w'->KC Y.P f (.load t x) ty v w':=by
 obtain⟨b,off,u,h1,h2,h3,h4⟩:=h;have hc:u.cells=#[u]:=by obtain⟨⟨q,first,cap,rfl⟩,_⟩:=h1;rfl
 refine⟨u,h1,λw' hs dst pos af gd=>?_⟩;have hp:Dl w' ⟨b,off,none⟩ u:=⟨rfl,λj hj=>by rw[<-h2.2 j hj];exact cell?_of_heap (a:=⟨b,off+j,none⟩) (hs.BA b h3)⟩
 simp [execOp,Instr.loadAt,h4,Instr.sureAddr,N4 (agg:=false) ht hp (by rw[hc];rfl) hc]
def vop(c:Cf Y)(o:Op)(K:AV Y->Cf Y->Prop):Prop:=let k:AV Y->Prop:=λa=>K a c;match o with
 | .move x | .assign x=>match Ey c x with
  |some a=>k a
  |none=>False
 | .pick z x y=>match (Ey c z).bind asB with
  |some (.kn true)=>onA (Ey c x) k
  |some (.kn false)=>onA (Ey c y) k
  |some (.pr p _)=>(p->onA (Ey (kno c z true) x) λa=>K a (kno c z true))/\(¬p->onA (Ey (kno c z false) y) λa=>K a (kno c z false))
  |none=>False
 | .nilCheck x=>match Ey c x with
  |some a=>adA c 0 none K a
  |none=>False
 | .fieldAddr t x i=>match Ay0 Y.P t i,Ey c x with
  |some off,some a=>Fu (flB Y.P t i off) (adA c off (Y.ok t) K a)
  |_,_=>False
 | .indexAddr t x y=>Awm c t x y k
 | .load t x=>match Ey c x with
  |some (.del T d o)=>ldD t T d o k
  |some (.fbx as rs F)=>Fu (Pg Y.P t false 1) (k (.fn as rs F))
  |_=>False
 | .binOp op t x y _=>Axn c op t x y k
 | .unOp op _ x=>unX c op x k
 | .convert s d x=>Aw9 c s d x k
 | .extract x i=>match Ey c x with
  |some (.own j)=>match HG c.sg j with
   |some (.tp l)=>match l[i]? with
    |some a=>k a
    |none=>False
   |_=>False
  |_=>False
 | .index t x y=>match Ey c x with
  |some (.dat (.u n) d)=>Axq c t y n d k
  |_=>Axg c t x y k
 | .field t x i=>Awu c t x i k
 | .build t ps=>match (Y.ty t).isSome with
  |true=>Ar8 c t ps k
  |false=>Axl c t ps K
 | .makeInterface t x=>match Ey c x with
  |some (.dat T d)=>Fu (Gn Y.P t Acs) (k (.ifc t T d))
  |_=>False
 | .call ⟨.builtin .len,as,at_⟩=>Av3 c as at_ k
 | .call ⟨.builtin .min,as,_⟩=>Aqx c false as k
 | .call ⟨.builtin .max,as,_⟩=>Aqx c true as k
 |_=>False
theorem Adv(h:RG g0 T c f g AH A){o:Op}{K:AV Y->Cf Y->Prop}(hx:vop c o K):∃v a c' g',K a c'/\g'.w=g.w/\Le g g'/\RG g0 T c' f g' AH A/\AR g' a v/\∀w',Sx g w'->KC Y.P f o ty v w':=by
 have any:∀{o:Op},(∃v a,K a c/\AR g a v/\∀w',KC Y.P f o ty v w')->∃v a c' g',K a c'/\g'.w=g.w/\Le g g'/\RG g0 T c' f g' AH A/\AR g' a v/\∀w',Sx g w'->KC Y.P f o ty v w':=λ⟨v,a,h1,h2,h3⟩=>⟨v,a,c,g,h1,rfl,Le.refl _,h,h2,λw' _=>h3 w'⟩
 have one:∀{o:Op}{v:Value}{a:AV Y},K a c->AR g a v->(∀w',Sx g w'->KC Y.P f o ty v w')->∃v a c' g',K a c'/\g'.w=g.w/\Le g g'/\RG g0 T c' f g' AH A/\AR g' a v/\∀w',Sx g w'->KC Y.P f o ty v w':=λh1 h2 h3=>⟨_,_,c,g,h1,rfl,Le.refl _,h,h2,h3⟩
 unfold vop at hx;split at hx
 .split at hx
  .rename_i a ha;exact one hx (h.ev ha) λw' _ dst pos af gd=>rfl
  .exact hx.elim
 .split at hx
  .rename_i a ha;exact one hx (h.ev ha) λw' _ dst pos af gd=>rfl
  .exact hx.elim
 .rename_i z x y;have bz:∀{p:BV},(Ey c z).bind asB=some p->ev f z=.bool p.val:=λ{p}hp=>by
   cases hz:Ey c z with
   |none=>rw[hz]at hp;cases hp
   |some a=>rw[hz]at hp;exact Nx hp (h.ev hz)
  split at hx
  .rename_i h1;obtain⟨a,h2,hx⟩:=Zo hx;exact one hx (h.ev h2) λw' _=>AD λpos af K' hk=>Agi _ (bz h1) rfl hk
  .rename_i h1;obtain⟨a,h2,hx⟩:=Zo hx;exact one hx (h.ev h2) λw' _=>AD λpos af K' hk=>Agj _ (bz h1) rfl hk
  .rename_i p dp h1;have hv:=bz h1;by_cases hp:p
   .have hv:ev f z=.bool true:=by rw[hv];show Value.bool (@decide p dp)=_;rw[@decide_eq_true p dp hp]
    have h':=Z1 h hv;obtain⟨a,h2,hx⟩:=Zo (hx.1 hp);exact⟨_,_,_,g,hx,rfl,Le.refl _,h',h'.ev h2,λw' _=>AD λpos af K' hk=>Agi _ hv rfl hk⟩
   .have hv:ev f z=.bool false:=by rw[hv];show Value.bool (@decide p dp)=_;rw[@decide_eq_false p dp hp]
    have h':=Z1 h hv;obtain⟨a,h2,hx⟩:=Zo (hx.2 hp);exact⟨_,_,_,g,hx,rfl,Le.refl _,h',h'.ev h2,λw' _=>AD λpos af K' hk=>Agj _ hv rfl hk⟩
  .exact hx.elim
 .split at hx
  .rename_i a ha;obtain⟨b,o,d,c',h1,h2,h3,h4⟩:=Afc h hx (h.ev ha);exact⟨_,_,c',g,h2,rfl,Le.refl _,h4,h3,λw' _=>AD λpos af K' hk=>QG h1 hk⟩
  .exact hx.elim
 .split at hx
  .rename_i off a h1 h2;obtain⟨hf,hx⟩:=AM hx;obtain⟨b,o,d,c',h1,h2,h3,h4⟩:=Afc h hx (h.ev h2);exact⟨_,_,c',g,h2,rfl,Le.refl _,h4,h3,λw' _=>AD λpos af K' hk=>Vv hf h1 hk⟩
  .exact hx.elim
 .exact any (Aq9 h hx)
 .split at hx
  .rename_i T d o ha;obtain⟨b,off,u,h1,h2,h3,h4⟩:=h.ev ha;obtain⟨v,a,h5,h6,h7⟩:=Aeo (k:=λa=>K a c) hx h1 h2 h3 h4;exact one h5 h6 h7
  .rename_i as rs F ha;obtain⟨ht,hx⟩:=AM hx;obtain⟨v,h1,h2⟩:=Am0 (ty:=ty) ht (h.ev ha);exact one hx h1 h2
  .exact hx.elim
 .exact any (Asa h hx)
 .exact any (At2 h hx)
 .exact any (Art h hx)
 .split at hx
  .rename_i j ha;split at hx
   .rename_i l hl;obtain⟨A1,A2,_,_,h3,_⟩:=h.sg.take hl;obtain⟨_,vs,h4,h5⟩:=h3;split at hx
    .rename_i a hi;obtain⟨v,h6,h7⟩:=h5.get' hi;exact one hx h7 λw' _=>AD λpos af K' hk=>Aiz ((h.ev ha).2.trans h4) (by simpa using h6) hk
    .exact hx.elim
   .exact hx.elim
  .exact hx.elim
 .split at hx
  .rename_i n d hd;exact any (Asc h hd hx)
  .exact any (Ar1 h hx)
 .exact any (Arj h hx)
 .rename_i t ps;split at hx
  .exact any (Aho h hx)
  .exact Ar9 h hx
 .split at hx
  .rename_i T d ha;obtain⟨ht,hx⟩:=AM hx;obtain⟨e,ht⟩:=Ah8 ht;exact one (v:=.iface _ (ev f _)) hx ⟨_,rfl,h.ev ha⟩ λw' _ dst pos af gd=>by simp [execOp,Instr.makeInterface,run_underlying ht]
  .exact hx.elim
 .exact any (Aq3 h hx)
 .exact any (Agq h (mx:=false) hx)
 .exact any (Agq h (mx:=true) hx)
 .exact hx.elim
end
end
section
section
variable {Y:Sys}
variable {g0 g:B3} {T AH A:Bh} {c:Cf Y} {f:Fr}
theorem RG.DO(h:RG g0 T c f g AH A){i:Nat}{s:C6 Y}(hi:HG c.sg i=some s):∃A1 A2,SR g i s A1/\i<g.n/\St g.I g.w (A1++(AH++(A2++T)))/\∀(s':C6 Y)(A1':Bh)(g':B3),Le g g'->g'.n=g.n->SR g' i s' A1'->St g'.I g'.w (A1'++(AH++(A2++T)))->RG g0 T {c with sg:=(i,s')::Gb c.sg i} f g' AH (A1'++A2):=by obtain⟨A1,A2,h1,h2,h3,h4⟩:=h.sg.take hi;refine⟨A1,A2,h3,h2,h.st.perm (FH h1 AH),λs' A1' g' hle hn hs hst=>?_⟩;exact⟨hn.trans h.n,h.le.trans hle.ext,hst.perm (FH (List.Perm.refl _) AH).symm,h.hr.mono hle,⟨A1',A2,rfl,by show i<g'.n;omega,hs,h4.mono hle⟩,h.hs.mono hle,hle.pt h.pt,λj a hj=>(h.fr j a hj).mono hle⟩
theorem RG.name(h:RG g0 T c f g AH A)(v:Value):RG g0 T {c with nx:=c.nx+1} f (g.new g.w v) AH A:=by have hle:=Le.new (g:=g) (v:=v) (Ext.refl _ _);exact⟨by show g.n+1=c.nx+1;rw[h.n],h.le.trans hle.ext,h.st,h.hr.mono hle,h.sg.mono hle,h.hs.mono hle,hle.pt h.pt,λj a hj=>(h.fr j a hj).mono hle⟩
def Cf.put(c:Cf Y)(N:Nat)(dst:Option Tmp)(a:AV Y)(k:Cf Y->Prop):Prop:=match dst with
 |none=>k c
 |some d=>Fu (Nat.blt d N&&!Lt d c.pt) (match a with
  | .dat .ptr p=>k ({c with nx:=c.nx+1}.set d (.ptr c.nx p))
  |a=>k (c.set d a))
variable {v:Value}
theorem RG.put{N:Nat}{dst:Option Tmp}{a:AV Y}{k:Cf Y->Prop}(h:RG g0 T c f g AH A)(ha:AR g a v)(hk:c.put N dst a k):∃c' g',k c'/\g'.w=g.w/\g'.I=g.I/\Le g g'/\RG g0 T c' (X.put N f dst v) g' AH A:=by
 unfold Cf.put at hk;split at hk
 .exact⟨_,g,hk,rfl,rfl,Le.refl _,h⟩
 .rename_i d;obtain⟨hd,hk⟩:=AM hk;split at hk
  .rename_i p;refine⟨_,g.new g.w v,hk,rfl,rfl,Le.new (Ext.refl _ _),(h.name v).set hd ?_⟩;rw[<-h.n];exact⟨Nat.lt_succ_self _,g.B7 _ _,KN.1 ha⟩
  .exact⟨_,g,hk,rfl,rfl,Le.refl _,h.set hd ha⟩
def Ann(i:Nat)(t:Ty)(xs:List (den Y.D t)):AV Y->AV Y
 | .own j=>if j=i then .dat (.sl t) xs else .own j
 | .sub j T lo=>if j=i then (match Ty.dec T t with | .isTrue _=>.dat (.sl t) (xs.drop lo) | .isFalse _=>.sub j T lo) else .sub j T lo
 |a=>a
def Anl(i:Nat)(t:Ty)(xs:List (den Y.D t)):List (Nat×AV Y)->List (Nat×AV Y)
 | []=>[]
 |p::l=>(p.1,Ann i t xs p.2)::Anl i t xs l
theorem Ag5{i:Nat}{t:Ty}{xs:List (den Y.D t)}{j:Nat}{a:AV Y}:∀{l:List (Nat×AV Y)},Hu (Anl i t xs l) j=some a->∃b,Hu l j=some b/\a=Ann i t xs b
 | [],h=>by simp [Anl,Hu]at h
 |p::l,h=>by
  unfold Anl Hu at h;unfold Hu;by_cases hp:p.1=j
  .rw[if_pos hp]at h ⊢;cases h;exact⟨_,rfl,rfl⟩
  .rw[if_neg hp]at h ⊢;exact Ag5 h
def Ajg(i:Nat)(t:Ty)(xs:List (den Y.D t)):List (AV Y)->List (AV Y)
 | []=>[]
 |a::l=>Ann i t xs a::Ajg i t xs l
def Az5(i:Nat)(t:Ty)(xs:List (den Y.D t)):C6 Y->C6 Y
 | .blk cs=>.blk (Ajg i t xs cs)
 | .tp l=>.tp (Ajg i t xs l)
 | .ag l=>.ag (Ajg i t xs l)
 |s=>s
def Aws(i:Nat)(t:Ty)(xs:List (den Y.D t)):List (Nat×C6 Y)->List (Nat×C6 Y)
 | []=>[]
 |p::l=>(p.1,Az5 i t xs p.2)::Aws i t xs l
def Cf.frz(c:Cf Y)(i:Nat):Cf Y:=match HG c.sg i with
 |some (.sl t xs)=>{c with fr:=Anl i t xs c.fr,sg:=Aws i t xs (Gb c.sg i)}
 |_=>c
variable {t:Ty}
theorem Q9{I:BY}{w:World}{xs:List (den Y.D t)}(h:@Ada _ (RT Y.toUS t) I w v xs):rp Y.toUS (.sl t) I w v xs:=by obtain⟨a,cap,h1,h2,h3,h4⟩:=@Ada.ex _ (RT Y.toUS t) _ _ _ _ h;exact R8.2 ⟨a,cap,h1,h2,h3,h4⟩
theorem QR{I:BY}{w:World}{xs:List (den Y.D t)}(h:rp Y.toUS (.sl t) I w v xs):@Ada _ (RT Y.toUS t) I w v xs:=by obtain⟨a,cap,h1,h2,h3,h4⟩:=R8.1 h;exact @Ada.mk _ (RT Y.toUS t) _ _ _ _ ⟨a,cap,h1,h2,h3,h4⟩
theorem Z8{i:Nat}{xs:List (den Y.D t)}(hx:rp Y.toUS (.sl t) g.I g.w (g.μ i) xs){a:AV Y}(ha:AR g a v):AR g (Ann i t xs a) v:=by
 unfold Ann;split
 .split
  .rename_i h;subst h;have:=ha.2;subst this;exact hx
  .exact ha
 .split
  .rename_i h;subst h;split
   .rename_i e _;subst e;obtain⟨_,hv,a',len',cap',h5,hl⟩:=ha;letI:AT (den Y.D _):=RT Y.toUS ‹Ty›
    obtain⟨a,cap,h1,h2,h3,h4⟩:=Aa1 (QR hx);rw[h1]at h5;cases h5;have:=h4 _ _ _ hl (Nat.le_refl _) h2 (Nat.le_refl _);rw[List.take_of_length_le (by simp)]at this;rw[hv,h1];exact Q9 this
   .exact ha
  .exact ha
 .exact ha
theorem Ag2{g:B3}{i:Nat}{t:Ty}{xs:List (den Y.D t)}(hx:rp Y.toUS (.sl t) g.I g.w (g.μ i) xs):∀{l:List (AV Y)}{vs:List Value},F2 (AR g) l vs->F2 (AR g) (Ajg i t xs l) vs
 | [],_,.nil=>.nil
 |_::_,_,.cons h1 h2=>.cons (Z8 hx h1) (Ag2 hx h2)
theorem VR{g:B3}{i:Nat}{t:Ty}{xs:List (den Y.D t)}(hx:rp Y.toUS (.sl t) g.I g.w (g.μ i) xs):∀{l:List (AV Y)}{vs:List Value},F2 (λa v=>AR g a v/\v.oneCell'=true) l vs->F2 (λa v=>AR g a v/\v.oneCell'=true) (Ajg i t xs l) vs
 | [],_,.nil=>.nil
 |_::_,_,.cons h1 h2=>.cons ⟨Z8 hx h1.1,h1.2⟩ (VR hx h2)
theorem Ag4{g:B3}{i:Nat}{t:Ty}{xs:List (den Y.D t)}(hx:rp Y.toUS (.sl t) g.I g.w (g.μ i) xs):∀{l:List (Nat×C6 Y)}{A:Bh},Fv g l A->Fv g (Aws i t xs l) A
 | [],_,h=>h
 |p::l,A,⟨A1,A2,h1,h2,h3,h4⟩=>by
  refine⟨A1,A2,h1,h2,?_,Ag4 hx h4⟩;show SR g p.1 (Az5 i t xs p.2) A1;generalize p.2=s at h3;cases s with
  |blk cs=>obtain⟨b,arr,e,k1,k2,k3⟩:=h3;exact⟨b,arr,e,k1,k2,VR hx k3⟩
  |sl t xs|mp k e m=>exact h3
  |tp l=>obtain⟨k1,vs,k2,k3⟩:=h3;exact⟨k1,vs,k2,Ag2 hx k3⟩
  |ag l=>obtain⟨k1,vs,k2,k3⟩:=h3;exact⟨k1,vs,k2,VR hx k3⟩
  |clo f l m=>exact h3
theorem RG.frz(h:RG g0 T c f g AH A)(i:Nat):∃g' A',g'.w=g.w/\g'.n=g.n/\Le g g'/\RG g0 T (c.frz i) f g' AH A':=by
 unfold Cf.frz;split
 .rename_i t xs hi;obtain⟨A1,A2,h1,h2,h3,h4⟩:=h.sg.take hi;have hst:=h.st.perm (FH h1 AH);obtain⟨I',he,hst',hrep⟩:=@Bw.freeze _ (RT Y.toUS t) _ _ _ _ _ _ h3 hst;have hle:Le g {g with I:=I'}:=⟨he,Nat.le_refl _,λ_ _=>rfl,rfl⟩
  have hx:rp Y.toUS (.sl t) I' g.w (g.μ i) xs:=Q9 hrep;refine⟨{g with I:=I'},A2,rfl,rfl,hle,⟨h.n,h.le.trans hle.ext,hst',h.hr.mono hle,Ag4 (g:={g with I:=I'}) hx (h4.mono hle),h.hs.mono hle,hle.pt h.pt,λj a hj=>?_⟩⟩;obtain⟨b,hb,rfl⟩:=Ag5 hj;exact Z8 (g:={g with I:=I'}) hx ((h.fr j b hb).mono hle)
 .exact⟨g,A,rfl,rfl,Le.refl _,h⟩
end
end
section
section
variable {Y:Sys}
def Ajs:List Ty->List (AV Y)->Option (List (Lf Y.D))
 | [],_=>some []
 |t::ts,a::l=>match t.leaf,U0 t a,Ajs ts l with
  |true,some x,some m=>some (⟨t,x⟩::m)
  |_,_,_=>none
 |_::_,[]=>none
theorem Ahq{g:B3}{q:AV Y->Value->Prop}(hq:∀a v,q a v->AR g a v):∀{ts:List Ty}{l:List (AV Y)}{vs:List Value}{m:List (Lf Y.D)},Ajs ts l=some m->F2 q l vs->F2 (λc(l:Lf Y.D)=>rp Y.toUS l.t g.I g.w c l.x) (vs.take ts.length) m
 | [],_,_,_,h,_=>by cases h;simp;exact .nil
 |t::ts,a::l,_::vs,m,h,.cons h1 h2=>by
  unfold Ajs at h;split at h
  .rename_i x m' hl hx hm;cases h;exact .cons (Dk hx (hq _ _ h1)) (Ahq hq hm h2)
  .cases h
 |_::_,[],_,_,h,_=>by simp [Ajs]at h
def Tj(t:TypeId)(cs:List (AV Y))(o:Nat)(k:AV Y->Prop):Prop:=match Y.ty t with
 |some (.u n)=>Fu (Pg Y.P t true (Y.sig n).length) (match (Ajs (Y.sig n) (cs.drop o)).bind (Y.Ah5 n) with
  |some x=>k (.dat (.u n) x)
  |none=>False)
 |_=>Fu (Pg Y.P t false 1) (match cs[o]? with
  |some a=>k a
  |none=>False)
variable {g:B3} {o b:Nat} {t ty:TypeId} {f:Fr} {x:Operand} {k:AV Y->Prop}
theorem YX{A1:Bh}{i:Nat}{cs:List (AV Y)}(h:Tj t cs o k)(hs:SR g i (.blk cs) A1)(hi:g.μ i=.pointer (some ⟨b,0,none⟩))(hx:ev f x=.pointer (some ⟨b,o,none⟩)):∃v a,k a/\AR g a v/\∀w':World,(∀p∈A1,w'.heap[p.1]?=some p.2)->KC Y.P f (.load t x) ty v w':=by
 obtain⟨b',arr,e,rfl,h2,h3⟩:=hs;rw[hi]at h2;cases h2;have mk:∀{w':World},(∀p∈[(b,Obj.cells arr e (0,0))],w'.heap[p.1]?=some p.2)->St (λ_=>False) w' ([(b,Obj.cells arr e (0,0))]++[]):=λhw=>⟨λ_ h=>h.elim,λp hp=>⟨hw p (by simpa using hp),λh=>h⟩,by simp⟩
 unfold Tj at h;split at h
 .rename_i n hn;obtain⟨ht,h⟩:=AM h;cases hl:Ajs (Y.sig n) (cs.drop o) with
  |none=>rw[hl]at h;exact h.elim
  |some l=>
   rw[hl]at h;simp only[Option.bind_some]at h;split at h
   .rename_i y hy;have hf:=Ahq (g:=g) (λa v h=>h.1) hl (h3.drop o);have hfl:=Y.Rv n _ _ hy;have hlen:((arr.toList.drop o).take (Y.sig n).length).length=(Y.sig n).length:=by rw[hf.len,<-hfl,<-Y.Sm n y,List.length_map]
    refine⟨.agg ⟨_⟩,_,h,Hq.2 ⟨_,rfl,by rw[hfl];exact hf⟩,λw' hw=>AD λpos af K' hk=>RJ ht (mk hw) hx rfl hlen hk⟩
   .exact h.elim
 .obtain⟨ht,h⟩:=AM h;split at h
  .rename_i a ha;obtain⟨v,hv,h5⟩:=h3.get' ha;exact⟨v,a,h,h5.1,λw' hw=>AD λpos af K' hk=>U7 ht (mk hw) hx (by simpa using hv) hk⟩
  .exact h.elim
theorem Alk{A1 T1:Bh}{i:Nat}{cs:List (AV Y)}(h:Tj t cs o k)(hs:SR g i (.blk cs) A1)(hst:St g.I g.w (A1++T1))(hi:g.μ i=.pointer (some ⟨b,0,none⟩))(hx:ev f x=.pointer (some ⟨b,o,none⟩)):∃v a,k a/\AR g a v/\KC Y.P f (.load t x) ty v g.w:=by obtain⟨v,a,h1,h2,h3⟩:=YX (ty:=ty) h hs hi hx;exact⟨v,a,h1,h2,h3 g.w λp hp=>(hst.own p (List.mem_append_left _ hp)).1⟩
def rdD(t:TypeId)(T:Ty)(d:den Y.D T)(o:Nat)(k:AV Y->Prop):Prop:=ldD t T d o k
theorem Aut{T:Ty}{d:den Y.D T}{off:Nat}{u:Value}(h:rdD t T d o k)(hr:rp Y.toUS T g.I g.w u d)(hp:Dl g.w ⟨b,off,none⟩ u)(hx:ev f x=.pointer (some ⟨b,off+o,none⟩)):∃v a,k a/\AR g a v/\KC Y.P f (.load t x) ty v g.w:=by
 unfold rdD ldD at h;have cells:∀{T':Ty}{o:Nat}{y:den Y.D T'},Pg Y.P t (isU T') (sz Y.toUS T')=true->ev f x=.pointer (some ⟨b,off+o,none⟩)->XE T' (((Acf T d).drop o).take (sz Y.toUS T'))=some y->∃v,rp Y.toUS T' g.I g.w v y/\KC Y.P f (.load t x) ty v g.w:=λ{T' o y}ht hx hy=>by have hf:=((Ace hr).drop o).take (sz Y.toUS T');obtain⟨v,hv,hry,_⟩:=Aah hy hf;exact⟨v,hry,Rl ht (Vn hp (by rw[hv])) hry hx⟩
 split at h
 .rename_i T' hT;obtain⟨ht,h⟩:=AM h;split at h
  .split at h
   .rename_i e _;subst e;exact⟨u,_,h,hr,Rl ht hp hr hx⟩
   .split at h
    .rename_i y hy;obtain⟨v,h1,h2⟩:=cells (o:=0) ht hx hy;exact⟨v,_,h,h1,h2⟩
    .exact h.elim
  .split at h
   .rename_i y hy;obtain⟨v,h1,h2⟩:=cells ht hx hy;exact⟨v,_,h,h1,h2⟩
   .exact h.elim
 .exact h.elim
def rdX(c:Cf Y)(t:TypeId)(a:AV Y)(k:AV Y->Prop):Prop:=match a with
 | .adr i o=>match HG c.sg i with
  |some (.blk cs)=>Tj t cs o k
  |_=>False
 | .el i T j o=>match HG c.sg i with
  |some (.sl T' xs)=>match Ty.dec T T' with
   | .isTrue _=>∃h:j<xs.length,rdD t T' xs[j] o k
   | .isFalse _=>False
  |_=>False
 | .hp w _ o=>match HG c.sg w with
  |some (.blk cs)=>Tj t cs o k
  |_=>False
 |_=>False
theorem Vj{g0:B3}{T AH A:Bh}{c:Cf Y}(h:RG g0 T c f g AH A){a:AV Y}(hx:rdX c t a k)(ha:AR g a (ev f x)):∃v a,k a/\AR g a v/\KC Y.P f (.load t x) ty v g.w:=by
 unfold rdX at hx;split at hx
 .split at hx
  .rename_i i o cs hs;obtain⟨A1,A2,h1,h2,h3,_⟩:=h.DO hs;obtain⟨_,b,h4,h5⟩:=ha;exact Alk hx h1 h3 h4 h5
  .exact hx.elim
 .split at hx
  .rename_i T1 j o _ T' xs hs;split at hx
   .rename_i e _;subst e;obtain⟨hj,hx⟩:=hx;obtain⟨A1,A2,h1,h2,h3,_⟩:=h.DO hs;obtain⟨_,b,off,len,cap,h4,h5⟩:=ha;rcases @Bw.ex _ (RT Y.toUS T1) _ _ _ _ _ h1 with ⟨_,h6,_⟩|⟨b',arr,cap',e0,off',rfl,hμ,h6,h7,h8,h9⟩
    .subst h6;simp at hj
    rw[h4]at hμ;cases hμ;obtain⟨u,hu,hc⟩:=h9 j hj;refine Aut hx hu ⟨rfl,λi hi=>?_⟩ h5;rw[Bp h3.heap,Nat.add_assoc];exact hc i hi
   .exact hx.elim
  .exact hx.elim
 .rename_i i b o;obtain⟨h1,h2,h3⟩:=ha;split at hx
  .rename_i cs hs;obtain⟨A1,A2,k1,k2,k3,_⟩:=h.DO hs;exact Alk hx k1 k3 h2 h3
  .exact hx.elim
 .exact hx.elim
end
end
section
section
variable {Y:Sys}
def Xg:List (OL Y.D)->Nat->List (AV Y)×List (Nat×C6 Y)×Nat
 | [],n=>([],[],n)
 | .dat l::ls,n=>(.dat l.t l.x::(Xg ls n).1,(Xg ls n).2.1,(Xg ls n).2.2)
 | .own t xs::ls,n=>(.own n::(Xg ls (n+1)).1,(n,.sl t xs)::(Xg ls (n+1)).2.1,(Xg ls (n+1)).2.2)
 | .map k e m::ls,n=>(.own n::(Xg ls (n+1)).1,(n,.mp k e m)::(Xg ls (n+1)).2.1,(Xg ls (n+1)).2.2)
 | .ownO _ none::ls,n=>(.val (.slice none 0 0)::(Xg ls n).1,(Xg ls n).2.1,(Xg ls n).2.2)
 | .ownO t (some xs)::ls,n=>(.own n::(Xg ls (n+1)).1,(n,.sl t xs)::(Xg ls (n+1)).2.1,(Xg ls (n+1)).2.2)
def spl:List (OL Y.D)->(List (OL Y.D)->Prop)->Prop
 | [],k=>k []
 | .ownO t o::ls,k=>(o=none->spl ls λl=>k (.ownO t none::l))/\∀xs,o=some xs->spl ls λl=>k (.ownO t (some xs)::l)
 | .dat l::ls,k=>spl ls λm=>k (.dat l::m)
 | .own t xs::ls,k=>spl ls λm=>k (.own t xs::m)
 | .map a b c::ls,k=>spl ls λm=>k (.map a b c::m)
theorem YK:∀{ls:List (OL Y.D)}{k:List (OL Y.D)->Prop},spl ls k->k ls
 | [],_,h=>h
 |.dat _::ls,_,h|.own _ _::ls,_,h|.map _ _ _::ls,_,h=>YK (ls:=ls) h
 | .ownO t none::ls,_,h=>YK (ls:=ls) (h.1 rfl)
 | .ownO t (some xs)::ls,_,h=>YK (ls:=ls) (h.2 xs rfl)
theorem Tp:∀{ls:List (OL Y.D)}{vs:List Value}{A:Bh}{g:B3},OR Y g.I g.w vs ls A->∃g',g'.w=g.w/\g'.I=g.I/\Le g g'/\g'.n=(Xg ls g.n).2.2/\F2 (λa v=>AR g' a v/\v.oneCell'=true) (Xg ls g.n).1 vs/\Fv g' (Xg ls g.n).2.1 A
 | [],[],A,g,h=>⟨g,rfl,rfl,Le.refl _,rfl,.nil,h⟩
 | .dat l::ls,v::vs,A,g,⟨h1,h2,h3⟩=>by obtain⟨g',k1,k2,k3,k4,k5,k6⟩:=Tp h3;exact⟨g',k1,k2,k3,k4,.cons ⟨(show AR g (.dat l.t l.x) v from h1).mono k3,h2⟩ k5,k6⟩
 | .own t xs::ls,v::vs,A,g,⟨A1,A2,he,h1,h2⟩=>by have hle:Le g (g.new g.w v):=Le.new (Ext.refl _ _);obtain⟨g',k1,k2,k3,k4,k5,k6⟩:=Tp (g:=g.new g.w v) h2;have hlt:g.n<g'.n:=k3.n;have hv:g'.μ g.n=v:=(k3.μ g.n (Nat.lt_succ_self _)).trans (g.B7 _ _);obtain⟨a,cap,h4,_⟩:=@Bw.len _ (RT Y.toUS t) _ _ _ _ _ h1;refine⟨g',k1,k2,hle.trans k3,k4,.cons ⟨⟨hlt,hv.symm⟩,by rw[h4];rfl⟩ k5,A1,A2,he,hlt,?_,k6⟩;show ND Y t g'.I g'.w A1 (g'.μ g.n) xs;rw[hv,k1,k2];exact h1
 | .map k e m::ls,v::vs,A,g,⟨A1,A2,he,h1,h2⟩=>by have hle:Le g (g.new g.w v):=Le.new (Ext.refl _ _);obtain⟨g',k1,k2,k3,k4,k5,k6⟩:=Tp (g:=g.new g.w v) h2;have hlt:g.n<g'.n:=k3.n;have hv:g'.μ g.n=v:=(k3.μ g.n (Nat.lt_succ_self _)).trans (g.B7 _ _);obtain⟨b,es,cl,_,h4,_⟩:=@C4.ex _ _ (RT Y.toUS k) (RT Y.toUS e) _ _ _ _ _ h1;refine⟨g',k1,k2,hle.trans k3,k4,.cons ⟨⟨hlt,hv.symm⟩,by rw[h4];rfl⟩ k5,A1,A2,he,hlt,?_,k6⟩;show WN Y k e g'.I g'.w A1 (g'.μ g.n) m;rw[hv,k1,k2];exact h1
 | .ownO t none::ls,v::vs,A,g,⟨h1,h2⟩=>by obtain⟨g',k1,k2,k3,k4,k5,k6⟩:=Tp h2;exact⟨g',k1,k2,k3,k4,.cons ⟨h1,by rw[h1];rfl⟩ k5,k6⟩
 | .ownO t (some xs)::ls,v::vs,A,g,⟨A1,A2,he,h1,h2⟩=>by have hle:Le g (g.new g.w v):=Le.new (Ext.refl _ _);obtain⟨g',k1,k2,k3,k4,k5,k6⟩:=Tp (g:=g.new g.w v) h2;have hlt:g.n<g'.n:=k3.n;have hv:g'.μ g.n=v:=(k3.μ g.n (Nat.lt_succ_self _)).trans (g.B7 _ _);obtain⟨a,cap,h4,_⟩:=@Bw.len _ (RT Y.toUS t) _ _ _ _ _ h1;refine⟨g',k1,k2,hle.trans k3,k4,.cons ⟨⟨hlt,hv.symm⟩,by rw[h4];rfl⟩ k5,A1,A2,he,hlt,?_,k6⟩;show ND Y t g'.I g'.w A1 (g'.μ g.n) xs;rw[hv,k1,k2];exact h1
 |.ownO _ _::_,[],_,_,r|.dat _::_,[],_,_,r|.own _ _::_,[],_,_,r|.map _ _ _::_,[],_,_,r|[],_::_,_,_,r=>r.elim
variable {g:B3}
theorem Fv.app:∀{l l':List (Nat×C6 Y)}{A A':Bh},Fv g l A->Fv g l' A'->Fv g (l++l') (A++A')
 | [],_,_,_,h,h'=>by rw[show _=[] from h];exact h'
 |_::_,_,_,_,⟨A1,A2,e,h1,h2,h3⟩,h'=>⟨A1,A2++_,by rw[e,List.append_assoc],h1,h2,h3.app h'⟩
def opn(c:Cf Y)(w b n:Nat)(k:Cf Y->Prop):Prop:=
 ∃x,c.H b=some (.st n x)/\spl (Y.ocl n x) λls=>k {c with sg:=(w,.blk (Xg ls c.nx).1)::((Xg ls c.nx).2.1++c.sg),nx:=(Xg ls c.nx).2.2,op:=some ⟨w,b,n,some x⟩}
variable {g0:B3} {T AH A:Bh} {c:Cf Y} {f:Fr} {b:Nat} {k:Cf Y->Prop}
theorem Au4(h:RG g0 T c f g AH A)(hop:c.op=none){w n:Nat}(hk:opn c w b n k)(hw:w<g.n)(hb:g.μ w=.pointer (some ⟨b,0,none⟩)):∃c' g' AH' A',k c'/\g'.w=g.w/\Le g g'/\RG g0 T c' f g' AH' A':=by
 obtain⟨x,hx,hk⟩:=hk;replace hk:=YK hk;have hr:=h.hr;rw[hop]at hr;obtain⟨B1,B2,ho,hX,hst⟩:=Hk.take hr hx h.st;obtain⟨arr,e,A',rfl,hor⟩:=ho;obtain⟨g',k1,k2,k3,k4,k5,k6⟩:=Tp hor;rw[h.n]at k4 k5 k6;refine⟨_,g',B2,[(b,.cells arr e (0,0))]++(A'++A),hk,k1,k3,k4,h.le.trans k3.ext,?_,⟨hX.mono k3.ext,λy hy=>?_,Nat.lt_of_lt_of_le hw k3.n,by show g'.μ w=_;rw[k3.μ w hw];exact hb⟩,⟨_,_,rfl,Nat.lt_of_lt_of_le hw k3.n,⟨b,arr,e,rfl,by rw[k3.μ w hw];exact hb,k5⟩,k6.app (h.sg.mono k3)⟩,h.hs.mono k3,k3.pt h.pt,λi a hi=>(h.fr i a hi).mono k3⟩
 .rw[k1,k2];refine hst.perm ?_;have:((b,Obj.cells arr e (0,0))::A')++(B2++(A++T))=([(b,.cells arr e (0,0))]++A')++(B2++(A++T)):=rfl;rw[this,<-List.append_assoc _ B2,<-List.append_assoc B2];refine(List.perm_append_comm.append_right _).trans ?_;simp [List.append_assoc]
 .cases hy;exact hx
def Aqp:AV Y->Bool
 | .val (.slice none 0 0)=>true
 |_=>false
variable {a:AV Y} {v:Value}
theorem Ago(h:Aqp a=true)(ha:AR g a v):v=.slice none 0 0:=by
 unfold Aqp at h;split at h
 .exact ha
 .cases h
def clO(T:Ty)(a:AV Y)(sg:List (Nat×C6 Y)):Option (OL Y.D×List (Nat×C6 Y)):=match a with
 | .own j=>match HG sg j with
  |some (.sl t xs)=>match Ty.dec t T with
   | .isTrue _=>some (.ownO t (some xs),Gb sg j)
   | .isFalse _=>none
  |_=>none
 |a=>match Aqp a with
  |true=>some (.ownO T none,sg)
  |false=>none
variable {sg:List (Nat×C6 Y)} {r:OL Y.D×List (Nat×C6 Y)}
theorem Axd{T:Ty}(h:clO T a sg=some r)(ha:AR g a v)(hs:Fv g sg A):∃A1 A2,A.Perm (A1++A2)/\(∀vs ls A',OR Y g.I g.w vs ls A'->OR Y g.I g.w (v::vs) (r.1::ls) (A1++A'))/\Fv g r.2 A2:=by
 unfold clO at h;split at h
 .rename_i j;split at h
  .rename_i t xs hj;split at h
   .cases h;obtain⟨A1,A2,k1,k2,k3,k4⟩:=hs.take hj;exact⟨A1,A2,k1,λvs ls A' hr=>⟨A1,A',rfl,by rw[ha.2];exact k3,hr⟩,k4⟩
   .cases h
  .cases h
 .split at h
  .rename_i hn;cases h;exact⟨[],A,List.Perm.refl _,λvs ls A' hr=>⟨Ago hn ha,hr⟩,hs⟩
  .cases h
def clD(k:RK)(a:AV Y)(sg:List (Nat×C6 Y)):Option (OL Y.D×List (Nat×C6 Y)):=match a with
 | .own j=>match HG sg j with
  |some (.sl t xs)=>some (.own t xs,Gb sg j)
  |some (.mp k e m)=>some (.map k e m,Gb sg j)
  |_=>none
 | .sub j T lo=>match k,HG sg j with
  | .own _,some (.sl t xs)=>match Ty.dec T t with
   | .isTrue _=>some (.own t (xs.drop lo),Gb sg j)
   | .isFalse _=>none
  |_,_=>none
 |a=>match k with
  | .dat t=>match t.leaf,U0 t a with
   |true,some x=>some (.dat ⟨t,x⟩,sg)
   |_,_=>none
  | .own t=>match Aqp a with
   |true=>some (.own t [],sg)
   |false=>none
  | .map _ _ | .ownO _=>none
theorem Axe{k:RK}(h:clD k a sg=some r)(ha:AR g a v)(h1:v.oneCell'=true)(hs:Fv g sg A):∃A1 A2,A.Perm (A1++A2)/\(∀vs ls A',OR Y g.I g.w vs ls A'->OR Y g.I g.w (v::vs) (r.1::ls) (A1++A'))/\Fv g r.2 A2:=by
 unfold clD at h;split at h
 .rename_i j;split at h
  .rename_i t xs hj;cases h;obtain⟨A1,A2,k1,k2,k3,k4⟩:=hs.take hj;exact⟨A1,A2,k1,λvs ls A' hr=>⟨A1,A',rfl,by rw[ha.2];exact k3,hr⟩,k4⟩
  .rename_i k' e m hj;cases h;obtain⟨A1,A2,k1,k2,k3,k4⟩:=hs.take hj;exact⟨A1,A2,k1,λvs ls A' hr=>⟨A1,A',rfl,by rw[ha.2];exact k3,hr⟩,k4⟩
  .cases h
 .split at h
  .rename_i hj;split at h
   .rename_i e _;subst e;cases h;obtain⟨A1,A2,k1,k2,k3,k4⟩:=hs.take hj;obtain⟨_,hv,a,len,cap,h5,hl⟩:=ha;refine⟨A1,A2,k1,λvs ls A' hr=>⟨A1,A',rfl,?_,hr⟩,k4⟩;obtain⟨a',cap',h6,_⟩:=@Bw.len _ (RT Y.toUS _) _ _ _ _ _ k3;rw[hv];refine @Bw.sub _ _ _ _ (RT Y.toUS _) _ _ _ k3 ?_;rw[h6]at h5;cases h5;exact hl
   .cases h
  .cases h
 .split at h
  .split at h
   .rename_i x hl hx;cases h;exact⟨[],A,List.Perm.refl _,λvs ls A' hr=>⟨Dk hx ha,h1,hr⟩,hs⟩
   .cases h
  .split at h
   .rename_i hn;cases h;refine⟨[],A,List.Perm.refl _,λvs ls A' hr=>⟨[],A',rfl,?_,hr⟩,hs⟩;rw[Ago hn ha];exact @Bw.nil _ (RT Y.toUS _) _ _
   .cases h
  .cases h
  .cases h
def clC(k:RK)(a:AV Y)(sg:List (Nat×C6 Y)):Option (OL Y.D×List (Nat×C6 Y)):=match k with
 | .ownO T=>clO T a sg
 |k=>clD k a sg
theorem Axf{k:RK}(h:clC k a sg=some r)(ha:AR g a v)(h1:v.oneCell'=true)(hs:Fv g sg A):∃A1 A2,A.Perm (A1++A2)/\(∀vs ls A',OR Y g.I g.w vs ls A'->OR Y g.I g.w (v::vs) (r.1::ls) (A1++A'))/\Fv g r.2 A2:=by
 unfold clC at h;split at h
 .exact Axd h ha hs
 .exact Axe h ha h1 hs
def clL:List RK->List (AV Y)->List (Nat×C6 Y)->Option (List (OL Y.D)×List (Nat×C6 Y))
 | [],[],sg=>some ([],sg)
 |k::ks,a::l,sg=>match clC k a sg with
  |some r=>match clL ks l r.2 with
   |some q=>some (r.1::q.1,q.2)
   |none=>none
  |none=>none
 |_,_,_=>none
theorem Aob{g:B3}:∀{ks:List RK}{l:List (AV Y)}{vs:List Value}{sg:List (Nat×C6 Y)}{A:Bh}{r:List (OL Y.D)×List (Nat×C6 Y)},clL ks l sg=some r->F2 (λa v=>AR g a v/\v.oneCell'=true) l vs->Fv g sg A->∃A1 A2,A.Perm (A1++A2)/\OR Y g.I g.w vs r.1 A1/\Fv g r.2 A2
 | [],[],vs,sg,A,r,h,hf,hs=>by cases h;cases hf;exact⟨[],A,List.Perm.refl _,rfl,hs⟩
 |k::ks,a::l,_,sg,A,r,h,.cons h1 h2,hs=>by
  unfold clL at h;split at h
  .rename_i r1 hr1;split at h
   .rename_i q hq;cases h;obtain⟨A1,A2,k1,k2,k3⟩:=Axf hr1 h1.1 h1.2 hs;obtain⟨B1,B2,m1,m2,m3⟩:=Aob hq h2 k3;refine⟨A1++B1,B2,?_,k2 _ _ _ m2,m3⟩;rw[List.append_assoc];exact k1.trans (m1.append_left A1)
   .cases h
  .cases h
 |[],_::_,_,_,_,_,h,_,_|_::_,[],_,_,_,_,h,_,_=>by simp [clL]at h
def Aev(c:Cf Y):List RK->List (AV Y)->Cf Y
 |.dat _::ks,.own i::l|.dat _::ks,.sub i _ _::l=>Aev (c.frz i) ks l
 |_::ks,_::l=>Aev c ks l
 |_,_=>c
theorem Arh:∀(ks:List RK)(l:List (AV Y)){g:B3}{A:Bh}{c:Cf Y},RG g0 T c f g AH A->∃g' A',g'.w=g.w/\Le g g'/\RG g0 T (Aev c ks l) f g' AH A':=by
 intro ks;induction ks with
 |nil=>intro l g A c h;refine⟨g,A,rfl,Le.refl _,?_⟩;cases l<;>exact h
 |cons k ks ih=>
  intro l g A c h;cases l with
  |nil=>refine⟨g,A,rfl,Le.refl _,?_⟩;cases k<;>exact h
  |cons a l=>
   have one:∀i,∃g' A',g'.w=g.w/\Le g g'/\RG g0 T (Aev (c.frz i) ks l) f g' AH A':=λi=>by obtain⟨g1,A1,h1,_,h2,h3⟩:=h.frz i;obtain⟨g2,A2,h4,h5,h6⟩:=ih l h3;exact⟨g2,A2,h4.trans h1,h2.trans h5,h6⟩
   unfold Aev;split
   .rename_i e1 e2;cases e1;cases e2;exact one _
   .rename_i e1 e2;cases e1;cases e2;exact one _
   .rename_i e1 e2;cases e1;cases e2;exact ih _ h
   .exact⟨g,A,rfl,Le.refl _,h⟩
def cls(c:Cf Y)(k:Cf Y->Prop):Prop:=match c.op with
 |none=>k c
 |some o=>match HG c.sg o.i with
  |some (.blk cs)=>(λc2:Cf Y=>match c2.op with
   |none=>False
   |some o2=>match HG c2.sg o2.i with
    |some (.blk cs2)=>match clL (Y.Aly o2.n) cs2 (Gb c2.sg o2.i) with
     |some r=>match Y.oun o2.n r.1 with
      |some x'=>match o2.x with
       |some x=>x'=x/\k {c2 with sg:=r.2,op:=none}
       |none=>k {c2 with sg:=r.2,op:=none,H:=Ac c2.H o2.b (.st o2.n x')}
      |none=>False
     |none=>False
    |_=>False) (Aev c (Y.Aly o.n) cs)
  |_=>False
theorem D0(h:RG g0 T c f g AH A)(hk:cls c k):∃c' g' AH' A',k c'/\g'.w=g.w/\Le g g'/\RG g0 T c' f g' AH' A'/\(c.op=none->c'=c)/\c'.op=none:=by
 unfold cls at hk;split at hk
 .rename_i hop;exact⟨c,g,AH,A,hk,rfl,Le.refl _,h,λ_=>rfl,hop⟩
 .rename_i o hop;split at hk
  .rename_i cs hs;obtain⟨g2,A2,hw2,hle2,h2⟩:=Arh (Y.Aly o.n) cs h;generalize Aev c (Y.Aly o.n) cs=c2 at hk h2;split at hk
   .exact hk.elim
   .rename_i o2 hop2;split at hk
    .rename_i cs2 hs2;split at hk
     .rename_i r hr;split at hk
      .rename_i x' hx';have hH:=h2.hr;rw[hop2]at hH;obtain⟨hX,hold,hi,hμ⟩:=hH;obtain⟨C1,C2,k0,k1,⟨b',arr,e,rfl,hb',hf⟩,k3⟩:=h2.sg.take hs2;rw[hμ]at hb';cases hb';obtain⟨D1,D2,m1,m2,m3⟩:=Aob hr hf k3;have hob:obR Y (.st o2.n x') g2.I g2.w ((o2.b,.cells arr e (0,0))::D1) o2.b:=⟨arr,e,D1,rfl,by rw[Y.Alx _ _ _ hx'];exact m2⟩
       have hst:St g2.I g2.w ((((o2.b,.cells arr e (0,0))::D1)++AH)++(D2++T)):=by refine h2.st.perm ?_;refine(((k0.trans (m1.append_left _)).append_right T).append_left AH).trans ?_;simp only[List.append_assoc,List.cons_append,List.nil_append];refine List.perm_middle.trans (List.Perm.cons _ ?_);rw[<-List.append_assoc,<-List.append_assoc D1];exact List.perm_append_comm.append_right _
       split at hk
       .rename_i x hx;obtain⟨he,hk⟩:=hk;subst he;exact⟨_,g2,_,D2,hk,hw2,hle2,⟨h2.n,h2.le,hst,HpX.back hX (hold _ hx) hob,m3,h2.hs,h2.pt,h2.fr⟩,(λe=>by rw[hop]at e;cases e),rfl⟩
       .exact⟨_,g2,_,D2,hk,hw2,hle2,⟨h2.n,h2.le,hst,HpX.lay hX hob,m3,h2.hs,h2.pt,h2.fr⟩,(λe=>by rw[hop]at e;cases e),rfl⟩
      .exact hk.elim
     .exact hk.elim
    .exact hk.elim
  .exact hk.elim
def kdO(c:Cf Y)(t:TypeId)(w:Nat):Option Nat:=match lkH c.hs w with
 |some ⟨_,_,some n⟩=>some n
 |_=>Y.ok t
def opA(c:Cf Y)(t:TypeId)(w b:Nat)(k:Cf Y->Prop):Prop:=match HG c.sg w with
 |some (.blk _)=>k c
 |_=>match kdO c t w with
  |some n=>cls c λc=>opn c w b n k
  |none=>False
theorem Al6(h:RG g0 T c f g AH A){t:TypeId}{w:Nat}(hk:opA c t w b k)(hw:w<g.n)(hb:g.μ w=.pointer (some ⟨b,0,none⟩)):∃c' g' AH' A',k c'/\g'.w=g.w/\Le g g'/\RG g0 T c' f g' AH' A':=by
 unfold opA at hk;split at hk
 .exact⟨c,g,AH,A,hk,rfl,Le.refl _,h⟩
 .split at hk
  .rename_i n hn;obtain⟨c1,g1,AH1,A1,k1,k2,k3,k4,_,k5⟩:=D0 h hk;obtain⟨c2,g2,AH2,A2,m1,m2,m3,m4⟩:=Au4 k4 k5 k1 (Nat.lt_of_lt_of_le hw k3.n) (by rw[k3.μ w hw];exact hb);exact⟨c2,g2,AH2,A2,m1,m2.trans k2,k3.trans m3,m4⟩
  .exact hk.elim
def Aa6(c:Cf Y)(t:TypeId)(a:AV Y)(k:AV Y->Cf Y->Prop):Prop:=match a with
 | .hp w b o=>opA c t w b (k (.hp w b o))
 | .ptr _ _=>adA c 0 (Y.ok t) (λa c=>match a with
  | .hp w b o=>opA c t w b (k (.hp w b o))
  |_=>False) a
 |a=>k a c
theorem Pm(h:RG g0 T c f g AH A){t:TypeId}{k:AV Y->Cf Y->Prop}(hk:Aa6 c t a k)(ha:AR g a v):∃a' c' g' AH' A',k a' c'/\g'.w=g.w/\Le g g'/\RG g0 T c' f g' AH' A'/\AR g' a' v:=by
 unfold Aa6 at hk;split at hk
 .obtain⟨c1,g1,AH1,A1,k1,k2,k3,k4⟩:=Al6 h hk ha.1 ha.2.1;exact⟨_,c1,g1,AH1,A1,k1,k2,k3,k4,ha.mono k3⟩
 .obtain⟨b,o,d,c1,h1,h2,h3,h4⟩:=Afc h hk ha;split at h2
  .obtain⟨c2,g2,AH1,A1,k1,k2,k3,k4⟩:=Al6 h4 h2 h3.1 h3.2.1;refine⟨_,c2,g2,AH1,A1,k1,k2,k3,k4,?_⟩;rw[h1];exact h3.mono k3
  .exact h2.elim
 .exact⟨a,c,g,AH,A,hk,rfl,Le.refl _,h,ha⟩
theorem Sj{I:BY}{w:World}{H:HH Y}{x:Obj}(h:Hk (P2 Y) I w H AH)(s:St I w ((b,x)::(AH++T))):H b=none:=by obtain⟨L,h1,h2⟩:=h.ex;rw[<-h1 b];refine h2.fresh λp hp e=>?_;have hn:=s.nodup;rw[List.map_cons,List.nodup_cons]at hn;exact hn.1 (List.mem_map.2 ⟨p,List.mem_append_left _ hp,e⟩)
def Aml(c:Cf Y)(n:Nat)(cs:List (AV Y))(k:AV Y->Cf Y->Prop):Prop:=match c.op with
 |none=>∀b,c.H b=none->k (.hp c.nx b 0) {c with sg:=(c.nx,.blk cs)::c.sg,nx:=c.nx+1,op:=some ⟨c.nx,b,n,none⟩,hs:=⟨c.nx,b,some n⟩::c.hs}
 |some _=>False
theorem Aqq(h:RG g0 T c f g AH A){n:Nat}{cs:List (AV Y)}{vs:Array Value}{e:TypeId}{k:AV Y->Cf Y->Prop}(hk:Aml c n cs k)(hf:F2 (λa v=>AR g a v/\v.oneCell'=true) cs vs.toList):∃a c' g' A',k a c'/\Le g g'/\g'.w=g.w.alloc (.cells vs e)/\RG g0 T c' f g' AH A'/\AR g' a (.pointer (some ⟨g.w.heap.size,0,none⟩)):=by
 unfold Aml at hk;split at hk
 .rename_i hop;obtain⟨e1,s1⟩:=h.st.alloc (.cells vs e);have hle:=Le.new (g:=g) (v:=.pointer (some ⟨g.w.heap.size,0,none⟩)) e1;have hr:=h.hr;rw[hop]at hr;have hr':=Hk.mono hr e1;have hfr:c.H g.w.heap.size=none:=Sj hr' s1;have hnew:=h.new (s:=.blk cs) (v:=.pointer (some ⟨g.w.heap.size,0,none⟩)) e1 ⟨_,vs,e,rfl,g.B7 _ _,hf.mono λ_ _ r=>⟨r.1.mono hle,r.2⟩⟩ s1;obtain⟨L,h1,h2⟩:=hr'.ex;refine⟨_,_,g.new (g.w.alloc (.cells vs e)) (.pointer (some ⟨g.w.heap.size,0,none⟩)),_,hk _ hfr,hle,rfl,⟨hnew.n,hnew.le,hnew.st,⟨⟨L,λc _=>h1 c,h2⟩,λx hx=>(by cases hx),?_,?_⟩,hnew.sg,?_,hnew.pt,hnew.fr⟩,?_⟩
  .rw[<-h.n];exact Nat.lt_succ_self _
  .rw[<-h.n];exact g.B7 _ _
  .intro x hx;rcases List.mem_cons.1 hx with rfl|hx
   .rw[<-h.n];exact⟨Nat.lt_succ_self _,g.B7 _ _⟩
   .exact hnew.hs x hx
  .rw[<-h.n];exact⟨Nat.lt_succ_self _,g.B7 _ _,rfl⟩
 .exact hk.elim
end
end
section
section
variable {Y:Sys}
def Pb(g0:B3)(T:Bh)(f:Fr)(w:World)(op:Op)(k:AV Y->Cf Y->Prop)(g:B3):Prop:=∀(N:Nat)(ops:Array Oper)(R:List PanicEntry->World->Prop)(K:Fr->World->Prop)(os:List Oper)(dst:Option Tmp)(ty:TypeId)(pos:String)(af:Array Edge),(∀v a c' g' AH' A',Le g g'->RG g0 T c' f g' AH' A'->AR g' a v->k a c'->WL Y.P N ops R false K os (X.put N f dst v) g'.w)->WL Y.P N ops R false K (⟨dst,op,ty,pos,af,none⟩::os) f w
def Cf.E4(c:Cf Y):Cf Y:={c with op:=match c.op with|none=>none|some o=>some ⟨o.i,o.b,o.n,none⟩}
variable {g0 g:B3} {T AH A:Bh} {c:Cf Y} {f:Fr}
theorem RG.E4(h:RG g0 T c f g AH A):RG g0 T c.E4 f g AH A:=by
 refine⟨h.n,h.le,h.st,?_,h.sg,h.hs,h.pt,h.fr⟩;have:=h.hr;show HR g c.H c.sg AH (match c.op with|none=>none|some o=>some ⟨o.i,o.b,o.n,none⟩);cases ho:c.op with
 |none=>rw[ho]at this;exact this
 |some o=>rw[ho]at this;exact⟨this.1,(λx hx=>by cases hx),this.2.2⟩
variable {b n:Nat} {e t:TypeId}
theorem storeCells{P:Program}{I:BY}{w:World}{o:Nat}{cs:Array Value}{y:Value}{agg:Bool}(ht:Pg P t agg n=true)(hs:St I w ([(b,.cells cs e (0,0))]++T))(hn:y.cells.size=n)(hv:∀v∈y.cells.toList,v.oneCell'=true)(ho:o+n<=cs.size):∃w' row,(Instr.storeAt t (.pointer (some ⟨b,o,none⟩)) y).run P w=.ok () w'/\Ext I w I w'/\St I w' ([(b,.cells row e (0,0))]++T)/\row.toList=cs.toList.take o++(y.cells.toList++cs.toList.drop (o+n)):=by
 have hst:=run_storeCells_at P b o e y.cells.toList 0 cs w hs.heap (by simp;omega) hv;simp only[Nat.add_zero]at hst;generalize hrow:(List.take o cs.toList++y.cells.toList++List.drop (o+y.cells.toList.length) cs.toList).toArray=row at hst;obtain⟨e1,s1⟩:=hs.write (w':=w.setRow b row) rfl rfl rfl (by simp [World.setRow]) (setRow_heap w b cs _ e _ hs.heap) (λc hc=>setRow_other w b c _ hc);refine⟨_,row,?_,e1,s1,?_⟩
 .simp [Instr.storeAt,Instr.sureAddr,storeVar,(GH (w:=w) ht).2,hn,hst]
 .subst hrow;simp [hn]
def stB(c:Cf Y)(i:Nat)(cs:List (AV Y))(o:Nat)(t:TypeId)(a:AV Y)(k:Cf Y->Prop):Prop:=match Y.ty t with
 |some (.u n)=>match UA a (Y.sig n) with
  |some l=>Fu (Pg Y.P t true (Y.sig n).length&&Nat.beq l.length (Y.sig n).length&&Nat.ble (o+(Y.sig n).length) cs.length&&l.all λx=>x.t.leaf)
   (k {c.E4 with sg:=(i,.blk (cs.take o++(l.map (λx=>AV.dat x.t x.x)++cs.drop (o+(Y.sig n).length))))::Gb c.sg i})
  |none=>False
 |_=>Fu (Pg Y.P t false 1&&Aiy c a&&Nat.blt o cs.length) (k {c.E4 with sg:=(i,.blk (cs.take o++([a]++cs.drop (o+1))))::Gb c.sg i})
variable {cs:List (AV Y)} {a:AV Y} {x y:Operand} {kk:AV Y->Cf Y->Prop}
theorem Ak6(h:RG g0 T c f g AH A){i o:Nat}(hs:HG c.sg i=some (.blk cs))(hk:stB c i cs o t a λc'=>kk (.val undef) c')(hi:g.μ i=.pointer (some ⟨b,0,none⟩))(hx:ev f x=.pointer (some ⟨b,o,none⟩))(ha:AR g a (ev f y)):Pb g0 T f g.w (.store t x y) kk g:=by
 intro N ops R K os dst ty pos af next;obtain⟨A1,A2,⟨b',arr,e,rfl,hb',hf⟩,hin,hst,back⟩:=h.E4.DO (s:=.blk cs) hs;rw[hi]at hb';cases hb';have fin:∀{w':World}{row:Array Value}{cs':List (AV Y)},(Instr.storeAt t (.pointer (some ⟨b,o,none⟩)) (ev f y)).run Y.P g.w=.ok () w'->Ext g.I g.w g.I w'->St g.I w' ([(b,.cells row e (0,0))]++(AH++(A2++T)))->
   (∀g',Le g g'->F2 (λa v=>AR g' a v/\v.oneCell'=true) cs' row.toList)->kk (.val undef) {c.E4 with sg:=(i,.blk cs')::Gb c.sg i}->WL Y.P N ops R false K (⟨dst,.store t x y,ty,pos,af,none⟩::os) f g.w:=λ{w' row cs'}h1 h2 h3 h4 h5=>by
  have hle:Le g {g with w:=w'}:=⟨h2,Nat.le_refl _,λ_ _=>rfl,rfl⟩
  have:=next undef (.val undef) _ {g with w:=w'} AH ([(b,.cells row e (0,0))]++A2) hle (back (.blk cs') [(b,.cells row e (0,0))] {g with w:=w'} hle rfl ⟨b,row,e,rfl,hi,h4 _ hle⟩ h3) rfl h5
  exact MX (by simp [execOp,hx,h1]) this
 unfold stB at hk;split at hk
 .rename_i n hn;split at hk
  .rename_i l hl;obtain⟨hc,hk⟩:=AM hk;simp only[Bool.and_eq_true,Nat.beq_eq,Nat.ble_eq]at hc;obtain⟨⟨⟨ht,hlen⟩,hle⟩,hleaf⟩:=hc;have hfl:=VC hl ha;have hone:=Ab2 hfl hleaf;have hsz:(ev f y).cells.size=(Y.sig n).length:=by have:=hfl.len;simp at this;omega
   have hcs:cs.length=arr.size:=by have:=hf.len;simpa using this
   obtain⟨w',row,h1,h2,h3,h4⟩:=storeCells (o:=o) ht hst hsz hone (by omega);refine fin h1 h2 h3 (λg' hg'=>?_) hk;rw[h4];refine((hf.take o).mono λ_ _ r=>⟨r.1.mono hg',r.2⟩).app (.app ?_ ((hf.drop _).mono λ_ _ r=>⟨r.1.mono hg',r.2⟩));refine Ao0 (Ao2 (Ahy hfl) λv hv a r=>⟨?_,hone v hv⟩);exact(show AR g (.dat a.t a.x) v from r).mono hg'
  .exact hk.elim
 .obtain⟨hc,hk⟩:=AM hk;simp only[Bool.and_eq_true,Nat.blt_eq]at hc;obtain⟨⟨ht,hone⟩,hlt⟩:=hc;have hone:=Agf h hone ha;have hcs:cs.length=arr.size:=by have:=hf.len;simpa using this
  have hc1:(ev f y).cells=#[ev f y]:=by generalize ev f y=v at hone;cases v<;>first|rfl|simp [Value.oneCell']at hone
  obtain⟨w',row,h1,h2,h3,h4⟩:=storeCells (o:=o) (n:=1) ht hst (by rw[hc1];rfl) (by rw[hc1];simpa using hone) (by omega);refine fin h1 h2 h3 (λg' hg'=>?_) hk;rw[h4,hc1];exact((hf.take o).mono λ_ _ r=>⟨r.1.mono hg',r.2⟩).app (.app (.cons ⟨ha.mono hg',hone⟩ .nil) ((hf.drop _).mono λ_ _ r=>⟨r.1.mono hg',r.2⟩))
def stE(c:Cf Y)(i:Nat)(T:Ty)(j:Nat)(T':Ty)(xs:List (den Y.D T'))(t:TypeId)(a:AV Y)(k:Cf Y->Prop):Prop:=match Ty.dec T T' with
 | .isTrue _=>match U0 T' a with
  |some d=>Fu (Pg Y.P t (isU T') (sz Y.toUS T')) (j<xs.length/\k {c.E4 with sg:=(i,.sl T' (xs.set j d))::Gb c.sg i})
  |none=>False
 | .isFalse _=>False
theorem Aud{T0:Bh}(h:RG g0 T0 c f g AH A){i j off len cap:Nat}{T T':Ty}{xs:List (den Y.D T')}(hs:HG c.sg i=some (.sl T' xs))(hk:stE c i T j T' xs t a λc'=>kk (.val undef) c')(hi:g.μ i=.slice (some ⟨b,off,none⟩) len cap)(hx:ev f x=.pointer (some ⟨b,off+j*sz Y.toUS T+0,none⟩))(ha:AR g a (ev f y)):Pb g0 T0 f g.w (.store t x y) kk g:=by
 intro N ops R K os dst ty pos af next;obtain⟨A1,A2,ho,hin,hst,back⟩:=h.E4.DO (s:=.sl T' xs) hs;unfold stE at hk;split at hk
 .rename_i e _;subst e;split at hk
  .rename_i d hd;obtain⟨ht,hj,hk⟩:=AM hk;have hat:At (g.μ i) (sz Y.toUS T) j ⟨b,off+j*sz Y.toUS T+0,none⟩:=⟨b,off,_,_,hi,rfl⟩
   letI:AT (den Y.D T):=RT Y.toUS T
   obtain⟨A',w',h1,h2,h3,h4⟩:=Aia (α:=den Y.D T) ho hst hat hj (Dk hd ha) ht;have hle:Le g {g with w:=w'}:=⟨h2,Nat.le_refl _,λ_ _=>rfl,rfl⟩
   have:=next undef (.val undef) _ {g with w:=w'} AH (A'++A2) hle (back (.sl T (xs.set j d)) A' {g with w:=w'} hle rfl h4 h3) rfl hk;rw[Nat.add_zero]at h1;exact MX (by simp [execOp,hx,h1]) this
  .exact hk.elim
 .exact hk.elim
def stX(c:Cf Y)(t:TypeId)(p a:AV Y)(k:Cf Y->Prop):Prop:=match p with
 | .adr i o=>match HG c.sg i with
  |some (.blk cs)=>stB c i cs o t a k
  |_=>False
 | .hp i _ o=>match HG c.sg i with
  |some (.blk cs)=>stB c i cs o t a k
  |_=>False
 | .el i T j 0=>match HG c.sg i with
  |some (.sl T' xs)=>stE c i T j T' xs t a k
  |_=>False
 |_=>False
theorem Ak5(h:RG g0 T c f g AH A){p:AV Y}(hk:stX c t p a λc'=>kk (.val undef) c')(hp:AR g p (ev f x))(ha:AR g a (ev f y)):Pb g0 T f g.w (.store t x y) kk g:=by
 unfold stX at hk;split at hk
 .split at hk
  .rename_i cs hs;obtain⟨_,b,h1,h2⟩:=hp;exact Ak6 h hs hk h1 h2 ha
  .exact hk.elim
 .split at hk
  .rename_i cs hs;exact Ak6 h hs hk hp.2.1 hp.2.2 ha
  .exact hk.elim
 .split at hk
  .rename_i T' xs hs;obtain⟨_,b,off,len,cap,h1,h2⟩:=hp;exact Aud h hs hk h1 h2 ha
  .exact hk.elim
 .exact hk.elim
variable {k:AV Y->Cf Y->Prop}
theorem Amm(h:RG g0 T c f g AH A){op:Op}{vs:Array Value}(hf:F2 (λa v=>AR g a v/\v.oneCell'=true) cs vs.toList)(hr:∀(dst:Option Tmp)(ty:TypeId)(pos:String)(af:Array Edge),(execOp (ev f) ⟨dst,op,ty,pos,af,none⟩).run Y.P g.w=.ok (.value (.pointer (some ⟨g.w.heap.size,0,none⟩))) (g.w.alloc (.cells vs e)))(hk:k (.adr c.nx 0) {c with sg:=(c.nx,.blk cs)::c.sg,nx:=c.nx+1}):Pb g0 T f g.w op k g:=by
 intro N ops R K os dst ty pos af next;obtain⟨e1,s1⟩:=h.st.alloc (.cells vs e);have hle:=Le.new (g:=g) (v:=.pointer (some ⟨g.w.heap.size,0,none⟩)) e1;refine Ay (hr dst ty pos af) (next _ (.adr c.nx 0) _ (g.new (g.w.alloc (.cells vs e)) (.pointer (some ⟨g.w.heap.size,0,none⟩))) AH _ hle (h.new e1 ?_ s1) ?_ hk)
 .exact⟨_,vs,e,rfl,g.B7 _ _,hf.mono λ_ _ r=>⟨r.1.mono hle,r.2⟩⟩
 .rw[<-h.n];exact⟨Nat.lt_succ_self _,_,g.B7 _ _,rfl⟩
theorem Af4(dst:Option Tmp)(ty:TypeId)(pos:String)(af:Array Edge):(execOp (ev f) ⟨dst,.box e x,ty,pos,af,none⟩).run Y.P g.w=.ok (.value (.pointer (some ⟨g.w.heap.size,0,none⟩))) (g.w.alloc (.cells (ev f x).cells e)):=by simp [execOp,Instr.box,newVar,newRow]
def Axk(c:Cf Y)(pr:Option Nat)(a:AV Y)(k:AV Y->Cf Y->Prop):Prop:=match ZN c a with
 |some cs=>match pr with
  |none=>k (.adr c.nx 0) {c with sg:=(c.nx,.blk cs)::c.sg,nx:=c.nx+1}
  |some n=>Aml c n cs k
 |none=>False
theorem newObj(h:RG g0 T c f g AH A){op:Op}{vs:Array Value}(hf:F2 (λa v=>AR g a v/\v.oneCell'=true) cs vs.toList)(hr:∀(dst:Option Tmp)(ty:TypeId)(pos:String)(af:Array Edge),(execOp (ev f) ⟨dst,op,ty,pos,af,none⟩).run Y.P g.w=.ok (.value (.pointer (some ⟨g.w.heap.size,0,none⟩))) (g.w.alloc (.cells vs e)))(hk:Aml c n cs k):Pb g0 T f g.w op k g:=by intro N ops R K os dst ty pos af next;obtain⟨a,c',g',A',k1,k2,k3,k4,k5⟩:=Aqq (e:=e) h hk hf;exact Ay (by rw[k3];exact hr dst ty pos af) (next _ a c' g' AH A' k2 k4 k5 k1)
variable {pr:Option Nat}
theorem Ar7(h:RG g0 T c f g AH A)(hk:Axk c pr a k)(ha:AR g a (ev f x)):Pb g0 T f g.w (.box e x) k g:=by
 unfold Axk at hk;split at hk
 .rename_i cs hcs;have hf:=Yw h hcs ha;split at hk
  .exact Amm h hf Af4 hk
  .exact newObj h hf Af4 hk
 .exact hk.elim
def zro(P:Program)(t:TypeId):Option Value:=(P.info? t).bind (·.zero)
def Ayi(x:Lf Y.D)(v:Value):AV Y:=match x with
 |⟨.sl _,_⟩=>.val v
 |x=>.dat x.t x.x
def Att:List (Lf Y.D)->List Value->List (AV Y)
 |x::l,v::vs=>Ayi x v::Att l vs
 |_,_=>[]
theorem Afm{g:B3}:∀{l:List (Lf Y.D)}{vs:List Value},F2 (λc(l:Lf Y.D)=>rp Y.toUS l.t g.I g.w c l.x) vs l->vs.all (·.oneCell')=true->F2 (λa v=>AR g a v/\v.oneCell'=true) (Att l vs) vs
 | [],[],_,_=>.nil
 |x::l,v::vs,.cons h1 h2,h3=>by
  simp only[List.all_cons,Bool.and_eq_true]at h3;refine .cons ⟨?_,h3.1⟩ (Afm h2 h3.2);unfold Ayi;split
  .rfl
  .exact h1
def Ats(e:TypeId)(z:Value):Option (List (AV Y)):=match z.cells.toList.all (·.oneCell') with
 |true=>match Y.ty e with
  |some (.u n)=>match K8 (Y:=Y) (Y.sig n) z.cells.toList with
   |some l=>some (Att l z.cells.toList)
   |none=>none
  |_=>some (Apq z.cells.toList)
 |false=>none
theorem Afl{z:Value}(h:Ats e z=some cs):F2 (λa v=>AR g a v/\v.oneCell'=true) cs z.cells.toList:=by
 unfold Ats at h;split at h
 .rename_i h1;split at h
  .split at h
   .rename_i l hl;cases h;exact Afm (Lk (I:=g.I) (w:=g.w) hl) h1
   .cases h
  .cases h;exact U3 h1
 .cases h
def Asf(c:Cf Y)(pr:Option Nat)(e:TypeId)(k:AV Y->Cf Y->Prop):Prop:=match zro Y.P e with
 |some z=>match Ats (Y:=Y) e z with
  |some cs=>match pr with
   |none=>k (.adr c.nx 0) {c with sg:=(c.nx,.blk cs)::c.sg,nx:=c.nx+1}
   |some n=>Aml c n cs k
  |none=>False
 |none=>False
theorem Ahs(h:RG g0 T c f g AH A)(hk:Asf c pr e k):Pb g0 T f g.w (.alloc e) k g:=by
 unfold Asf at hk;split at hk
 .rename_i z hz;have run:∀(dst:Option Tmp)(ty:TypeId)(pos:String)(af:Array Edge),(execOp (ev f) ⟨dst,.alloc e,ty,pos,af,none⟩).run Y.P g.w=.ok (.value (.pointer (some ⟨g.w.heap.size,0,none⟩))) (g.w.alloc (.cells z.cells e)):=λdst ty pos af=>by
   unfold zro at hz;cases hi:Y.P.info? e with
   |none=>simp [hi]at hz
   |some i=>
    simp only[hi,Option.bind_some]at hz;simp [execOp,Instr.alloc,newVar,newRow,zeroValue,typeInfo,hi,hz]
  split at hk
  .rename_i cs hcs;split at hk
   .exact Amm h (Afl hcs) run hk
   .exact newObj h (Afl hcs) run hk
  .exact hk.elim
 .exact hk.elim
def Pa:List Value->Bool
 | []=>true
 | .bool false::l=>Pa l
 |_::_=>false
theorem Ue:∀{l:List Value},Pa l=true->∀j(h:j<l.length),l[j]=.bool false
 | [],_,j,h=>absurd h (Nat.not_lt_zero _)
 |v::l,ha,0,_=>by
  unfold Pa at ha;split at ha
  .rename_i e;cases e
  .rename_i e;cases e;rfl
  .cases ha
 |v::l,ha,j+1,h=>by
  unfold Pa at ha;split at ha
  .rename_i e;cases e
  .rename_i e;cases e;exact Ue ha j (Nat.lt_of_succ_lt_succ h)
  .cases ha
def arX(P:Program)(e:TypeId):Option (Nat×Value):=match P.underlying e with
 |some (.array n _)=>match zro P e with
  |some z=>match Pa z.cells.toList&&Nat.beq z.cells.size n&&Nat.ble n 1000 with
   |true=>some (n,z)
   |false=>none
  |none=>none
 |_=>none
theorem Axr{P:Program}{z:Value}(h:arX P e=some (n,z)):zro P e=some z/\z.cells.size=n/\n<=1000/\∀j(h:j<z.cells.toList.length),z.cells.toList[j]=.bool false:=by
 unfold arX at h;split at h
 .split at h
  .rename_i z' hz;split at h
   .rename_i hb;cases h;simp only[Bool.and_eq_true]at hb;exact⟨hz,Nat.eq_of_beq_eq_true hb.1.2,Nat.le_of_ble_eq_true hb.2,Ue hb.1.1⟩
   .cases h
  .cases h
 .cases h
def Axv(c:Cf Y)(pr:Option Nat)(e:TypeId)(k:AV Y->Cf Y->Prop):Prop:=match pr with
 |none=>match arX Y.P e with
  |some (n,_)=>k (.el c.nx .bool 0 0) {c with sg:=(c.nx,.sl .bool (List.replicate n false))::c.sg,nx:=c.nx+1}
  |none=>Asf c none e k
 |some n=>Asf c (some n) e k
theorem Ase(h:RG g0 T c f g AH A)(hk:Axv c pr e k):Pb g0 T f g.w (.alloc e) k g:=by
 unfold Axv at hk;split at hk
 .split at hk
  .rename_i n z hz;obtain⟨hz,hn,hle,hall⟩:=Axr hz;have run:∀(dst:Option Tmp)(ty:TypeId)(pos:String)(af:Array Edge),(execOp (ev f) ⟨dst,.alloc e,ty,pos,af,none⟩).run Y.P g.w=.ok (.value (.pointer (some ⟨g.w.heap.size,0,none⟩))) (g.w.alloc (.cells z.cells e)):=λdst ty pos af=>by
    unfold zro at hz;cases hi:Y.P.info? e with
    |none=>simp [hi]at hz
    |some i=>
     simp only[hi,Option.bind_some]at hz;simp [execOp,Instr.alloc,newVar,newRow,zeroValue,typeInfo,hi,hz]
   intro N ops R K os dst ty pos af next;obtain⟨e1,s1⟩:=h.st.alloc (.cells z.cells e);have hle':=Le.new (g:=g) (v:=.slice (some ⟨g.w.heap.size,0,none⟩) n n) e1;refine Ay (run dst ty pos af) (next _ (.el c.nx .bool 0 0) _ (g.new (g.w.alloc (.cells z.cells e)) (.slice (some ⟨g.w.heap.size,0,none⟩) n n)) AH _ hle' (h.new e1 ?_ s1) ?_ hk)
   .show ND Y .bool _ _ _ _ _;rw[g.B7];letI:AT (den Y.D .bool):=RT Y.toUS .bool
    refine Bw.Tw (α:=den Y.D .bool) (by simp) (by simp) (by unfold maxLen;omega) ?_ ?_
    .show n*1<=_;omega
    .intro j hj;rw[List.length_replicate]at hj;refine⟨.bool false,?_,λi hi=>?_⟩
     .rw[List.getElem_replicate];exact GO.2 rfl
     .have hi:i<1:=hi;have hlt:j<z.cells.toList.length:=by rw[Array.length_toList,hn];exact hj
      show z.cells[j*1+i]?=_;rw[show j*1+i=j by omega,<-Array.getElem?_toList,List.getElem?_eq_getElem hlt,hall j hlt,show i=0 by omega];rfl
   .rw[<-h.n];exact⟨Nat.lt_succ_self _,_,0,_,_,g.B7 _ _,by simp⟩
  .exact Ahs h hk
 .exact Ahs h hk
end
end
end Go.Y
