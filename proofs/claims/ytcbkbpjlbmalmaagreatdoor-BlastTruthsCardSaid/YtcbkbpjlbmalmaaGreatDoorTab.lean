/-
  The Y layer, part o: one operation ('xop'); regions in the order of the text. (Merged by program out of 17 texts.)
-/
import Derived.Test.YtcbkbpjlbmalmaaGreatDoorTaa
open Bool renaming and_eq_true->a1,or_eq_true->ba
open List renaming append_assoc->a2,mem_append_left->a6,Perm.refl->aa,mem_cons_self->ab,mem_cons_of_mem->ac,getElem?_append_right->ad,getElem?_append_left->ai,mem_map_of_mem->ak,mem_cons->al,getElem?_take_of_lt->am,nodup_append->ap,getElem?_toArray->aq,map_append->au,replicate->ax,mem_singleton->ay,map_cons->b3,cons_append->b4,perm_middle->b5,length_take->b6,mem_map->b9,nil_append->bb,perm_append_comm->be,length_replicate->bf,take->bg,all_cons->bm,cons.inj->bn,drop->bp
open Nat renaming le_refl->a3,lt_succ_self->a4,lt_of_lt_of_le->a5,eq_of_beq_eq_true->a7,mul_le_mul_right->a8,beq->an,add_zero->ao,add_assoc->ar,add_le_add_left->av,ble_eq->aw,zero_le->b0,add_sub_cancel_left->b7,le_trans->b8,le_of_ble_eq_true->bc,mul_le_mul_left->bi,beq_eq->bj,ble->bk,zero_add->bq,blt->bt
open Array renaming getElem?_toList->a9,length_toList->bh,toList_map->bl
open Option renaming bind_some->ae,isNone_iff_eq_none->ah,isSome_iff_ne_none->az
open Int renaming toNat_of_nonneg->aj,ofNat_lt->br
namespace Go.Y
open Go Go.RowKit Go.X
section
section
variable {Y:Sys}
variable {P:Program} {f:Fr} {ty:TypeId} {w:World}
theorem QO{op:Op}{v:Value}(h:∀(dst:Option Tmp)(pos:String)(af:Array Edge)(gd:Option (Nat×Bool)),(execOp (ev f) ⟨dst,op,ty,pos,af,gd⟩).run P w=.ok (.value v) w):KR P f op ty v w:=h
def X8(kn:Option Nat):List Hs->Nat->List Hs
 | [],_=>[]
 |h::l,w=>if h.w=w then (match h.n with |none=>{h with n:=kn} |some _=>h)::l else h::X8 kn l w
theorem Aa2{g:B4}{kn:Option Nat}{w:Nat}:∀{l:List Hs},HsR g l->HsR g (X8 kn l w)
 | [],h=>h
 |x::l,h=>by
  unfold X8;by_cases b:x.w=w
  .rw[UV b];intro y a;rcases al.1 a with rfl|a
   .split
    .exact h x ab
    .exact h x ab
   .exact h y (ac _ a)
  .rw[GT b];intro y a;rcases al.1 a with rfl|a
   .exact h _ ab
   .exact Aa2 (λz c=>h z (ac _ c)) y a
def adA(c:Cf Y)(off:Nat)(kn:Option Nat)(k:AV Y->Cf Y->Prop):AV Y->Prop
 | .adr i o=>k (.adr i (o+off)) c
 | .del T x o=>k (.del T x (o+off)) c
 | .el i T j o=>k (.el i T j (o+off)) c
 | .hp w b o=>k (.hp w b (o+off)) (match kn with |none=>c |some n=>{c with hs:=X8 (some n) c.hs w})
 | .ptr w p=>match lkH c.hs w with
  |some h=>k (.hp w h.b off) (match kn with |none=>c |some n=>{c with hs:=X8 (some n) c.hs w})
  |none=>∃b,p=some b/\k (.hp w b off) {c with hs:=⟨w,b,kn⟩::c.hs}
 |_=>False
variable {g0 g:B4} {T AH A:Bd} {c:Cf Y}
theorem Aex(e:RG g0 T c f g AH A){off:Nat}{kn:Option Nat}{k:AV Y->Cf Y->Prop}{a:AV Y}{v:Value}(h:adA c off kn k a)(r:AR g a v):∃b o d c',v=.pointer (some ⟨b,o,none⟩)/\k d c'/\AR g d (.pointer (some ⟨b,o+off,none⟩))/\RG g0 T c' f g AH A:=by
 have m:∀(kn:Option Nat)(w:Nat),RG g0 T (match kn with|none=>c|some n=>{c with hs:=X8 (some n) c.hs w}) f g AH A:=λkn w=>by
  cases kn with
  |none=>exact e
  |some n=>exact⟨e.n,e.le,e.st,e.hr,e.sg,Aa2 e.hs,e.pt,e.fr⟩
 unfold adA at h;split at h
 .obtain⟨j,b,l,i⟩:=r;exact⟨b,_,_,_,i,h,⟨j,b,l,rfl⟩,e⟩
 .obtain⟨b,o,u,j,l,i,z⟩:=r;exact⟨b,_,_,_,z,h,⟨b,o,u,j,l,i,by rw[ar]⟩,e⟩
 .obtain⟨j,b,p,s,t,l,i⟩:=r;exact⟨b,_,_,_,i,h,⟨j,b,p,s,t,l,by rw[ar]⟩,e⟩
 .obtain⟨j,l,i⟩:=r;exact⟨_,_,_,_,i,h,⟨j,l,rfl⟩,m _ _⟩
 .obtain⟨j,l,i⟩:=r;split at h
  .rename_i x q;obtain⟨C,B⟩:=Zi q;obtain⟨z,y⟩:=e.hs x C;rw[B]at y;refine⟨_,0,_,_,l.symm.trans y,h,⟨j,y,by rw[bq]⟩,m _ _⟩
  .obtain⟨b,rfl,h⟩:=h;refine⟨_,0,_,_,i,h,⟨j,l.trans i,by rw[bq]⟩,⟨e.n,e.le,e.st,e.hr,e.sg,λx q=>?_,e.pt,e.fr⟩⟩;rcases al.1 q with rfl|q
   .grind
   .exact e.hs x q
 grind
def Tv(c:Cf Y):List Operand->Option (List (IntKind×Int))
 | []=>some []
 |x::l=>match (En c x).bind asInt,Tv c l with
  |some p,some m=>some (p::m)
  |_,_=>none
def Ajv(k:IntKind):List (IntKind×Int)->Bool
 | []=>true
 |p::l=>decide (p.1=k)&&Ajv k l
def GZ(mx:Bool)(a:Int):List (IntKind×Int)->Int
 | []=>a
 |p::l=>GZ mx (if mx then max a p.2 else min a p.2) l
theorem Yg{g0 g:B4}{T AH A:Bd}{c:Cf Y}{f:Fr}(h:RG g0 T c f g AH A):∀{l:List Operand}{m:List (IntKind×Int)},Tv c l=some m->l.map (ev f)=m.map λp=>.int p.1 p.2
 | [],m,b=>by cases b;rfl
 |x::l,m,b=>by
  unfold Tv at b;split at b
  .rename_i p j d i;cases b;cases e:En c x with
   |none=>grind
   |some a=>
    rw[e]at d;have:=F9 (p:=p) d (h.ev e);rw[b3,b3,this,Yg h i]
  grind
theorem Amz{P:Program}{w:World}{k:IntKind}(mx:Bool):∀(l:List (IntKind×Int))(a:Int),Ajv k l=true->((l.map λp=>Value.int p.1 p.2).foldlM (if mx then Builtin.max2 else Builtin.min2) (.int k a)).run P w=.ok (.int k (GZ mx a l)) w
 | [],a,_=>rfl
 |p::l,a,h=>by
  simp only[Ajv,a1,decide_eq_true_eq]at h;have b:=Amz (P:=P) (w:=w) mx l (if mx then max a p.2 else min a p.2) h.2;simp only[b3,List.foldlM_cons,Sem.run_bind];cases mx with
  |true=>
   have c:(Builtin.max2 (.int k a) (.int p.1 p.2)).run P w=.ok (.int k (max a p.2)) w:=by
    have:(if p.2>a then p.2 else a)=max a p.2:=by split<;>omega
    simp_all[Builtin.max2]
   simp only[if_true,c,Result.andThen_ok]at b ⊢;exact b
  |false=>
   have c:(Builtin.min2 (.int k a) (.int p.1 p.2)).run P w=.ok (.int k (min a p.2)) w:=by
    have:(if p.2<a then p.2 else a)=min a p.2:=by split<;>omega
    simp_all[Builtin.min2]
   simp only[Bool.false_eq_true,if_false,c,Result.andThen_ok]at b ⊢;exact b
theorem Am0{k:IntKind}(mx:Bool):∀(l:List (IntKind×Int))(a:Int),Bn k a->(∀p∈l,Bn k p.2)->Bn k (GZ mx a l)
 | [],_,h,_=>h
 |p::l,a,h,b=>by refine Am0 mx l _ ?_ (λq c=>b q (ac _ c));grind
theorem Aci{k:IntKind}:∀{l:List (IntKind×Int)},Ajv k l=true->∀q∈l,q.1=k
 | [],_,q,a=>by cases a
 |p::l,h,q,a=>by
  simp only[Ajv,a1,decide_eq_true_eq]at h;rcases al.1 a with rfl|a
  .exact h.1
  .exact Aci h.2 q a
def Aro(c:Cf Y):List Operand->List (IntKind×Int)->Bool
 | [],[]=>true
 |x::l,p::m=>(match isK x with |true=>decide (p.1.min<=p.2/\p.2<=p.1.max) |false=>(match En c x with |some (.dat (.int _) _) |some (.nat _)=>true |_=>false))&&Aro c l m
 |_,_=>false
theorem Agn{g0 g:B4}{T AH A:Bd}{c:Cf Y}{f:Fr}(h:RG g0 T c f g AH A):∀{l:List Operand}{m:List (IntKind×Int)},Tv c l=some m->Aro c l m=true->∀p∈m,Bn p.1 p.2
 | [],m,b,_=>by cases b;simp
 |x::l,m,b,i=>by
  unfold Tv at b;split at b
  .rename_i p v d s;cases b;unfold Aro at i;simp only[a1]at i;intro q k;rcases al.1 k with rfl|k
   .have e:=i.1;split at e
    .grind[Bn]
    .cases n:En c x with
     |none=>grind
     |some a=>
      rw[n]at d e;have o:=h.ev n;split at e
      .rename_i j;cases j;cases d;exact(AT.1 o).2
      .rename_i j;cases j;cases d;have u:IntKind.i64.min=-9223372036854775808:=by decide
       have t:IntKind.i64.max=9223372036854775807:=by decide
       have:=o.2;grind[Bn]
      grind
   .exact Agn h s i.2 q k
  grind
def Auo(c:Cf Y):List Operand->Prop->Prop
 | [],p=>p
 |x::l,p=>match En c x with
  |some a=>Kv x a (Auo c l p)
  |none=>False
def Arf(c:Cf Y)(mx:Bool)(aE:Array Operand)(k:AV Y->Prop):Prop:=match Tv c aE.toList with
 |some (p::l)=>EZ (Ajv p.1 l&&Aro c aE.toList (p::l)) (k (.dat (.int p.1) (GZ mx p.2 l)))
 |_=>False
variable {k:AV Y->Prop}
theorem Agj(h:RG g0 T c f g AH A){mx:Bool}{aE:Array Operand}{at_:Array TypeId}(b:Arf c mx aE k):∃v a,k a/\AR g a v/\∀w',KR Y.P f (.call ⟨.builtin (if mx then .max else .min),aE,at_⟩) ty v w':=by
 unfold Arf at b;split at b
 .rename_i p l j;obtain⟨i,b⟩:=AG b;simp only[a1]at i;have d:=Agn h j i.2;have s:=Aci i.1;refine⟨.int p.1 (GZ mx p.2 l),_,b,AT.2 ⟨rfl,Am0 mx l _ (d p ab) (λq n=>by grind)⟩,λw'=>QO λo r u t=>?_⟩;have m:aE.toList.map (ev f)=Value.int p.1 p.2::l.map λp=>Value.int p.1 p.2:=by rw[Yg h j];rfl
  have e:=Amz (P:=Y.P) (w:=w') mx l p.2 i.1;cases mx with
  |true=>simp_all[execOp,resolve,invoke,builtin,Builtin.max_]
  |false=>simp_all[execOp,resolve,invoke,builtin,Builtin.min_]
 grind
variable {x:Operand} {t:TypeId}
theorem Yp{aE:Array TypeId}{e:TypeId}{a:Option Addr}{n cap:Nat}(g:ev f x=.slice a n cap)(d:P.underlying t=some (.slice e))(b:aE[0]?=some t):KR P f (.call ⟨.builtin .len,#[x],aE⟩) ty (.int .i64 n) w:=λh c i j=>by simp [execOp,resolve,invoke,builtin,Builtin.len_,b,g,run_underlying d,goInt]
theorem Akl{aE:Array TypeId}{s:ByteArray}(d:ev f x=.string s)(c:P.underlying t=some .string)(a:aE[0]?=some t):KR P f (.call ⟨.builtin .len,#[x],aE⟩) ty (.int .i64 s.size) w:=λe b g h=>by simp [execOp,resolve,invoke,builtin,Builtin.len_,a,d,run_underlying c,goInt]
def dSl:TypeDesc->Bool
 | .slice _=>true
 |_=>false
theorem L3(h:FX P t dSl=true):∃e,P.underlying t=some (.slice e):=by
 unfold FX at h;split at h
 .rename_i d hd;cases d<;>simp [dSl]at h;grind
 grind
def Awx(c:Cf Y)(aE:Array Operand)(at_:Array TypeId)(k:AV Y->Prop):Prop:=match aE.toList,at_.toList with
 | [x],t::_=>match En c x with
  |some (.dat (.sl _) xs)=>EZ (FX Y.P t dSl) (xs.length<=9223372036854775807->k (.nat xs.length))
  |some (.own i)=>match Ie c.sg i with
   |some (.sl _ xs)=>EZ (FX Y.P t dSl) (xs.length<=9223372036854775807->k (.nat xs.length))
   |_=>False
  |some (.val (.slice none 0 0))=>EZ (FX Y.P t dSl) (k (.nat 0))
  |some a=>match asS a with
   |some s=>EZ (FX Y.P t Asb) (s.size<=9223372036854775807->k (.nat s.size))
   |none=>False
  |none=>False
 |_,_=>False
theorem RG.sl(h:RG g0 T c f g AH A){i:Nat}{t:Ty}{xs:List (den Y.D t)}(hi:Ie c.sg i=some (.sl t xs)):∃A1,Nz Y t g.I g.w A1 (g.μ i) xs/\∃A2,A.Perm (A1++A2)/\Fg g (FP c.sg i) A2/\i<g.n:=by obtain⟨A1,A2,a,e,b,d⟩:=h.sg.take hi;exact⟨A1,b,A2,a,d,e⟩
theorem Arm(h:RG g0 T c f g AH A){aE:Array Operand}{at_:Array TypeId}(b:Awx c aE at_ k):∃v a,k a/\AR g a v/\∀w',KR Y.P f (.call ⟨.builtin .len,aE,at_⟩) ty v w':=by
 unfold Awx at b;split at b
 .rename_i x t B r z;obtain⟨aE⟩:=aE;simp only at r;subst r;have j:at_[0]?=some t:=by rw[<-a9,z];rfl
  split at b
  .rename_i e q l;obtain⟨d,b⟩:=AG b;obtain⟨u,d⟩:=L3 d;obtain⟨a,o,m,C,w,_⟩:=Rq.1 (h.ev l);have n:q.length<=9223372036854775807:=by grind[NA]
   exact⟨_,_,b n,⟨rfl,n⟩,λw'=>Yp m d j⟩
  .rename_i i l;split at b
   .rename_i e q p;obtain⟨d,b⟩:=AG b;obtain⟨u,d⟩:=L3 d;obtain⟨D,y,_⟩:=h.sl p;obtain⟨a,o,m,n⟩:=@Bx.len _ (RT Y.toUS e) _ _ _ _ _ y;exact⟨_,_,b n,⟨rfl,n⟩,λw'=>Yp ((h.ev l).2.trans m) d j⟩
   grind
  .rename_i l;obtain⟨d,b⟩:=AG b;obtain⟨u,d⟩:=L3 d;exact⟨_,_,b,⟨rfl,by omega⟩,λw'=>Yp (h.ev l) d j⟩
  .rename_i a _ _ _ l;split at b
   .rename_i s p;obtain⟨d,b⟩:=AG b;have m:=LX.1 (Dh p (h.ev l));exact⟨_,_,b m.2,⟨rfl,m.2⟩,λw'=>Akl m.1 (ZR d) j⟩
   grind
  grind
 grind
def aiI(P:Program)(t:TypeId):Option (Nat×Nat):=match P.underlying t with
 |some (.array n e)=>(P.info? e).bind λi=>if n<=1 then none else some (n,i.size)
 |_=>none
theorem Ayp{n s:Nat}(h:aiI P t=some (n,s)):∃e,P.underlying t=some (.array n e)/\(∀w,(sizeOf e).run P w=.ok s w)/\¬n<=1:=by
 unfold aiI at h;split at h
 .rename_i n' e hu;cases hi:P.info? e with
  |none=>grind
  |some i=>
   rw[hi]at h;simp only[ae]at h;split at h;all_goals simp_all[sizeOf,typeInfo]
 grind
def Axh(c:Cf Y)(t:TypeId)(x y:Operand)(k:AV Y->Prop):Prop:=match aiI Y.P t with
 |some (n,s)=>match En c x,y with
  |some (.adr i o),.const (.int _ (.ofNat j))=>EZ (bt j n) (k (.adr i (o+j*s)))
  |some (.el i T 0 0),y=>match En c y with
   |some b=>EZ (an s (sz Y.toUS T)) (Kv y b (ixA b n λj _=>k (.el i T j 0)))
   |none=>False
  |_,_=>False
 |none=>match slI Y.P t,En c y with
  |some (e,nb),some b=>match En c x with
   |some (.dat (.sl T) xs)=>EZ (Wn Y.P t e (sz Y.toUS T) nb) (Kv y b (ixA b xs.length λj h=>k (.del T xs[j] 0)))
   |some (.own i)=>match Ie c.sg i with
    |some (.sl T xs)=>EZ (Wn Y.P t e (sz Y.toUS T) nb) (Kv y b (ixA b xs.length λj _=>k (.el i T j 0)))
    |_=>False
   |_=>False
  |_,_=>False
theorem Aru(h:RG g0 T c f g AH A){y:Operand}(d:Axh c t x y k):∃v a,k a/\AR g a v/\∀w',KR Y.P f (.indexAddr t x y) ty v w':=by
 unfold Axh at d;split at d
 .rename_i n s R;obtain⟨e,W,I,hn⟩:=Ayp R;split at d
  .rename_i i o F j B;obtain⟨r,d⟩:=AG d;have r:j<n:=bc r;obtain⟨p,b,G,u⟩:=h.ev B;refine⟨_,_,d,⟨p,b,G,rfl⟩,λw'=>QO λC D P N=>?_⟩;have q:ev f (.const (.int F (.ofNat j)))=.int F (j:Int):=rfl;generalize Operand.const (.int F (.ofNat j))=y at q ⊢;have L:(j:Int)<n:=br.2 r;simp [execOp,Instr.indexAt,u,q,asIntOf,run_underlying W,I,Instr.sureAddr,DF];omega
  .rename_i _ i T B;split at d
   .rename_i b V;have z:=h.ev V;obtain⟨w,d⟩:=AG d;have w:s=sz Y.toUS T:=a7 w;obtain⟨F,j,r,l,d⟩:=Vw z (EM z d);obtain⟨p,b,m,Q,E,G,u⟩:=h.ev B;simp only[Nat.zero_mul,ao]at u;refine⟨_,_,d,⟨p,b,m,Q,E,G,rfl⟩,λw'=>QO λC D P N=>?_⟩;have L:(j:Int)<n:=br.2 l;subst w;simp [execOp,Instr.indexAt,u,r,asIntOf,run_underlying W,I,Instr.sureAddr,DF];omega
   grind
  grind
 split at d
 .rename_i e nb b M V;have z:=h.ev V;split at d
  .rename_i T S B;obtain⟨O,d⟩:=AG d;obtain⟨F,j,r,l,d⟩:=Vw z (EM z d);have w:=EE O;obtain⟨a,E,u,hc,hm,K⟩:=Rq.1 (h.ev B);rcases K with K|⟨b,m,rfl,G,K⟩
   .grind
   obtain⟨v,U,q⟩:=K j l;refine⟨_,_,d,⟨b,m+j*sz Y.toUS T,v,U,q,G,rfl⟩,λw'=>QO λC D P N=>?_⟩;have M:(0:Int)<=j/\(j:Int)<S.length:=by omega
   simp [execOp,Instr.indexAt,u,r,asIntOf,run_underlying w.under,M,w.size,DF];omega
  .rename_i i B;split at d
   .rename_i T S w;obtain⟨O,d⟩:=AG d;obtain⟨F,j,r,l,d⟩:=Vw z (EM z d);obtain⟨A1,ho,A2,hp,X,p⟩:=h.sl w;have J:=EE O;rcases @Bx.ex _ (RT Y.toUS T) _ _ _ _ _ ho with ⟨_,L,_⟩|⟨b,Z,E,e0,m,rfl,H,L,h4,h5,h6⟩
    .grind
    refine⟨_,_,d,⟨p,b,m,_,_,H,rfl⟩,λw'=>QO λC D P N=>?_⟩;have M:(0:Int)<=j/\(j:Int)<S.length:=by omega
    have u:=(h.ev B).2.trans H;simp [execOp,Instr.indexAt,u,r,asIntOf,run_underlying J.under,M,J.size,DF];omega
   grind
  grind
 grind
end
end
section
section
variable {Y:Sys}
def WU:BinOp->Nat->Nat->(p:Prop)×(Decidable p)
 | .eql,a,b=>⟨a=b,inferInstance⟩
 | .neq,a,b=>⟨¬a=b,inferInstance⟩
 | .lss,a,b=>⟨a<b,inferInstance⟩
 | .leq,a,b=>⟨a<=b,inferInstance⟩
 | .gtr,a,b=>⟨b<a,inferInstance⟩
 |_,a,b=>⟨b<=a,inferInstance⟩
theorem Axy{p q:Prop}(b:Decidable p)(a:Decidable q)(h:p↔q):@decide p b=@decide q a:=by grind
theorem Asj(c:BinOp)(a b:Nat):@decide (WU c a b).1 (WU c a b).2=@decide (WV c a b).1 (WV c a b).2:=
 Axy _ _ (by cases c<;>simp  [WU,WV]<;>omega)
def Awe(op:BinOp)(a b:AV Y):Option ((AV Y->Prop)->Prop):=match a,b with
 | .nat i,.nat j=>match Oq op with
  |true=>some λk=>k (.prp (WU op i j).1 (WU op i j).2)
  |false=>none
 | .nat i,.val (.int .i64 (.ofNat j))=>match op with
  | .add=>some λk=>(i+j<=9223372036854775807/\k (.nat (i+j)))
  |op=>match Oq op with
   |true=>some λk=>k (.prp (WU op i j).1 (WU op i j).2)
   |false=>none
 | .val (.int .i64 (.ofNat i)),.nat j=>match Oq op with
  |true=>some λk=>k (.prp (WU op i j).1 (WU op i j).2)
  |false=>none
 |_,_=>none
variable {g:B4} {P:Program} {f:Fr} {op:BinOp} {x y:Operand} {t u ty:TypeId} {a:AV Y} {k:AV Y->Prop}
theorem Aq8{b:AV Y}{z:(AV Y->Prop)->Prop}(h:Awe op a b=some z)(l:z k)(n:AR g a (ev f x))(m:AR g b (ev f y)):∃v c,k c/\AR g c v/\∀w',KR P f (.binOp op t x y u) ty v w':=by
 have d:∀{i j:Nat},Oq op=true->ev f x=.int .i64 i->ev f y=.int .i64 j->k (.prp _ (WU op i j).2)->∃v c,k c/\AR g c v/\∀w',KR P f (.binOp op t x y u) ty v w':=λ{i j}e p q o=>
  ⟨_,_,o,rfl,λw'=>by grind[Asj,Ahg]⟩
 unfold Awe at h;split at h
 .split at h
  .rename_i e;cases h;exact d e n.1 m.1 l
  grind
 .split at h
  .cases h;rename_i i j _;have p:=n.1;have q:ev f y=.int _ j:=m;refine⟨_,_,l.2,⟨rfl,l.1⟩,λw'=>A9 λr s w o=>Agc p q ?_⟩;rw[Uj (by omega) (by omega)];exact o
  .split at h
   .rename_i e;cases h;exact d e n.1 m l
   grind
 .split at h
  .rename_i e;cases h;exact d e n m.1 l
  grind
 grind
theorem Ady{α:Type}[AP α]{I:Cc}{w:World}{A:Bd}{v:Value}{xs:List α}(o:Bx I w A v xs)(d:¬xs=[]):∃a l cp,v=.slice a l cp/\a.isNone=false:=by
 rcases o.ex with ⟨_,h,_⟩|⟨b,c,e,g,f,_,i,_⟩
 all_goals grind
def Awd(c:Cf Y)(op:BinOp)(t:TypeId)(a b:AV Y):Option (Prop×Bool):=match a,b with
 | .own i,.val (.slice none 0 0)=>match Ie c.sg i,FX Y.P t dSl with
  |some (.sl _ xs),true=>match op with
   | .eql=>some (¬xs=[],false)
   | .neq=>some (¬xs=[],true)
   |_=>none
  |_,_=>none
 | .val (.slice none 0 0),.val (.slice none 0 0)=>match FX Y.P t dSl with
  |true=>match op with
   | .eql=>some (True,true)
   | .neq=>some (True,false)
   |_=>none
  |false=>none
 |_,_=>none
theorem OX{a:Option Addr}{l cp:Nat}{r:Bool}(b:∃e,P.underlying t=some (.slice e))(d:ev f x=.slice a l cp)(h:ev f y=.slice none 0 0)(i:(op=.eql/\r=a.isNone)∨(op=.neq/\r=!a.isNone))(w:World):KR P f (.binOp op t x y u) ty (.bool r) w:=by
 intro k j o m;obtain⟨e,b⟩:=b;have g:∀op:BinOp,(eqGuard op t x y (.slice a l cp) (.slice none 0 0)).run P w=.ok () w:=λop=>by simp only[eqGuard];cases op<;>simp
 have c:∀n,(Op.equalIn (n+1) t (.slice a l cp) (.slice none 0 0)).run P w=.ok a.isNone w:=λn=>by cases a<;>simp [Op.equalIn,run_underlying b]
 rcases i with ⟨rfl,rfl⟩|⟨rfl,rfl⟩
 .simp only[execOp,d,h,Sem.run_bind,g,Result.andThen_ok,binOp,Op.equal,Op.maxDepth,c 9999,Sem.run_pure]
 .simp only[execOp,d,h,Sem.run_bind,g,Result.andThen_ok,binOp,Op.equal,Op.maxDepth,c 9999,Sem.run_pure]
variable {g0:B4} {T AH A:Bd} {c:Cf Y}
theorem Aq5(h:RG g0 T c f g AH A){b:AV Y}{p:Prop}{r:Bool}(d:Awd c op t a b=some (p,r))(o:p)(m:AR g a (ev f x))(q:AR g b (ev f y))(w:World):KR Y.P f (.binOp op t x y u) ty (.bool r) w:=by
 unfold Awd at d;split at d
 .have j:=q;split at d
  .rename_i D B v i;obtain⟨C,E,_,_,z,_⟩:=h.sg.take v;have k:¬B=[]->∃a l s,ev f x=.slice a l _/\a.isNone=false:=λn=>by rw[m.2];exact @Ady _ (RT _ _) _ _ _ _ _ z n
   split at d
   .cases d;obtain⟨a,l,s,e,m⟩:=k o;exact OX (L3 i) e j (.inl ⟨rfl,m.symm⟩) w
   .cases d;obtain⟨a,l,s,e,m⟩:=k o;exact OX (L3 i) e j (.inr ⟨rfl,by grind⟩) w
   grind
  grind
 .have e:=m;have j:=q;split at d
  .rename_i i;split at d
   .cases d;exact OX (L3 i) e j (.inl ⟨rfl,rfl⟩) w
   .cases d;exact OX (L3 i) e j (.inr ⟨rfl,rfl⟩) w
   grind
  grind
 grind
def Ayh(c:Cf Y)(op:BinOp)(t:TypeId)(x y:Operand)(k:AV Y->Prop):Prop:=match En c x,En c y with
 |some a,some b=>match Awd c op t a b with
  |some (p,r)=>p/\k (.val (.bool r))
  |none=>match Awe op a b with
   |some z=>z k
   |none=>match asInt a,asInt b with
    |some (ka,n),some (kb,m)=>match Oq op,A33 op with
     |true,_=>EZ (decide (ka=kb)) (k (.prp (WV op n m).1 (WV op n m).2))
     |_,true=>Kv x a (Kv y b ((op=.shr->Bn ka n)/\shI op ka n m λr=>k (.dat (.int ka) r)))
     |_,_=>EZ (decide (ka=kb)) (Kv x a (Kv y b (match A34 ka with
      |true=>arI op ka n m λr=>k (.dat (.int ka) r)
      |false=>arW op ka n m λr=>k (.dat (.int ka) r))))
    |_,_=>match a with
     | .dat (.u n) d=>eqU op t (.dat (.u n) d) b k
     |a=>eqX Y.P op t a b k
 |_,_=>False
theorem Asy(h:RG g0 T c f g AH A)(d:Ayh c op t x y k):∃v a,k a/\AR g a v/\∀w',KR Y.P f (.binOp op t x y u) ty v w':=by
 unfold Ayh at d;split at d
 .rename_i a b J I;have e:=h.ev J;have i:=h.ev I;split at d
  .rename_i p r D;exact⟨_,_,d.2,rfl,λw=>Aq5 h D d.1 e i w⟩
  split at d
  .rename_i z j;exact Aq8 j d e i
  split at d
  .rename_i F n E m D L;have s:=F9 D e;have B:=F9 L i;split at d
   .rename_i H;obtain⟨K,j⟩:=AG d;obtain rfl:F=E:=by grind
    exact⟨_,_,j,rfl,λw'=>Ahg H s B _⟩
   .obtain⟨G,d⟩:=EM i (EM e d);obtain⟨r,o,l,q⟩:=Au9 d s B G;exact⟨_,_,o,AT.2 ⟨rfl,l⟩,q⟩
   .obtain⟨K,j⟩:=AG d;obtain rfl:F=E:=by grind
    have C:=EM i (EM e j);split at C
    .obtain⟨r,o,l,q⟩:=Aym C s B;exact⟨_,_,o,AT.2 ⟨rfl,l⟩,q⟩
    .obtain⟨r,o,l,q⟩:=Ao3 C s B;exact⟨_,_,o,AT.2 ⟨rfl,l⟩,q⟩
  .split at d
   .exact Axr d e i
   .exact Axq d e i
 grind
def unX(c:Cf Y)(op:UnOp)(x:Operand)(k:AV Y->Prop):Prop:=match op,En c x with
 | .not,some a=>match asB a with
  |some (.kn b)=>k (.val (.bool (!b)))
  |some (.pr p d)=>k (.prp (¬p) (@instDecidableNot p d))
  |none=>False
 | .neg,some a=>match asInt a with
  |some (.i64,n)=>Kv x a (Bn .i64 (-n)/\k (.dat I6 (-n)))
  |some (kd,n)=>k (.dat (.int kd) (kd.wrap (0-n)))
  |none=>False
 |_,_=>False
theorem Aur(h:RG g0 T c f g AH A){op:UnOp}(e:unX c op x k):∃v a,k a/\AR g a v/\∀w',KR Y.P f (.unOp op t x) ty v w':=by
 unfold unX at e;split at e
 .rename_i a l;split at e
  .rename_i b m;exact⟨_,_,e,rfl,λw'=>A9 λj s r i=>Atp (Nl m (h.ev l)) i⟩
  .rename_i p d m;refine⟨_,_,e,rfl,λw'=>A9 λj s r i=>Atp (Nl m (h.ev l)) ?_⟩;have:(!(BV.pr p d).val)=@decide (¬p) _:=by show (!@decide p d)=_;simp
   rw[this];exact i
  grind
 .rename_i a l;split at e
  .rename_i n q;have o:=F9 q (h.ev l);obtain⟨u,e⟩:=EM (h.ev l) e;refine⟨_,_,e,AT.2 ⟨rfl,u⟩,λw'=>A9 λj s r i=>Atq o ?_⟩;rw[show 0-(IntKind.i64,n).2=-n by simp,EL u];exact i
  .rename_i w n _ q;have o:=F9 q (h.ev l);exact⟨_,_,e,AT.2 ⟨rfl,IJ _ _⟩,λw'=>A9 λj s r i=>Atq o i⟩
  grind
 grind
def kindOf(P:Program)(t:TypeId):Option IntKind:=match P.underlying t with
 |some (.int k)=>some k
 |_=>none
def Ax3(c:Cf Y)(s d:TypeId)(x:Operand)(k:AV Y->Prop):Prop:=match kindOf Y.P s,kindOf Y.P d,En c x with
 |some ks,some kd,some a=>match a with
  | .dat (.int k1) n=>EZ (decide (k1=ks)) (match decide (kd=k1) with
   |true=>k (.dat (.int k1) n)
   |false=>Bn k1 n->k (.dat (.int kd) (kd.wrap n)))
  | .nat j=>EZ (decide (ks=.i64)) (match decide (kd=.i64) with
   |true=>k (.nat j)
   |false=>k (.dat (.int kd) (kd.wrap j)))
  |a=>match asInt a with
   |some (_,n)=>k (.dat (.int kd) (kd.wrap n))
   |none=>False
 |_,_,_=>False
theorem XH{k:IntKind}(h:kindOf P t=some k):P.underlying t=some (.int k):=by grind[kindOf]
theorem Ase(h:RG g0 T c f g AH A){s d:TypeId}(e:Ax3 c s d x k):∃v a,k a/\AR g a v/\∀w',KR Y.P f (.convert s d x) ty v w':=by
 unfold Ax3 at e;split at e
 .rename_i C t a B y z;have m:=XH B;have l:=XH y;have j:=h.ev z;split at e
  .rename_i u n;obtain⟨b,e⟩:=AG e;have o:=AT.1 j;split at e
   .obtain rfl:t=u:=by grind
    refine⟨_,_,e,AT.2 ⟨rfl,o.2⟩,λw'=>A9 λi p q b=>Vh m l o.1 ?_⟩;rw[EL o.2];exact b
   .exact⟨_,_,e o.2,AT.2 ⟨rfl,IJ _ _⟩,λw'=>A9 λi p q b=>Vh m l o.1 b⟩
  .obtain⟨b,r⟩:=AG e;split at r
   .obtain rfl:t=.i64:=by grind
    refine⟨_,_,r,⟨rfl,j.2⟩,λw'=>A9 λi p q b=>Vh m l j.1 ?_⟩;rw[Uj (by omega) (by have:=j.2;omega)];exact b
   .exact⟨_,_,r,AT.2 ⟨rfl,IJ _ _⟩,λw'=>A9 λi p q b=>Vh m l j.1 b⟩
  .split at e
   .rename_i u n w;exact⟨_,_,e,AT.2 ⟨rfl,IJ _ _⟩,λw'=>A9 λi p q b=>Vh m l (F9 w j) b⟩
   grind
 grind
def Aya(c:Cf Y)(t:TypeId)(x y:Operand)(k:AV Y->Prop):Prop:=match (En c x).bind asS,En c y with
 |some s,some b=>EZ (FX Y.P t Asb) (Kv y b (ixA b s.size λj h=>k (.dat (.int .u8) (s[j].toNat:Int))))
 |_,_=>False
theorem Aso(h:RG g0 T c f g AH A)(d:Aya c t x y k):∃v a,k a/\AR g a v/\∀w',KR Y.P f (.index t x y) ty v w':=by
 unfold Aya at d;split at d
 .rename_i s b e n;obtain⟨u,d⟩:=AG d;have m:=h.ev n;obtain⟨z,j,r,i,d⟩:=Vw m (EM m d);cases l:En c x with
  |none=>grind
  |some a=>
   rw[l]at e;have p:=LX.1 (Dh (t:=.str) e (h.ev l));exact⟨_,_,d,AT.2 ⟨rfl,Axd _⟩,λw'=>A9 λo w B q=>Amm (ZR u) i p.1 r rfl q⟩
 grind
def Axz(P:Program)(kd:IntKind)(n:Nat):TypeDesc->Bool
 | .array m e=>an m n&&FX P e (Aog kd)&&(match P.info? e with
  |some i=>an i.size 1
  |none=>false)
 |_=>false
def lfI(k:IntKind):List (Lf Y.D)->Option (List Int)
 | []=>some []
 |⟨.int k',x⟩::l=>match Ty.dec (.int k) (.int k'),lfI k l with
  | .isTrue _,some r=>some (x::r)
  |_,_=>none
 |_::_=>none
theorem Am8{g:B4}{k:IntKind}:∀{l:List (Lf Y.D)}{r:List Int}{cs:List Value},lfI k l=some r->F2 (λc(l:Lf Y.D)=>rp Y.toUS l.t g.I g.w c l.x) cs l->cs=r.map (.int k)/\∀x∈r,Bn k x
 | [],r,_,h,.nil=>by cases h;simp
 |⟨t,x⟩::l,r,c::cs,h,.cons i n=>by
  cases t with
  |int p=>
   simp only[lfI]at h;split at h
   .rename_i e q _ m;cases e;cases h;obtain⟨o,f⟩:=Am8 m n;grind[AT]
   grind
  |_=>simp [lfI]at h
def Ayk(c:Cf Y)(t:TypeId)(y:Operand)(n:Nat)(d:Y.D n)(k:AV Y->Prop):Prop:=match lfI .i64 (Y.flat n d),En c y with
 |some r,some b=>EZ (FX Y.P t (Axz Y.P .i64 r.length)) (Kv y b (ixA b r.length λj h=>k (.dat I6 r[j])))
 |_,_=>False
theorem As0(h:RG g0 T c f g AH A){n:Nat}{d:Y.D n}(Q:En c x=some (.dat (.u n) d))(o:Ayk c t y n d k):∃v a,k a/\AR g a v/\∀w',KR Y.P f (.index t x y) ty v w':=by
 unfold Ayk at o;split at o
 .rename_i r b F E;obtain⟨p,o⟩:=AG o;have D:=h.ev E;obtain⟨V,j,J,l,o⟩:=Vw D (EM D o);obtain⟨O,w,N⟩:=GM.1 (h.ev Q);obtain⟨C,K⟩:=Am8 F N;refine⟨_,_,o,AT.2 ⟨rfl,K _ (List.getElem_mem l)⟩,λw' I H S U=>?_⟩;unfold FX at p;split at p
  .rename_i L z;cases L with
   |array m e=>
    simp only[Axz,a1,bj]at p;obtain⟨⟨G,P⟩,s⟩:=p;subst G;have R:=U9 P;have q:(sizeOf e).run Y.P w'=.ok 1 w':=by grind[run_sizeOf,Program.cellsOf,a7]
    have M:(⟨O⟩:Array Value)[j]?=some (.int .i64 r[j]):=by grind
    simp only[execOp,Instr.index,w,J,asIntOf,Sem.run_bind,Sem.run_pure,Result.andThen_ok,run_underlying z];simp_all[Int.natCast_nonneg,part,isAgg,run_underlying]
   |_=>simp [Axz]at p
  grind
 grind
def Axp(c:Cf Y)(t:TypeId)(x:Operand)(i:Nat)(k:AV Y->Prop):Prop:=match Azw Y.P t i,En c x with
 |some off,some (.dat (.u n) d)=>EZ (fvB Y.P t i off) (match (Y.flat n d)[off]? with
  |some l=>k (.dat l.t l.x)
  |none=>False)
 |_,_=>False
theorem Ar3(h:RG g0 T c f g AH A){i:Nat}(b:Axp c t x i k):∃v a,k a/\AR g a v/\∀w',KR Y.P f (.field t x i) ty v w':=by
 unfold Axp at b;split at b
 .rename_i q n d z e;obtain⟨m,b⟩:=AG b;obtain⟨cs,j,w⟩:=GM.1 (h.ev e);split at b
  .rename_i l u;obtain⟨v,y,o⟩:=w.get u;exact⟨v,_,b,o,λw'=>A9 λr B C s=>Amo (cs:=⟨cs⟩) m j (by grind) s⟩
  grind
 grind
def Ab7:TypeDesc->Bool
 | .struct _=>true
 |_=>false
theorem Ah4(h:FX P t Ab7=true):∃e,P.underlying t=some (.struct e):=by
 unfold FX at h;split at h
 .rename_i d hd;cases d<;>simp [Ab7]at h;grind
 grind
def onA(a:Option (AV Y))(k:AV Y->Prop):Prop:=match a with
 |some a=>k a
 |none=>False
theorem YZ{a:Option (AV Y)}(h:onA a k):∃b,a=some b/\k b:=by unfold onA at h;grind
variable {α β:Type}
theorem Apj{R Q:α->β->Prop}{l:List α}{m:List β}(h:F2 R l m)(c:∀b∈m,∀a,R a b->Q a b):F2 Q l m:=by
 induction h with
 |nil=>exact .nil
 |cons h _ e=>exact .cons (c _ ab _ h) (e λb d=>c b (ac _ d))
theorem Aph{γ:Type}{R:γ->β->Prop}{q:α->γ}{l:List α}{m:List β}(h:F2 (λa b=>R (q a) b) l m):F2 R (l.map q) m:=by
 induction h with
 |nil=>exact .nil
 |cons h _ c=>exact .cons h c
theorem Ahu{R:α->β->Prop}{l:List α}{m:List β}(h:F2 R l m):F2 (λb a=>R a b) m l:=by
 induction h with
 |nil=>exact .nil
 |cons h _ c=>exact .cons h c
theorem Abk{l:List (Lf Y.D)}{cs:List Value}(h:F2 (λc(l:Lf Y.D)=>rp Y.toUS l.t g.I g.w c l.x) cs l)(a:(l.all λx=>x.t.leaf)=true):∀c∈cs,c.oneCell'=true:=
 Wh h λx b=>by grind
def Ap7(vs:List Value):List (AV Y):=vs.map AV.val
def Ai3(c:Cf Y):AV Y->Bool
 | .dat t _=>t.leaf
 | .nat _ | .prp _ _ | .adr _ _ | .el _ _ _ _ | .del _ _ _ | .ptr _ _ | .hp _ _ _ | .mob _ | .ifc _ _ _ | .fbx _ _ _=>true
 | .own i=>match Ie c.sg i with
  |some (.sl _ _) |some (.mp _ _ _) |some (.clo _ _ _)=>true
  |_=>false
 | .val v=>v.oneCell'
 | .sub _ _ _=>true
 | .fn _ _ _=>false
variable {v:Value}
theorem Af6(h:RG g0 T c f g AH A)(l:Ai3 c a=true)(d:AR g a v):v.oneCell'=true:=by
 unfold Ai3 at l;split at l
 .exact(JF l d).2
 .rw[d.1];rfl
 .rw[show v=_ from d];rfl
 .obtain⟨_,b,_,j⟩:=d;rw[j];rfl
 .obtain⟨_,b,_,_,_,_,j⟩:=d;rw[j];rfl
 .obtain⟨b,_,_,_,_,_,j⟩:=d;rw[j];rfl
 .rw[d.2.2];rfl
 .rw[d.2.2];rfl
 .rw[show v=_ from d];rfl
 .obtain⟨u,j,_⟩:=d;rw[j];rfl
 .obtain⟨b,x,u,_,_,_,j⟩:=d;rw[j];rfl
 .rename_i i;have r:=d.2;split at l
  .rename_i t G n;obtain⟨w,s,_,_,o,_⟩:=h.sg.take n;obtain⟨a,q,p,_⟩:=@Bx.len _ (RT Y.toUS t) _ _ _ _ _ o;rw[r,p];rfl
  .rename_i k e m n;obtain⟨w,s,_,_,o,_⟩:=h.sg.take n;obtain⟨b,z,H,_,p,_⟩:=@Cz.ex _ _ (RT Y.toUS k) (RT Y.toUS e) _ _ _ _ _ o;rw[r,p];rfl
  .rename_i F B C n;obtain⟨w,s,_,_,⟨_,D,E,p,_⟩,_⟩:=h.sg.take n;rw[r,p];rfl
  grind
 .rw[show v=_ from d];exact l
 .obtain⟨_,j,a,y,q,o,_⟩:=d;rw[j,o];rfl
 grind
theorem Ai2(h:v.oneCell'=true):v.cells=#[v]:=by cases v<;>first|rfl|grind[Value.oneCell']
theorem Uk{g:B4}:∀{vs:List Value},vs.all (·.oneCell')=true->F2 (λa v=>AR g a v/\v.oneCell'=true) (Ap7 (Y:=Y) vs) vs
 | [],_=>.nil
 |v::vs,h=>by simp only[bm,a1]at h;exact .cons ⟨rfl,h.1⟩ (Uk h.2)
def Z6(c:Cf Y)(a:AV Y):Option (List (AV Y)):=match a with
 | .dat (.u m) d=>some ((Y.flat m d).map λx=>.dat x.t x.x)
 | .val (.agg cs)=>match cs.toList.all (·.oneCell') with
  |true=>some (Ap7 cs.toList)
  |false=>none
 | .own j=>match Ie c.sg j with
  |some (.ag cs)=>some cs
  |_=>match Ai3 c a with
   |true=>some [a]
   |false=>none
 |a=>match Ai3 c a with
  |true=>some [a]
  |false=>none
theorem Yd(h:RG g0 T c f g AH A){cs:List (AV Y)}(e:Z6 c a=some cs)(i:AR g a v):F2 (λa v=>AR g a v/\v.oneCell'=true) cs v.cells.toList:=by
 have l:∀{a:AV Y},AR g a v->Ai3 c a=true->F2 (λa v=>AR g a v/\v.oneCell'=true) [a] v.cells.toList:=λi k=>by have b:=Af6 h k i;rw[Ai2 b];exact .cons ⟨i,b⟩ .nil
 unfold Z6 at e;split at e
 .rename_i m d;cases e;obtain⟨p,rfl,n⟩:=GM.1 i;have b:=Wh n Py;exact Aph (q:=λx:Lf Y.D=>AV.dat x.t x.x) (Apj (Ahu n) λv s a r=>⟨r,b v s⟩)
 .rename_i p;split at e
  .rename_i k;cases e;obtain rfl:v=_:=i;exact Uk k
  grind
 .rename_i j;split at e
  .rename_i u w;cases e;obtain⟨B,y,_,_,⟨_,z,t,o⟩,_⟩:=h.sg.take w;rw[i.2,t];exact o
  grind
 grind
def Ag2(c:Cf Y)(place:Nat->Option (Nat×Nat)):List (AV Y)->List (Nat×AV Y)->Option (List (AV Y))
 |ls,[]=>some ls
 |ls,(i,a)::rest=>match place i with
  |none=>none
  |some (off,size)=>match Z6 c a with
   |some l=>match an l.length size&&bk (off+size) ls.length with
    |true=>Ag2 c place (ls.take off++(l++ls.drop (off+size))) rest
    |false=>none
   |none=>none
theorem Abz{g0 g:B4}{T AH A:Bd}{c:Cf Y}{f:Fr}(r:RG g0 T c f g AH A){place:Nat->Option (Nat×Nat)}:∀{ps:List (Nat×AV Y)}{qs:List (Nat×Value)}{cells:Array Value}{ls l':List (AV Y)},Ag2 c place ls ps=some l'->F2 (λa v=>AR g a v/\v.oneCell'=true) ls cells.toList->F2 (λ(p:Nat×AV Y)(q:Nat×Value)=>p.1=q.1/\AR g p.2 q.2) ps qs->∃cells',Instr.fill place cells qs=some cells'/\F2 (λa v=>AR g a v/\v.oneCell'=true) l' cells'.toList
 | [],_,cells,ls,l',h,j,.nil=>by cases h;exact⟨cells,rfl,j⟩
 |(i,a)::t,(D,v)::qs,cells,ls,l',h,j,.cons ⟨s,o⟩ y=>by
  simp only at s o;subst s;unfold Ag2 at h;unfold Instr.fill;split at h
  .cases h
  .rename_i b d u;split at h
   .rename_i l w;split at h
    .rename_i C;simp only[a1,bj,aw]at C;have n:=Yd r w o;have m:v.cells.size=d:=by have:=n.len;grind
     have z:cells.size=ls.length:=by have:=j.len;grind
     have B:¬(v.cells.size≠d∨b+v.cells.size>cells.size):=by omega
     simp only[u,ba,decide_eq_true_eq,B,if_false];refine Abz r h ?_ y;have:=V6 v.cells.toList 0 b cells (by grind);have e:(v.cells.zipIdx.foldl (λk(x:Value×Nat)=>k.setIfInBounds (b+x.2) x.1) cells)=(v.cells.toList.zipIdx.foldl (λk(x:Value×Nat)=>k.setIfInBounds (b+x.2) x.1) cells):=by rw[<-Array.foldl_toList,Array.toList_zipIdx]
     show F2 _ _ (v.cells.zipIdx.foldl (λk(x:Value×Nat)=>k.setIfInBounds (b+x.2) x.1) cells).toList;rw[e,this];simp only[ao,bh,m];exact(j.take b).app (n.app (j.drop _))
    grind
   grind
def Ayf(c:Cf Y)(t:TypeId)(ps:Array (Nat×Operand))(K:AV Y->Cf Y->Prop):Prop:=match plc Y.P t,evP c ps.toList with
 |some (p,.agg z),some qs=>EZ (z.toList.all (·.oneCell')) (match Ag2 c p (Ap7 z.toList) qs with
  |some cs=>K (.own c.nx) {c with sg:=(c.nx,.ag cs)::c.sg,nx:=c.nx+1}
  |none=>False)
 |_,_=>False
theorem Asx(h:RG g0 T c f g AH A){ps:Array (Nat×Operand)}{K:AV Y->Cf Y->Prop}(d:Ayf c t ps K):∃v a c' g',K a c'/\g'.w=g.w/\Le g g'/\RG g0 T c' f g' AH A/\AR g' a v/\∀w',Sx g w'->KR Y.P f (.build t ps) ty v w':=by
 unfold Ayf at d;split at d
 .rename_i p z w s l;obtain⟨n,d⟩:=AG d;split at d
  .rename_i C m;obtain⟨cells,k,j⟩:=Abz h (cells:=z) m (Uk n) (Aek h l);have e:Le g (g.new g.w (.agg cells)):=Le.new (Ext.refl _ _);refine⟨.agg cells,_,_,g.new g.w (.agg cells),d,rfl,e,?_,?_,λw' _ q o y B=>?_⟩
   .exact h.new (A1:=[]) (Ext.refl _ _) ⟨rfl,cells.toList,g.BC _ _,j.mono λ_ _ r=>⟨r.1.mono e,r.2⟩⟩ (by simpa using h.st)
   .rw[<-h.n];exact⟨a4 _,(g.BC _ _).symm⟩
   .have u:Y.P.built t (ps.map λ(x:Nat×Operand)=>match x with|(i,x)=>(i,ev f x)).toList=some cells:=by rw[Xy s,bl];exact k
    simp_all[execOp,run_build]
  grind
 grind
theorem Anc{aE rs:List Ty}{F:FT Y aE rs}(w:OZ Y.P t false 1=true)(h:FbR Y aE rs F g.I g.w (ev f x)):∃v,AR g (.fn aE rs F) v/\∀w',Sx g w'->KR Y.P f (.load t x) ty v w':=by
 obtain⟨b,c,u,i,y,o,l⟩:=h;have e:u.cells=#[u]:=by obtain⟨⟨q,d,r,rfl⟩,_⟩:=i;rfl
 refine⟨u,i,λw' s p n z A=>?_⟩;have k:Di w' ⟨b,c,none⟩ u:=⟨rfl,λj m=>by rw[<-y.2 j m];exact cell?_of_heap (a:=⟨b,c+j,none⟩) (s.BD b o)⟩
 simp [execOp,Instr.loadAt,l,Instr.sureAddr,Nr (agg:=false) w k (by grind) e]
def vop(c:Cf Y)(o:Op)(K:AV Y->Cf Y->Prop):Prop:=let k:AV Y->Prop:=λa=>K a c;match o with
 | .move x | .assign x=>match En c x with
  |some a=>k a
  |none=>False
 | .pick z x y=>match (En c z).bind asB with
  |some (.kn true)=>onA (En c x) k
  |some (.kn false)=>onA (En c y) k
  |some (.pr p _)=>(p->onA (En (kno c z true) x) λa=>K a (kno c z true))/\(¬p->onA (En (kno c z false) y) λa=>K a (kno c z false))
  |none=>False
 | .nilCheck x=>match En c x with
  |some a=>adA c 0 none K a
  |none=>False
 | .fieldAddr t x i=>match Azw Y.P t i,En c x with
  |some off,some a=>EZ (flB Y.P t i off) (adA c off (Y.ok t) K a)
  |_,_=>False
 | .indexAddr t x y=>Axh c t x y k
 | .load t x=>match En c x with
  |some (.del T d o)=>ldD t T d o k
  |some (.fbx aE rs F)=>EZ (OZ Y.P t false 1) (k (.fn aE rs F))
  |_=>False
 | .binOp op t x y _=>Ayh c op t x y k
 | .unOp op _ x=>unX c op x k
 | .convert s d x=>Ax3 c s d x k
 | .extract x i=>match En c x with
  |some (.own j)=>match Ie c.sg j with
   |some (.tp l)=>match l[i]? with
    |some a=>k a
    |none=>False
   |_=>False
  |_=>False
 | .index t x y=>match En c x with
  |some (.dat (.u n) d)=>Ayk c t y n d k
  |_=>Aya c t x y k
 | .field t x i=>Axp c t x i k
 | .build t ps=>match (Y.ty t).isSome with
  |true=>Asw c t ps k
  |false=>Ayf c t ps K
 | .makeInterface t x=>match En c x with
  |some (.dat T d)=>EZ (FX Y.P t Ab7) (k (.ifc t T d))
  |_=>False
 | .call ⟨.builtin .len,aE,at_⟩=>Awx c aE at_ k
 | .call ⟨.builtin .min,aE,_⟩=>Arf c false aE k
 | .call ⟨.builtin .max,aE,_⟩=>Arf c true aE k
 |_=>False
theorem Adb(h:RG g0 T c f g AH A){o:Op}{K:AV Y->Cf Y->Prop}(i:vop c o K):∃v a c' g',K a c'/\g'.w=g.w/\Le g g'/\RG g0 T c' f g' AH A/\AR g' a v/\∀w',Sx g w'->KR Y.P f o ty v w':=by
 have m:∀{o:Op},(∃v a,K a c/\AR g a v/\∀w',KR Y.P f o ty v w')->∃v a c' g',K a c'/\g'.w=g.w/\Le g g'/\RG g0 T c' f g' AH A/\AR g' a v/\∀w',Sx g w'->KR Y.P f o ty v w':=λ⟨v,a,s,q,D⟩=>⟨v,a,c,g,s,rfl,Le.refl _,h,q,λw' _=>D w'⟩
 have w:∀{o:Op}{v:Value}{a:AV Y},K a c->AR g a v->(∀w',Sx g w'->KR Y.P f o ty v w')->∃v a c' g',K a c'/\g'.w=g.w/\Le g g'/\RG g0 T c' f g' AH A/\AR g' a v/\∀w',Sx g w'->KR Y.P f o ty v w':=λs q D=>⟨_,_,c,g,s,rfl,Le.refl _,h,q,D⟩
 unfold vop at i;split at i
 .split at i
  .rename_i a B;exact w i (h.ev B) λw' _ N r G W=>rfl
  grind
 .split at i
  .rename_i a B;exact w i (h.ev B) λw' _ N r G W=>rfl
  grind
 .rename_i z x y;have R:∀{p:BV},(En c z).bind asB=some p->ev f z=.bool p.val:=λ{p}E=>by
   cases P:En c z with
   |none=>grind
   |some a=>rw[P]at E;exact Nl E (h.ev P)
  split at i
  .rename_i s;obtain⟨a,q,i⟩:=YZ i;exact w i (h.ev q) λw' _=>A9 λr G J C=>Af9 _ (R s) rfl C
  .rename_i s;obtain⟨a,q,i⟩:=YZ i;exact w i (h.ev q) λw' _=>A9 λr G J C=>Aga _ (R s) rfl C
  .rename_i p O s;have H:=R s;by_cases E:p
   .have H:ev f z=.bool true:=by rw[H];show Value.bool (@decide p O)=_;rw[@decide_eq_true p O E]
    have M:=Zm h H;obtain⟨a,q,i⟩:=YZ (i.1 E);exact⟨_,_,_,g,i,rfl,Le.refl _,M,M.ev q,λw' _=>A9 λr G J C=>Af9 _ H rfl C⟩
   .have H:ev f z=.bool false:=by rw[H];show Value.bool (@decide p O)=_;rw[@decide_eq_false p O E]
    have M:=Zm h H;obtain⟨a,q,i⟩:=YZ (i.2 E);exact⟨_,_,_,g,i,rfl,Le.refl _,M,M.ev q,λw' _=>A9 λr G J C=>Aga _ H rfl C⟩
  grind
 .split at i
  .rename_i a B;obtain⟨b,o,d,c',s,q,D,I⟩:=Aex h i (h.ev B);exact⟨_,_,c',g,q,rfl,Le.refl _,I,D,λw' _=>A9 λr G J C=>Q6 s C⟩
  grind
 .split at i
  .rename_i Q a s q;obtain⟨hf,i⟩:=AG i;obtain⟨b,o,d,c',s,q,D,I⟩:=Aex h i (h.ev q);exact⟨_,_,c',g,q,rfl,Le.refl _,I,D,λw' _=>A9 λr G J C=>Vg hf s C⟩
  grind
 .exact m (Aru h i)
 .split at i
  .rename_i T d o B;obtain⟨b,Q,u,s,q,D,I⟩:=h.ev B;obtain⟨v,a,V,S,U⟩:=Ad9 (k:=λa=>K a c) i s q D I;exact w V S U
  .rename_i aE rs F B;obtain⟨L,i⟩:=AG i;obtain⟨v,s,q⟩:=Anc (ty:=ty) L (h.ev B);exact w i s q
  grind
 .exact m (Asy h i)
 .exact m (Aur h i)
 .exact m (Ase h i)
 .split at i
  .rename_i j B;split at i
   .rename_i l hl;obtain⟨A1,A2,_,_,D,_⟩:=h.sg.take hl;obtain⟨_,vs,I,V⟩:=D;split at i
    .rename_i a X;obtain⟨v,S,U⟩:=V.get' X;exact w i U λw' _=>A9 λr G J C=>Ai4 ((h.ev B).2.trans I) (by simpa using S) C
    .exact i.elim
   .exact i.elim
  .exact i.elim
 .split at i
  .rename_i n d Z;exact m (As0 h Z i)
  .exact m (Aso h i)
 .exact m (Ar3 h i)
 .rename_i t ps;split at i
  .exact m (Ahk h i)
  .exact Asx h i
 .split at i
  .rename_i T d B;obtain⟨L,i⟩:=AG i;obtain⟨e,L⟩:=Ah4 L;exact w (v:=.iface _ (ev f _)) i ⟨_,rfl,h.ev B⟩ λw' _ N r G W=>by simp [execOp,Instr.makeInterface,run_underlying L]
  .exact i.elim
 .exact m (Arm h i)
 .exact m (Agj h (mx:=false) i)
 .exact m (Agj h (mx:=true) i)
 grind
end
end
section
section
variable {Y:Sys}
variable {g0 g:B4} {T AH A:Bd} {c:Cf Y} {f:Fr}
theorem RG.DG(h:RG g0 T c f g AH A){i:Nat}{s:C4 Y}(hi:Ie c.sg i=some s):∃A1 A2,SR g i s A1/\i<g.n/\St g.I g.w (A1++(AH++(A2++T)))/\∀(k:C4 Y)(d:Bd)(g':B4),Le g g'->g'.n=g.n->SR g' i k d->St g'.I g'.w (d++(AH++(A2++T)))->RG g0 T {c with sg:=(i,k)::FP c.sg i} f g' AH (d++A2):=by obtain⟨A1,A2,n,r,o,p⟩:=h.sg.take hi;refine⟨A1,A2,o,r,h.st.perm (F6 n AH),λk d g' b l q e=>?_⟩;exact⟨l.trans h.n,h.le.trans b.ext,e.perm (F6 (aa _) AH).symm,h.hr.mono b,⟨d,A2,rfl,by omega,q,p.mono b⟩,h.hs.mono b,b.pt h.pt,λj a m=>(h.fr j a m).mono b⟩
theorem RG.name(h:RG g0 T c f g AH A)(v:Value):RG g0 T {c with nx:=c.nx+1} f (g.new g.w v) AH A:=by have b:=Le.new (g:=g) (v:=v) (Ext.refl _ _);exact⟨by show g.n+1=c.nx+1;rw[h.n],h.le.trans b.ext,h.st,h.hr.mono b,h.sg.mono b,h.hs.mono b,b.pt h.pt,λj a d=>(h.fr j a d).mono b⟩
def Cf.put(c:Cf Y)(N:Nat)(dst:Option Tmp)(a:AV Y)(k:Cf Y->Prop):Prop:=match dst with
 |none=>k c
 |some d=>EZ (bt d N&&!LZ d c.pt) (match a with
  | .dat .ptr p=>k ({c with nx:=c.nx+1}.set d (.ptr c.nx p))
  |a=>k (c.set d a))
variable {v:Value}
theorem RG.put{N:Nat}{dst:Option Tmp}{a:AV Y}{k:Cf Y->Prop}(h:RG g0 T c f g AH A)(i:AR g a v)(b:c.put N dst a k):∃c' g',k c'/\g'.w=g.w/\g'.I=g.I/\Le g g'/\RG g0 T c' (X.put N f dst v) g' AH A:=by
 unfold Cf.put at b;split at b
 .exact⟨_,g,b,rfl,rfl,Le.refl _,h⟩
 .rename_i d;obtain⟨e,b⟩:=AG b;split at b
  .rename_i p;refine⟨_,g.new g.w v,b,rfl,rfl,Le.new (Ext.refl _ _),(h.name v).set e ?_⟩;rw[<-h.n];exact⟨a4 _,g.BC _ _,Lb.1 i⟩
  .exact⟨_,g,b,rfl,rfl,Le.refl _,h.set e i⟩
def An1(i:Nat)(t:Ty)(xs:List (den Y.D t)):AV Y->AV Y
 | .own j=>if j=i then .dat (.sl t) xs else .own j
 | .sub j T lo=>if j=i then (match Ty.dec T t with | .isTrue _=>.dat (.sl t) (xs.drop lo) | .isFalse _=>.sub j T lo) else .sub j T lo
 |a=>a
def Anz(i:Nat)(t:Ty)(xs:List (den Y.D t)):List (Nat×AV Y)->List (Nat×AV Y)
 | []=>[]
 |p::l=>(p.1,An1 i t xs p.2)::Anz i t xs l
theorem Ag0{i:Nat}{t:Ty}{xs:List (den Y.D t)}{j:Nat}{a:AV Y}:∀{l:List (Nat×AV Y)},HF (Anz i t xs l) j=some a->∃b,HF l j=some b/\a=An1 i t xs b
 | [],h=>by grind[Anz,HF]
 |p::l,h=>by unfold Anz HF at h;unfold HF;by_cases c:p.1=j;all_goals simp_all[Ag0]
def Aji(i:Nat)(t:Ty)(xs:List (den Y.D t)):List (AV Y)->List (AV Y)
 | []=>[]
 |a::l=>An1 i t xs a::Aji i t xs l
def A01(i:Nat)(t:Ty)(xs:List (den Y.D t)):C4 Y->C4 Y
 | .blk cs=>.blk (Aji i t xs cs)
 | .tp l=>.tp (Aji i t xs l)
 | .ag l=>.ag (Aji i t xs l)
 |s=>s
def Axn(i:Nat)(t:Ty)(xs:List (den Y.D t)):List (Nat×C4 Y)->List (Nat×C4 Y)
 | []=>[]
 |p::l=>(p.1,A01 i t xs p.2)::Axn i t xs l
def Cf.frz(c:Cf Y)(i:Nat):Cf Y:=match Ie c.sg i with
 |some (.sl t xs)=>{c with fr:=Anz i t xs c.fr,sg:=Axn i t xs (FP c.sg i)}
 |_=>c
variable {t:Ty}
theorem Q0{I:Cc}{w:World}{xs:List (den Y.D t)}(h:@Acp _ (RT Y.toUS t) I w v xs):rp Y.toUS (.sl t) I w v xs:=by obtain⟨a,b,c,f,d,e⟩:=@Acp.ex _ (RT Y.toUS t) _ _ _ _ h;exact Rq.2 ⟨a,b,c,f,d,e⟩
theorem QD{I:Cc}{w:World}{xs:List (den Y.D t)}(h:rp Y.toUS (.sl t) I w v xs):@Acp _ (RT Y.toUS t) I w v xs:=by obtain⟨a,b,c,f,d,e⟩:=Rq.1 h;exact @Acp.mk _ (RT Y.toUS t) _ _ _ _ ⟨a,b,c,f,d,e⟩
theorem Zt{i:Nat}{xs:List (den Y.D t)}(d:rp Y.toUS (.sl t) g.I g.w (g.μ i) xs){a:AV Y}(b:AR g a v):AR g (An1 i t xs a) v:=by
 unfold An1;split
 .split
  .rename_i h;subst h;have:=b.2;subst this;exact d
  omega
 .split
  .rename_i h;subst h;split
   .rename_i e _;subst e;obtain⟨_,n,r,j,f,c,o⟩:=b;letI:AP (den Y.D _):=RT Y.toUS ‹Ty›
    obtain⟨a,m,k,p,q,l⟩:=Aam (QD d);rw[k]at c;cases c;have:=l _ _ _ o (a3 _) p (a3 _);rw[List.take_of_length_le (by simp)]at this;rw[n,k];exact Q0 this
   omega
  omega
 omega
theorem Agx{g:B4}{i:Nat}{t:Ty}{xs:List (den Y.D t)}(a:rp Y.toUS (.sl t) g.I g.w (g.μ i) xs):∀{l:List (AV Y)}{vs:List Value},F2 (AR g) l vs->F2 (AR g) (Aji i t xs l) vs
 | [],_,.nil=>.nil
 |_::_,_,.cons b c=>.cons (Zt a b) (Agx a c)
theorem V3{g:B4}{i:Nat}{t:Ty}{xs:List (den Y.D t)}(c:rp Y.toUS (.sl t) g.I g.w (g.μ i) xs):∀{l:List (AV Y)}{vs:List Value},F2 (λa v=>AR g a v/\v.oneCell'=true) l vs->F2 (λa v=>AR g a v/\v.oneCell'=true) (Aji i t xs l) vs
 | [],_,.nil=>.nil
 |_::_,_,.cons b d=>.cons ⟨Zt c b.1,b.2⟩ (V3 c d)
theorem Agz{g:B4}{i:Nat}{t:Ty}{xs:List (den Y.D t)}(n:rp Y.toUS (.sl t) g.I g.w (g.μ i) xs):∀{l:List (Nat×C4 Y)}{A:Bd},Fg g l A->Fg g (Axn i t xs l) A
 | [],_,h=>h
 |p::l,A,⟨r,v,w,x,a,u⟩=>by
  refine⟨r,v,w,x,?_,Agz n u⟩;show SR g p.1 (A01 i t xs p.2) r;generalize p.2=s at a;cases s with
  |blk y=>obtain⟨b,o,e,j,c,d⟩:=a;exact⟨b,o,e,j,c,V3 n d⟩
  |sl t xs|mp k e m=>exact a
  |tp l=>obtain⟨j,q,c,d⟩:=a;exact⟨j,q,c,Agx n d⟩
  |ag l=>obtain⟨j,q,c,d⟩:=a;exact⟨j,q,c,V3 n d⟩
  |clo f l m=>exact a
theorem RG.frz(h:RG g0 T c f g AH A)(i:Nat):∃g' A',g'.w=g.w/\g'.n=g.n/\Le g g'/\RG g0 T (c.frz i) f g' AH A':=by
 unfold Cf.frz;split
 .rename_i t s q;obtain⟨z,x,r,y,u,o⟩:=h.sg.take q;have m:=h.st.perm (F6 r AH);obtain⟨k,v,e,l⟩:=@Bx.freeze _ (RT Y.toUS t) _ _ _ _ _ _ u m;have d:Le g {g with I:=k}:=⟨v,a3 _,λ_ _=>rfl,rfl⟩
  have n:rp Y.toUS (.sl t) k g.w (g.μ i) s:=Q0 l;refine⟨{g with I:=k},x,rfl,rfl,d,⟨h.n,h.le.trans d.ext,e,h.hr.mono d,Agz (g:={g with I:=k}) n (o.mono d),h.hs.mono d,d.pt h.pt,λj a p=>?_⟩⟩;obtain⟨b,w,rfl⟩:=Ag0 p;exact Zt (g:={g with I:=k}) n ((h.fr j b w).mono d)
 .exact⟨g,A,rfl,rfl,Le.refl _,h⟩
end
end
section
section
variable {Y:Sys}
def Aju:List Ty->List (AV Y)->Option (List (Lf Y.D))
 | [],_=>some []
 |t::ts,a::l=>match t.leaf,Ug t a,Aju ts l with
  |true,some x,some m=>some (⟨t,x⟩::m)
  |_,_,_=>none
 |_::_,[]=>none
theorem Ahm{g:B4}{q:AV Y->Value->Prop}(b:∀a v,q a v->AR g a v):∀{ts:List Ty}{l:List (AV Y)}{vs:List Value}{m:List (Lf Y.D)},Aju ts l=some m->F2 q l vs->F2 (λc(l:Lf Y.D)=>rp Y.toUS l.t g.I g.w c l.x) (vs.take ts.length) m
 | [],_,_,_,h,_=>by cases h;simp;exact .nil
 |t::ts,a::l,_::vs,m,h,.cons f i=>by
  unfold Aju at h;split at h
  .rename_i x j k e d;cases h;exact .cons (Dh e (b _ _ f)) (Ahm b d i)
  grind
 |_::_,[],_,_,h,_=>by grind[Aju]
def rdB(t:TypeId)(cs:List (AV Y))(o:Nat)(k:AV Y->Prop):Prop:=match Y.ty t with
 |some (.u n)=>EZ (OZ Y.P t true (Y.sig n).length) (match (Aju (Y.sig n) (cs.drop o)).bind (Y.Ah1 n) with
  |some x=>k (.dat (.u n) x)
  |none=>False)
 |_=>EZ (OZ Y.P t false 1) (match cs[o]? with
  |some a=>k a
  |none=>False)
variable {g:B4} {o b:Nat} {t ty:TypeId} {f:Fr} {x:Operand} {k:AV Y->Prop}
theorem YK{A1:Bd}{i:Nat}{cs:List (AV Y)}(h:rdB t cs o k)(hs:SR g i (.blk cs) A1)(hi:g.μ i=.pointer (some ⟨b,0,none⟩))(A:ev f x=.pointer (some ⟨b,o,none⟩)):∃v a,k a/\AR g a v/\∀w':World,(∀p∈A1,w'.heap[p.1]?=some p.2)->KR Y.P f (.load t x) ty v w':=by
 obtain⟨K,c,e,rfl,C,w⟩:=hs;rw[hi]at C;cases C;have B:∀{w':World},(∀p∈[(b,Obj.cells c e (0,0))],w'.heap[p.1]?=some p.2)->St (λ_=>False) w' ([(b,Obj.cells c e (0,0))]++[]):=λd=>⟨λ_ h=>h.elim,λp E=>⟨d p (by grind),λh=>h⟩,by simp⟩
 unfold rdB at h;split at h
 .rename_i n L;obtain⟨s,h⟩:=AG h;cases q:Aju (Y.sig n) (cs.drop o) with
  |none=>grind
  |some l=>
   rw[q]at h;simp only[ae]at h;split at h
   .rename_i y D;have z:=Ahm (g:=g) (λa v h=>h.1) q (w.drop o);have j:=Y.QZ n _ _ D;have m:((c.toList.drop o).take (Y.sig n).length).length=(Y.sig n).length:=by rw[z.len,<-j,<-Y.RU n y,List.length_map]
    refine⟨.agg ⟨_⟩,_,h,GM.2 ⟨_,rfl,by grind⟩,λw' d=>A9 λr F H u=>Rz s (B d) A rfl m u⟩
   grind
 .obtain⟨s,h⟩:=AG h;split at h
  .rename_i a G;obtain⟨v,I,J⟩:=w.get' G;exact⟨v,a,h,J.1,λw' d=>A9 λr F H u=>Uo s (B d) A (by grind) u⟩
  grind
theorem Alu{A1 T1:Bd}{i:Nat}{cs:List (AV Y)}(h:rdB t cs o k)(hs:SR g i (.blk cs) A1)(c:St g.I g.w (A1++T1))(hi:g.μ i=.pointer (some ⟨b,0,none⟩))(e:ev f x=.pointer (some ⟨b,o,none⟩)):∃v a,k a/\AR g a v/\KR Y.P f (.load t x) ty v g.w:=by obtain⟨v,a,m,l,j⟩:=YK (ty:=ty) h hs hi e;exact⟨v,a,m,l,j g.w λp d=>(c.own p (a6 _ d)).1⟩
def rdD(t:TypeId)(T:Ty)(d:den Y.D T)(o:Nat)(k:AV Y->Prop):Prop:=ldD t T d o k
theorem Avk{T:Ty}{d:den Y.D T}{off:Nat}{u:Value}(h:rdD t T d o k)(r:rp Y.toUS T g.I g.w u d)(s:Di g.w ⟨b,off,none⟩ u)(j:ev f x=.pointer (some ⟨b,off+o,none⟩)):∃v a,k a/\AR g a v/\KR Y.P f (.load t x) ty v g.w:=by
 unfold rdD ldD at h;have c:∀{i:Ty}{o:Nat}{y:den Y.D i},OZ Y.P t (isU i) (sz Y.toUS i)=true->ev f x=.pointer (some ⟨b,off+o,none⟩)->Xh i (((Abw T d).drop o).take (sz Y.toUS i))=some y->∃v,rp Y.toUS i g.I g.w v y/\KR Y.P f (.load t x) ty v g.w:=λ{i o y}n j l=>by have z:=((Abv r).drop o).take (sz Y.toUS i);obtain⟨v,w,m,_⟩:=ZQ l z;exact⟨v,m,QP n (UW s (by rw[w])) m j⟩
 split at h
 .rename_i i A;obtain⟨n,h⟩:=AG h;split at h
  .split at h
   .rename_i e _;subst e;exact⟨u,_,h,r,QP n s r j⟩
   .split at h
    .rename_i y l;obtain⟨v,p,q⟩:=c (o:=0) n j l;exact⟨v,_,h,p,q⟩
    grind
  .split at h
   .rename_i y l;obtain⟨v,p,q⟩:=c n j l;exact⟨v,_,h,p,q⟩
   grind
 grind
def rdX(c:Cf Y)(t:TypeId)(a:AV Y)(k:AV Y->Prop):Prop:=match a with
 | .adr i o=>match Ie c.sg i with
  |some (.blk cs)=>rdB t cs o k
  |_=>False
 | .el i T j o=>match Ie c.sg i with
  |some (.sl T' xs)=>match Ty.dec T T' with
   | .isTrue _=>∃h:j<xs.length,rdD t T' xs[j] o k
   | .isFalse _=>False
  |_=>False
 | .hp w _ o=>match Ie c.sg w with
  |some (.blk cs)=>rdB t cs o k
  |_=>False
 |_=>False
theorem UR{g0:B4}{T AH A:Bd}{c:Cf Y}(h:RG g0 T c f g AH A){a:AV Y}(d:rdX c t a k)(q:AR g a (ev f x)):∃v a,k a/\AR g a v/\KR Y.P f (.load t x) ty v g.w:=by
 unfold rdX at d;split at d
 .split at d
  .rename_i i o O l;obtain⟨D,E,p,w,m,_⟩:=h.DG l;obtain⟨_,b,r,s⟩:=q;exact Alu d p m r s
  grind
 .split at d
  .rename_i N j o _ S W l;split at d
   .rename_i e _;subst e;obtain⟨z,d⟩:=d;obtain⟨D,E,p,w,m,_⟩:=h.DG l;obtain⟨_,b,K,G,J,r,s⟩:=q;rcases @Bx.ex _ (RT Y.toUS N) _ _ _ _ _ p with ⟨_,C,_⟩|⟨U,F,y,Z,B,rfl,n,C,X,V,M⟩
    .grind
    rw[r]at n;cases n;obtain⟨u,P,Q⟩:=M j z;refine Avk d P ⟨rfl,λi I=>?_⟩ s;rw[Bo m.heap,ar];grind
   grind
  grind
 .rename_i i b o;obtain⟨p,w,m⟩:=q;split at d
  .rename_i O l;obtain⟨D,E,H,R,L,_⟩:=h.DG l;exact Alu d H L w m
  grind
 grind
end
end
section
section
variable {Y:Sys}
def WD:List (OL Y.D)->Nat->List (AV Y)×List (Nat×C4 Y)×Nat
 | [],n=>([],[],n)
 | .dat l::ls,n=>(.dat l.t l.x::(WD ls n).1,(WD ls n).2.1,(WD ls n).2.2)
 | .own t xs::ls,n=>(.own n::(WD ls (n+1)).1,(n,.sl t xs)::(WD ls (n+1)).2.1,(WD ls (n+1)).2.2)
 | .map k e m::ls,n=>(.own n::(WD ls (n+1)).1,(n,.mp k e m)::(WD ls (n+1)).2.1,(WD ls (n+1)).2.2)
 | .ownO _ none::ls,n=>(.val (.slice none 0 0)::(WD ls n).1,(WD ls n).2.1,(WD ls n).2.2)
 | .ownO t (some xs)::ls,n=>(.own n::(WD ls (n+1)).1,(n,.sl t xs)::(WD ls (n+1)).2.1,(WD ls (n+1)).2.2)
def spl:List (OL Y.D)->(List (OL Y.D)->Prop)->Prop
 | [],k=>k []
 | .ownO t o::ls,k=>(o=none->spl ls λl=>k (.ownO t none::l))/\∀xs,o=some xs->spl ls λl=>k (.ownO t (some xs)::l)
 | .dat l::ls,k=>spl ls λm=>k (.dat l::m)
 | .own t xs::ls,k=>spl ls λm=>k (.own t xs::m)
 | .map a b c::ls,k=>spl ls λm=>k (.map a b c::m)
theorem Y5:∀{ls:List (OL Y.D)}{k:List (OL Y.D)->Prop},spl ls k->k ls
 | [],_,h=>h
 |.dat _::ls,_,h|.own _ _::ls,_,h|.map _ _ _::ls,_,h=>Y5 (ls:=ls) h
 | .ownO _ none::ls,_,h=>Y5 (ls:=ls) (h.1 rfl)
 | .ownO _ (some a)::ls,_,h=>Y5 (ls:=ls) (h.2 a rfl)
theorem SY:∀{ls:List (OL Y.D)}{vs:List Value}{A:Bd}{g:B4},OR Y g.I g.w vs ls A->∃g',g'.w=g.w/\g'.I=g.I/\Le g g'/\g'.n=(WD ls g.n).2.2/\F2 (λa v=>AR g' a v/\v.oneCell'=true) (WD ls g.n).1 vs/\Fg g' (WD ls g.n).2.1 A
 | [],[],A,g,h=>⟨g,rfl,rfl,Le.refl _,rfl,.nil,h⟩
 | .dat l::ls,v::vs,A,g,⟨f,s,D⟩=>by obtain⟨g',j,i,d,p,q,o⟩:=SY D;exact⟨g',j,i,d,p,.cons ⟨(show AR g (.dat l.t l.x) v from f).mono d,s⟩ q,o⟩
 | .own t B::ls,v::vs,A,g,⟨u,y,z,f,s⟩=>by have n:Le g (g.new g.w v):=Le.new (Ext.refl _ _);obtain⟨g',j,i,d,p,q,o⟩:=SY (g:=g.new g.w v) s;have c:g.n<g'.n:=d.n;have w:g'.μ g.n=v:=(d.μ g.n (a4 _)).trans (g.BC _ _);obtain⟨a,C,x,_⟩:=@Bx.len _ (RT Y.toUS t) _ _ _ _ _ f;refine⟨g',j,i,n.trans d,p,.cons ⟨⟨c,w.symm⟩,by rw[x];rfl⟩ q,u,y,z,c,?_,o⟩;show Nz Y t g'.I g'.w u (g'.μ g.n) B;rw[w,j,i];exact f
 | .map k e m::ls,v::vs,A,g,⟨u,y,z,f,s⟩=>by have n:Le g (g.new g.w v):=Le.new (Ext.refl _ _);obtain⟨g',j,i,d,p,q,o⟩:=SY (g:=g.new g.w v) s;have c:g.n<g'.n:=d.n;have w:g'.μ g.n=v:=(d.μ g.n (a4 _)).trans (g.BC _ _);obtain⟨b,F,E,_,x,_⟩:=@Cz.ex _ _ (RT Y.toUS k) (RT Y.toUS e) _ _ _ _ _ f;refine⟨g',j,i,n.trans d,p,.cons ⟨⟨c,w.symm⟩,by rw[x];rfl⟩ q,u,y,z,c,?_,o⟩;show Ws Y k e g'.I g'.w u (g'.μ g.n) m;rw[w,j,i];exact f
 | .ownO t none::ls,v::vs,A,g,⟨f,s⟩=>by obtain⟨g',j,i,d,p,q,o⟩:=SY s;exact⟨g',j,i,d,p,.cons ⟨f,by rw[f];rfl⟩ q,o⟩
 | .ownO t (some B)::ls,v::vs,A,g,⟨u,y,z,f,s⟩=>by have n:Le g (g.new g.w v):=Le.new (Ext.refl _ _);obtain⟨g',j,i,d,p,q,o⟩:=SY (g:=g.new g.w v) s;have c:g.n<g'.n:=d.n;have w:g'.μ g.n=v:=(d.μ g.n (a4 _)).trans (g.BC _ _);obtain⟨a,C,x,_⟩:=@Bx.len _ (RT Y.toUS t) _ _ _ _ _ f;refine⟨g',j,i,n.trans d,p,.cons ⟨⟨c,w.symm⟩,by rw[x];rfl⟩ q,u,y,z,c,?_,o⟩;show Nz Y t g'.I g'.w u (g'.μ g.n) B;rw[w,j,i];exact f
 |.ownO _ _::_,[],_,_,r|.dat _::_,[],_,_,r|.own _ _::_,[],_,_,r|.map _ _ _::_,[],_,_,r|[],_::_,_,_,r=>r.elim
variable {g:B4}
theorem Fg.app:∀{l l':List (Nat×C4 Y)}{A A':Bd},Fg g l A->Fg g l' A'->Fg g (l++l') (A++A')
 | [],_,_,_,h,a=>by rw[show _=[] from h];exact a
 |_::_,_,_,_,⟨c,d,e,b,f,i⟩,a=>⟨c,d++_,by rw[e,a2],b,f,i.app a⟩
def opn(c:Cf Y)(w b n:Nat)(k:Cf Y->Prop):Prop:=
 ∃x,c.H b=some (.st n x)/\spl (Y.ocl n x) λls=>k {c with sg:=(w,.blk (WD ls c.nx).1)::((WD ls c.nx).2.1++c.sg),nx:=(WD ls c.nx).2.2,op:=some ⟨w,b,n,some x⟩}
variable {g0:B4} {T AH A:Bd} {c:Cf Y} {f:Fr} {b:Nat} {k:Cf Y->Prop}
theorem Avw(h:RG g0 T c f g AH A)(p:c.op=none){w n:Nat}(l:opn c w b n k)(o:w<g.n)(C:g.μ w=.pointer (some ⟨b,0,none⟩)):∃c' g' AH' A',k c'/\g'.w=g.w/\Le g g'/\RG g0 T c' f g' AH' A':=by
 obtain⟨x,t,l⟩:=l;replace l:=Y5 l;have u:=h.hr;rw[p]at u;obtain⟨I,m,E,H,r⟩:=Hu.take u t h.st;obtain⟨j,e,A',rfl,q⟩:=E;obtain⟨g',v,D,d,z,s,B⟩:=SY q;rw[h.n]at z s B;refine⟨_,g',m,[(b,.cells j e (0,0))]++(A'++A),l,v,d,z,h.le.trans d.ext,?_,⟨H.mono d.ext,λy G=>?_,a5 o d.n,by show g'.μ w=_;rw[d.μ w o];exact C⟩,⟨_,_,rfl,a5 o d.n,⟨b,j,e,rfl,by rw[d.μ w o];exact C,s⟩,B.app (h.sg.mono d)⟩,h.hs.mono d,d.pt h.pt,λi a F=>(h.fr i a F).mono d⟩
 .rw[v,D];refine r.perm ?_;have:((b,Obj.cells j e (0,0))::A')++(m++(A++T))=([(b,.cells j e (0,0))]++A')++(m++(A++T)):=rfl;rw[this,<-a2 _ m,<-a2 m];refine(be.append_right _).trans ?_;simp
 grind
def Aq6:AV Y->Bool
 | .val (.slice none 0 0)=>true
 |_=>false
variable {a:AV Y} {v:Value}
theorem Agg(h:Aq6 a=true)(b:AR g a v):v=.slice none 0 0:=by
 unfold Aq6 at h;split at h
 .exact b
 grind
def clO(T:Ty)(a:AV Y)(sg:List (Nat×C4 Y)):Option (OL Y.D×List (Nat×C4 Y)):=match a with
 | .own j=>match Ie sg j with
  |some (.sl t xs)=>match Ty.dec t T with
   | .isTrue _=>some (.ownO t (some xs),FP sg j)
   | .isFalse _=>none
  |_=>none
 |a=>match Aq6 a with
  |true=>some (.ownO T none,sg)
  |false=>none
variable {sg:List (Nat×C4 Y)} {r:OL Y.D×List (Nat×C4 Y)}
theorem Ax7{T:Ty}(h:clO T a sg=some r)(c:AR g a v)(hs:Fg g sg A):∃A1 A2,A.Perm (A1++A2)/\(∀vs ls A',OR Y g.I g.w vs ls A'->OR Y g.I g.w (v::vs) (r.1::ls) (A1++A'))/\Fg g r.2 A2:=by
 unfold clO at h;split at h
 .rename_i j;split at h
  .rename_i t m k;split at h
   .cases h;obtain⟨A1,A2,f,l,i,e⟩:=hs.take k;exact⟨A1,A2,f,λvs ls A' b=>⟨A1,A',rfl,by rw[c.2];exact i,b⟩,e⟩
   grind
  grind
 .split at h
  .rename_i d;cases h;exact⟨[],A,aa _,λvs ls A' b=>⟨Agg d c,b⟩,hs⟩
  grind
def clD(k:RK)(a:AV Y)(sg:List (Nat×C4 Y)):Option (OL Y.D×List (Nat×C4 Y)):=match a with
 | .own j=>match Ie sg j with
  |some (.sl t xs)=>some (.own t xs,FP sg j)
  |some (.mp k e m)=>some (.map k e m,FP sg j)
  |_=>none
 | .sub j T lo=>match k,Ie sg j with
  | .own _,some (.sl t xs)=>match Ty.dec T t with
   | .isTrue _=>some (.own t (xs.drop lo),FP sg j)
   | .isFalse _=>none
  |_,_=>none
 |a=>match k with
  | .dat t=>match t.leaf,Ug t a with
   |true,some x=>some (.dat ⟨t,x⟩,sg)
   |_,_=>none
  | .own t=>match Aq6 a with
   |true=>some (.own t [],sg)
   |false=>none
  | .map _ _ | .ownO _=>none
theorem Ax8{k:RK}(h:clD k a sg=some r)(i:AR g a v)(y:v.oneCell'=true)(hs:Fg g sg A):∃A1 A2,A.Perm (A1++A2)/\(∀vs ls A',OR Y g.I g.w vs ls A'->OR Y g.I g.w (v::vs) (r.1::ls) (A1++A'))/\Fg g r.2 A2:=by
 unfold clD at h;split at h
 .rename_i j;split at h
  .rename_i t F d;cases h;obtain⟨A1,A2,l,q,c,f⟩:=hs.take d;exact⟨A1,A2,l,λvs ls A' b=>⟨A1,A',rfl,by rw[i.2];exact c,b⟩,f⟩
  .rename_i E e m d;cases h;obtain⟨A1,A2,l,q,c,f⟩:=hs.take d;exact⟨A1,A2,l,λvs ls A' b=>⟨A1,A',rfl,by rw[i.2];exact c,b⟩,f⟩
  grind
 .split at h
  .rename_i d;split at h
   .rename_i e _;subst e;cases h;obtain⟨A1,A2,l,q,c,f⟩:=hs.take d;obtain⟨_,z,a,u,B,n,p⟩:=i;refine⟨A1,A2,l,λvs ls A' b=>⟨A1,A',rfl,?_,b⟩,f⟩;obtain⟨D,o,s,_⟩:=@Bx.len _ (RT Y.toUS _) _ _ _ _ _ c;rw[z];refine @Bx.sub _ _ _ _ (RT Y.toUS _) _ _ _ c ?_;grind
   grind
  grind
 .split at h
  .split at h
   .rename_i x p w;cases h;exact⟨[],A,aa _,λvs ls A' b=>⟨Dh w i,y,b⟩,hs⟩
   grind
  .split at h
   .rename_i C;cases h;refine⟨[],A,aa _,λvs ls A' b=>⟨[],A',rfl,?_,b⟩,hs⟩;rw[Agg C i];simp[Bx.nil]
   grind
  all_goals grind
def clC(k:RK)(a:AV Y)(sg:List (Nat×C4 Y)):Option (OL Y.D×List (Nat×C4 Y)):=match k with
 | .ownO T=>clO T a sg
 |k=>clD k a sg
theorem Ax9{k:RK}(h:clC k a sg=some r)(b:AR g a v)(c:v.oneCell'=true)(hs:Fg g sg A):∃A1 A2,A.Perm (A1++A2)/\(∀vs ls A',OR Y g.I g.w vs ls A'->OR Y g.I g.w (v::vs) (r.1::ls) (A1++A'))/\Fg g r.2 A2:=by unfold clC at h;grind[Ax7,Ax8]
def clL:List RK->List (AV Y)->List (Nat×C4 Y)->Option (List (OL Y.D)×List (Nat×C4 Y))
 | [],[],sg=>some ([],sg)
 |k::ks,a::l,sg=>match clC k a sg with
  |some r=>match clL ks l r.2 with
   |some q=>some (r.1::q.1,q.2)
   |none=>none
  |none=>none
 |_,_,_=>none
theorem Aor{g:B4}:∀{ks:List RK}{l:List (AV Y)}{vs:List Value}{sg:List (Nat×C4 Y)}{A:Bd}{r:List (OL Y.D)×List (Nat×C4 Y)},clL ks l sg=some r->F2 (λa v=>AR g a v/\v.oneCell'=true) l vs->Fg g sg A->∃A1 A2,A.Perm (A1++A2)/\OR Y g.I g.w vs r.1 A1/\Fg g r.2 A2
 | [],[],vs,sg,A,r,h,j,b=>by cases h;cases j;exact⟨[],A,aa _,rfl,b⟩
 |k::ks,a::l,_,sg,A,r,h,.cons d e,b=>by
  unfold clL at h;split at h
  .rename_i w c;split at h
   .rename_i q f;cases h;obtain⟨A1,A2,u,n,m⟩:=Ax9 c d.1 d.2 b;obtain⟨s,t,p,o,i⟩:=Aor f e m;refine⟨A1++s,t,?_,n _ _ _ o,i⟩;rw[a2];exact u.trans (p.append_left A1)
   grind
  grind
 |[],_::_,_,_,_,_,h,_,_|_::_,[],_,_,_,_,h,_,_=>by grind[clL]
def Aeg(c:Cf Y):List RK->List (AV Y)->Cf Y
 |.dat _::ks,.own i::l|.dat _::ks,.sub i _ _::l=>Aeg (c.frz i) ks l
 |_::ks,_::l=>Aeg c ks l
 |_,_=>c
theorem Ar1:∀(ks:List RK)(l:List (AV Y)){g:B4}{A:Bd}{c:Cf Y},RG g0 T c f g AH A->∃g' A',g'.w=g.w/\Le g g'/\RG g0 T (Aeg c ks l) f g' AH A':=by
 intro ks;induction ks with
 |nil=>intro l g A c h;refine⟨g,A,rfl,Le.refl _,?_⟩;cases l<;>exact h
 |cons k ks j=>
  intro l g A c h;cases l with
  |nil=>refine⟨g,A,rfl,Le.refl _,?_⟩;cases k<;>exact h
  |cons a l=>
   have b:∀i,∃g' A',g'.w=g.w/\Le g g'/\RG g0 T (Aeg (c.frz i) ks l) f g' AH A':=λi=>by obtain⟨v,u,p,_,t,r⟩:=h.frz i;obtain⟨n,o,s,m,q⟩:=j l r;exact⟨n,o,s.trans p,t.trans m,q⟩
   unfold Aeg;split
   .simp_all
   .simp_all
   .rename_i e d;cases e;cases d;exact j _ h
   grind
def cls(c:Cf Y)(k:Cf Y->Prop):Prop:=match c.op with
 |none=>k c
 |some o=>match Ie c.sg o.i with
  |some (.blk cs)=>(λc2:Cf Y=>match c2.op with
   |none=>False
   |some o2=>match Ie c2.sg o2.i with
    |some (.blk cs2)=>match clL (Y.Al8 o2.n) cs2 (FP c2.sg o2.i) with
     |some r=>match Y.oun o2.n r.1 with
      |some x'=>match o2.x with
       |some x=>x'=x/\k {c2 with sg:=r.2,op:=none}
       |none=>k {c2 with sg:=r.2,op:=none,H:=Ab c2.H o2.b (.st o2.n x')}
      |none=>False
     |none=>False
    |_=>False) (Aeg c (Y.Al8 o.n) cs)
  |_=>False
theorem Dt(h:RG g0 T c f g AH A)(a:cls c k):∃c' g' AH' A',k c'/\g'.w=g.w/\Le g g'/\RG g0 T c' f g' AH' A'/\(c.op=none->c'=c)/\c'.op=none:=by
 unfold cls at a;split at a
 .rename_i d;exact⟨c,g,AH,A,a,rfl,Le.refl _,h,λ_=>rfl,d⟩
 .rename_i o d;split at a
  .rename_i E W;obtain⟨l,S,s,i,b⟩:=Ar1 (Y.Al8 o.n) E h;generalize Aeg c (Y.Al8 o.n) E=X at a b;split at a
   .grind
   .rename_i v n;split at a
    .rename_i N B;split at a
     .rename_i r O;split at a
      .rename_i I z;have C:=b.hr;rw[n]at C;obtain⟨F,m,Z,w⟩:=C;obtain⟨Q,R,P,U,⟨V,j,e,rfl,q,H⟩,J⟩:=b.sg.take B;rw[w]at q;cases q;obtain⟨u,y,G,K,D⟩:=Aor O H J;have p:obR Y (.st v.n I) l.I l.w ((v.b,.cells j e (0,0))::u) v.b:=⟨j,e,u,rfl,by rw[Y.Al7 _ _ _ z];exact K⟩
       have t:St l.I l.w ((((v.b,.cells j e (0,0))::u)++AH)++(y++T)):=by refine b.st.perm ?_;refine(((P.trans (G.append_left _)).append_right T).append_left AH).trans ?_;simp only[a2,b4,bb];refine b5.trans (List.Perm.cons _ ?_);rw[<-a2,<-a2 u];exact be.append_right _
       split at a
       .rename_i x M;obtain⟨L,a⟩:=a;subst L;exact⟨_,l,_,y,a,s,i,⟨b.n,b.le,t,HpX.back F (m _ M) p,D,b.hs,b.pt,b.fr⟩,(λe=>by grind),rfl⟩
       .exact⟨_,l,_,y,a,s,i,⟨b.n,b.le,t,HpX.lay F p,D,b.hs,b.pt,b.fr⟩,(λe=>by grind),rfl⟩
      grind
     grind
    grind
  grind
def kdO(c:Cf Y)(t:TypeId)(w:Nat):Option Nat:=match lkH c.hs w with
 |some ⟨_,_,some n⟩=>some n
 |_=>Y.ok t
def opA(c:Cf Y)(t:TypeId)(w b:Nat)(k:Cf Y->Prop):Prop:=match Ie c.sg w with
 |some (.blk _)=>k c
 |_=>match kdO c t w with
  |some n=>cls c λc=>opn c w b n k
  |none=>False
theorem Amf(h:RG g0 T c f g AH A){t:TypeId}{w:Nat}(a:opA c t w b k)(i:w<g.n)(z:g.μ w=.pointer (some ⟨b,0,none⟩)):∃c' g' AH' A',k c'/\g'.w=g.w/\Le g g'/\RG g0 T c' f g' AH' A':=by
 unfold opA at a;split at a
 .exact⟨c,g,AH,A,a,rfl,Le.refl _,h⟩
 .split at a
  .rename_i n B;obtain⟨C,D,x,E,y,s,e,l,_,o⟩:=Dt h a;obtain⟨j,q,d,r,v,u,m,p⟩:=Avw l o y (a5 i e.n) (by rw[e.μ w i];exact z);exact⟨j,q,d,r,v,u.trans s,e.trans m,p⟩
  grind
def Aap(c:Cf Y)(t:TypeId)(a:AV Y)(k:AV Y->Cf Y->Prop):Prop:=match a with
 | .hp w b o=>opA c t w b (k (.hp w b o))
 | .ptr _ _=>adA c 0 (Y.ok t) (λa c=>match a with
  | .hp w b o=>opA c t w b (k (.hp w b o))
  |_=>False) a
 |a=>k a c
theorem Pm(h:RG g0 T c f g AH A){t:TypeId}{k:AV Y->Cf Y->Prop}(i:Aap c t a k)(l:AR g a v):∃a' c' g' AH' A',k a' c'/\g'.w=g.w/\Le g g'/\RG g0 T c' f g' AH' A'/\AR g' a' v:=by
 unfold Aap at i;split at i
 .obtain⟨u,B,e,q,r,m,j,p⟩:=Amf h i l.1 l.2.1;exact⟨_,u,B,e,q,r,m,j,p,l.mono j⟩
 .obtain⟨b,o,d,u,z,s,n,y⟩:=Aex h i l;split at s
  .obtain⟨x,w,e,q,r,m,j,p⟩:=Amf y s n.1 n.2.1;refine⟨_,x,w,e,q,r,m,j,p,?_⟩;rw[z];exact n.mono j
  grind
 .exact⟨a,c,g,AH,A,i,rfl,Le.refl _,h,l⟩
theorem RQ{I:Cc}{w:World}{H:HH Y}{x:Obj}(h:Hu (P8 Y) I w H AH)(s:St I w ((b,x)::(AH++T))):H b=none:=by obtain⟨L,f,d⟩:=h.ex;rw[<-f b];refine d.fresh λp c e=>?_;have a:=s.nodup;grind
def Amv(c:Cf Y)(n:Nat)(cs:List (AV Y))(k:AV Y->Cf Y->Prop):Prop:=match c.op with
 |none=>∀b,c.H b=none->k (.hp c.nx b 0) {c with sg:=(c.nx,.blk cs)::c.sg,nx:=c.nx+1,op:=some ⟨c.nx,b,n,none⟩,hs:=⟨c.nx,b,some n⟩::c.hs}
 |some _=>False
theorem Aq7(h:RG g0 T c f g AH A){n:Nat}{cs:List (AV Y)}{vs:Array Value}{e:TypeId}{k:AV Y->Cf Y->Prop}(l:Amv c n cs k)(w:F2 (λa v=>AR g a v/\v.oneCell'=true) cs vs.toList):∃a c' g' A',k a c'/\Le g g'/\g'.w=g.w.alloc (.cells vs e)/\RG g0 T c' f g' AH A'/\AR g' a (.pointer (some ⟨g.w.heap.size,0,none⟩)):=by
 unfold Amv at l;split at l
 .rename_i m;obtain⟨p,q⟩:=h.st.alloc (.cells vs e);have i:=Le.new (g:=g) (v:=.pointer (some ⟨g.w.heap.size,0,none⟩)) p;have t:=h.hr;rw[m]at t;have j:=Hu.mono t p;have o:c.H g.w.heap.size=none:=RQ j q;have b:=h.new (s:=.blk cs) (v:=.pointer (some ⟨g.w.heap.size,0,none⟩)) p ⟨_,vs,e,rfl,g.BC _ _,w.mono λ_ _ r=>⟨r.1.mono i,r.2⟩⟩ q;obtain⟨L,u,y⟩:=j.ex;refine⟨_,_,g.new (g.w.alloc (.cells vs e)) (.pointer (some ⟨g.w.heap.size,0,none⟩)),_,l _ o,i,rfl,⟨b.n,b.le,b.st,⟨⟨L,λc _=>u c,y⟩,λx d=>(by cases d),?_,?_⟩,b.sg,?_,b.pt,b.fr⟩,?_⟩
  .rw[<-h.n];exact a4 _
  .rw[<-h.n];exact g.BC _ _
  .intro x d;rcases al.1 d with rfl|d
   .rw[<-h.n];exact⟨a4 _,g.BC _ _⟩
   .exact b.hs x d
  .rw[<-h.n];exact⟨a4 _,g.BC _ _,rfl⟩
 grind
end
end
section
section
variable {Y:Sys}
def OU(g0:B4)(T:Bd)(f:Fr)(w:World)(op:Op)(k:AV Y->Cf Y->Prop)(g:B4):Prop:=∀(N:Nat)(ops:Array Oper)(R:List PanicEntry->World->Prop)(K:Fr->World->Prop)(os:List Oper)(dst:Option Tmp)(ty:TypeId)(pos:String)(af:Array Edge),(∀v a c' g' AH' A',Le g g'->RG g0 T c' f g' AH' A'->AR g' a v->k a c'->WL Y.P N ops R false K os (X.put N f dst v) g'.w)->WL Y.P N ops R false K (⟨dst,op,ty,pos,af,none⟩::os) f w
def Cf.Eu(c:Cf Y):Cf Y:={c with op:=match c.op with|none=>none|some o=>some ⟨o.i,o.b,o.n,none⟩}
variable {g0 g:B4} {T AH A:Bd} {c:Cf Y} {f:Fr}
theorem RG.Eu(h:RG g0 T c f g AH A):RG g0 T c.Eu f g AH A:=by
 refine⟨h.n,h.le,h.st,?_,h.sg,h.hs,h.pt,h.fr⟩;have:=h.hr;show HR g c.H c.sg AH (match c.op with|none=>none|some o=>some ⟨o.i,o.b,o.n,none⟩);cases a:c.op with
 |none=>grind
 |some o=>rw[a]at this;exact⟨this.1,(λx b=>by cases b),this.2.2⟩
variable {b n:Nat} {e t:TypeId}
theorem storeCells{P:Program}{I:Cc}{w:World}{o:Nat}{cs:Array Value}{y:Value}{agg:Bool}(i:OZ P t agg n=true)(hs:St I w ([(b,.cells cs e (0,0))]++T))(f:y.cells.size=n)(h:∀v∈y.cells.toList,v.oneCell'=true)(l:o+n<=cs.size):∃w' row,(Instr.storeAt t (.pointer (some ⟨b,o,none⟩)) y).run P w=.ok () w'/\Ext I w I w'/\St I w' ([(b,.cells row e (0,0))]++T)/\row.toList=cs.toList.take o++(y.cells.toList++cs.toList.drop (o+n)):=by
 have a:=run_storeCells_at P b o e y.cells.toList 0 cs w hs.heap (by grind) h;simp only[ao]at a;generalize d:(bg o cs.toList++y.cells.toList++bp (o+y.cells.toList.length) cs.toList).toArray=row at a;obtain⟨k,g⟩:=hs.write (w':=w.setRow b row) rfl rfl rfl (by simp) (setRow_heap w b cs _ e _ hs.heap) (λc j=>setRow_other w b c _ j);refine⟨_,row,?_,k,g,?_⟩
 .simp [Instr.storeAt,Instr.sureAddr,storeVar,(GB (w:=w) i).2,f,a]
 grind
def stB(c:Cf Y)(i:Nat)(cs:List (AV Y))(o:Nat)(t:TypeId)(a:AV Y)(k:Cf Y->Prop):Prop:=match Y.ty t with
 |some (.u n)=>match Up a (Y.sig n) with
  |some l=>EZ (OZ Y.P t true (Y.sig n).length&&an l.length (Y.sig n).length&&bk (o+(Y.sig n).length) cs.length&&l.all λx=>x.t.leaf)
   (k {c.Eu with sg:=(i,.blk (cs.take o++(l.map (λx=>AV.dat x.t x.x)++cs.drop (o+(Y.sig n).length))))::FP c.sg i})
  |none=>False
 |_=>EZ (OZ Y.P t false 1&&Ai3 c a&&bt o cs.length) (k {c.Eu with sg:=(i,.blk (cs.take o++([a]++cs.drop (o+1))))::FP c.sg i})
variable {cs:List (AV Y)} {a:AV Y} {x y:Operand} {kk:AV Y->Cf Y->Prop}
theorem Alb(h:RG g0 T c f g AH A){i o:Nat}(hs:Ie c.sg i=some (.blk cs))(m:stB c i cs o t a λc'=>kk (.val undef) c')(hi:g.μ i=.pointer (some ⟨b,0,none⟩))(hx:ev f x=.pointer (some ⟨b,o,none⟩))(W:AR g a (ev f y)):OU g0 T f g.w (.store t x y) kk g:=by
 intro N V R K os dst ty pos af H;obtain⟨A1,A2,⟨b',Q,e,rfl,I,D⟩,hin,E,P⟩:=h.Eu.DG (s:=.blk cs) hs;rw[hi]at I;cases I;have F:∀{u:World}{j:Array Value}{q:List (AV Y)},(Instr.storeAt t (.pointer (some ⟨b,o,none⟩)) (ev f y)).run Y.P g.w=.ok () u->Ext g.I g.w g.I u->St g.I u ([(b,.cells j e (0,0))]++(AH++(A2++T)))->
   (∀S,Le g S->F2 (λa v=>AR S a v/\v.oneCell'=true) q j.toList)->kk (.val undef) {c.Eu with sg:=(i,.blk q)::FP c.sg i}->WL Y.P N V R false K (⟨dst,.store t x y,ty,pos,af,none⟩::os) f g.w:=λ{u j q}L M O J h5=>by
  have p:Le g {g with w:=u}:=⟨M,a3 _,λ_ _=>rfl,rfl⟩
  have:=H undef (.val undef) _ {g with w:=u} AH ([(b,.cells j e (0,0))]++A2) p (P (.blk q) [(b,.cells j e (0,0))] {g with w:=u} p rfl ⟨b,j,e,rfl,hi,J _ p⟩ O) rfl h5
  simp_all[MH,execOp]
 unfold stB at m;split at m
 .rename_i n hn;split at m
  .rename_i l hl;obtain⟨G,m⟩:=AG m;simp only[a1,bj,aw]at G;obtain⟨⟨⟨X,hlen⟩,p⟩,B⟩:=G;have z:=Vs hl W;have d:=Abk z B;have U:(ev f y).cells.size=(Y.sig n).length:=by have:=z.len;grind
   have Z:cs.length=Q.size:=by have:=D.len;omega
   obtain⟨u,j,L,M,O,J⟩:=storeCells (o:=o) X E U d (by omega);refine F L M O (λS k=>?_) m;rw[J];refine((D.take o).mono λ_ _ r=>⟨r.1.mono k,r.2⟩).app (.app ?_ ((D.drop _).mono λ_ _ r=>⟨r.1.mono k,r.2⟩));refine Aph (Apj (Ahu z) λv hv a r=>⟨?_,d v hv⟩);exact(show AR g (.dat a.t a.x) v from r).mono k
  grind
 .obtain⟨G,m⟩:=AG m;simp only[a1,Nat.blt_eq]at G;obtain⟨⟨X,d⟩,hlt⟩:=G;have d:=Af6 h d W;have Z:cs.length=Q.size:=by have:=D.len;omega
  have C:(ev f y).cells=#[ev f y]:=by generalize ev f y=v at d;cases v<;>first|rfl|grind[Value.oneCell']
  obtain⟨u,j,L,M,O,J⟩:=storeCells (o:=o) (n:=1) X E (by rw[C];rfl) (by grind) (by omega);refine F L M O (λS k=>?_) m;rw[J,C];exact((D.take o).mono λ_ _ r=>⟨r.1.mono k,r.2⟩).app (.app (.cons ⟨W.mono k,d⟩ .nil) ((D.drop _).mono λ_ _ r=>⟨r.1.mono k,r.2⟩))
def stE(c:Cf Y)(i:Nat)(T:Ty)(j:Nat)(T':Ty)(xs:List (den Y.D T'))(t:TypeId)(a:AV Y)(k:Cf Y->Prop):Prop:=match Ty.dec T T' with
 | .isTrue _=>match Ug T' a with
  |some d=>EZ (OZ Y.P t (isU T') (sz Y.toUS T')) (j<xs.length/\k {c.Eu with sg:=(i,.sl T' (xs.set j d))::FP c.sg i})
  |none=>False
 | .isFalse _=>False
theorem Au4{T0:Bd}(h:RG g0 T0 c f g AH A){i j off len cap:Nat}{T T':Ty}{xs:List (den Y.D T')}(hs:Ie c.sg i=some (.sl T' xs))(k:stE c i T j T' xs t a λc'=>kk (.val undef) c')(hi:g.μ i=.slice (some ⟨b,off,none⟩) len cap)(J:ev f x=.pointer (some ⟨b,off+j*sz Y.toUS T+0,none⟩))(z:AR g a (ev f y)):OU g0 T0 f g.w (.store t x y) kk g:=by
 intro N L R K Q D P v U m;obtain⟨S,F,C,G,o,n⟩:=h.Eu.DG (s:=.sl T' xs) hs;unfold stE at k;split at k
 .rename_i e _;subst e;split at k
  .rename_i d O;obtain⟨H,E,k⟩:=AG k;have q:At (g.μ i) (sz Y.toUS T) j ⟨b,off+j*sz Y.toUS T+0,none⟩:=⟨b,off,_,_,hi,rfl⟩
   letI:AP (den Y.D T):=RT Y.toUS T
   obtain⟨u,p,r,M,I,B⟩:=Ah6 (α:=den Y.D T) C o q E (Dh O z) H;have l:Le g {g with w:=p}:=⟨M,a3 _,λ_ _=>rfl,rfl⟩
   have:=m undef (.val undef) _ {g with w:=p} AH (u++F) l (n (.sl T (xs.set j d)) u {g with w:=p} l rfl B I) rfl k;simp_all[ao,MH,execOp]
  grind
 grind
def stX(c:Cf Y)(t:TypeId)(p a:AV Y)(k:Cf Y->Prop):Prop:=match p with
 | .adr i o=>match Ie c.sg i with
  |some (.blk cs)=>stB c i cs o t a k
  |_=>False
 | .hp i _ o=>match Ie c.sg i with
  |some (.blk cs)=>stB c i cs o t a k
  |_=>False
 | .el i T j 0=>match Ie c.sg i with
  |some (.sl T' xs)=>stE c i T j T' xs t a k
  |_=>False
 |_=>False
theorem Ala(h:RG g0 T c f g AH A){p:AV Y}(d:stX c t p a λc'=>kk (.val undef) c')(i:AR g p (ev f x))(l:AR g a (ev f y)):OU g0 T f g.w (.store t x y) kk g:=by
 unfold stX at d;split at d
 .split at d
  .rename_i m e;obtain⟨_,b,j,k⟩:=i;grind[Alb]
  grind
 .split at d
  .rename_i m e;exact Alb h e d i.2.1 i.2.2 l
  grind
 .split at d
  .rename_i s r e;obtain⟨_,b,o,n,q,j,k⟩:=i;grind[Au4]
  grind
 grind
variable {k:AV Y->Cf Y->Prop}
theorem Amw(h:RG g0 T c f g AH A){op:Op}{vs:Array Value}(q:F2 (λa v=>AR g a v/\v.oneCell'=true) cs vs.toList)(o:∀(dst:Option Tmp)(ty:TypeId)(b:String)(j:Array Edge),(execOp (ev f) ⟨dst,op,ty,b,j,none⟩).run Y.P g.w=.ok (.value (.pointer (some ⟨g.w.heap.size,0,none⟩))) (g.w.alloc (.cells vs e)))(p:k (.adr c.nx 0) {c with sg:=(c.nx,.blk cs)::c.sg,nx:=c.nx+1}):OU g0 T f g.w op k g:=by
 intro N m R K s dst ty b j i;obtain⟨l,n⟩:=h.st.alloc (.cells vs e);have d:=Le.new (g:=g) (v:=.pointer (some ⟨g.w.heap.size,0,none⟩)) l;refine Aw (o dst ty b j) (i _ (.adr c.nx 0) _ (g.new (g.w.alloc (.cells vs e)) (.pointer (some ⟨g.w.heap.size,0,none⟩))) AH _ d (h.new l ?_ n) ?_ p)
 .exact⟨_,vs,e,rfl,g.BC _ _,q.mono λ_ _ r=>⟨r.1.mono d,r.2⟩⟩
 .rw[<-h.n];exact⟨a4 _,_,g.BC _ _,rfl⟩
theorem Afv(dst:Option Tmp)(ty:TypeId)(a:String)(b:Array Edge):(execOp (ev f) ⟨dst,.box e x,ty,a,b,none⟩).run Y.P g.w=.ok (.value (.pointer (some ⟨g.w.heap.size,0,none⟩))) (g.w.alloc (.cells (ev f x).cells e)):=by rfl
def Aye(c:Cf Y)(pr:Option Nat)(a:AV Y)(k:AV Y->Cf Y->Prop):Prop:=match Z6 c a with
 |some cs=>match pr with
  |none=>k (.adr c.nx 0) {c with sg:=(c.nx,.blk cs)::c.sg,nx:=c.nx+1}
  |some n=>Amv c n cs k
 |none=>False
theorem newObj(h:RG g0 T c f g AH A){op:Op}{vs:Array Value}(w:F2 (λa v=>AR g a v/\v.oneCell'=true) cs vs.toList)(r:∀(dst:Option Tmp)(ty:TypeId)(b:String)(i:Array Edge),(execOp (ev f) ⟨dst,op,ty,b,i,none⟩).run Y.P g.w=.ok (.value (.pointer (some ⟨g.w.heap.size,0,none⟩))) (g.w.alloc (.cells vs e)))(s:Amv c n cs k):OU g0 T f g.w op k g:=by intro N o R K y dst ty b i d;obtain⟨a,l,x,m,j,p,q,u,t⟩:=Aq7 (e:=e) h s w;grind[Aw]
variable {pr:Option Nat}
theorem Asv(h:RG g0 T c f g AH A)(b:Aye c pr a k)(j:AR g a (ev f x)):OU g0 T f g.w (.box e x) k g:=by
 unfold Aye at b;split at b
 .rename_i l d;have i:=Yd h d j;split at b
  .exact Amw h i Afv b
  .exact newObj h i Afv b
 grind
def zro(P:Program)(t:TypeId):Option Value:=(P.info? t).bind (·.zero)
def Azd(x:Lf Y.D)(v:Value):AV Y:=match x with
 |⟨.sl _,_⟩=>.val v
 |x=>.dat x.t x.x
def Aui:List (Lf Y.D)->List Value->List (AV Y)
 |x::l,v::vs=>Azd x v::Aui l vs
 |_,_=>[]
theorem Ae8{g:B4}:∀{l:List (Lf Y.D)}{vs:List Value},F2 (λc(l:Lf Y.D)=>rp Y.toUS l.t g.I g.w c l.x) vs l->vs.all (·.oneCell')=true->F2 (λa v=>AR g a v/\v.oneCell'=true) (Aui l vs) vs
 | [],[],_,_=>.nil
 |x::l,v::vs,.cons d e,b=>by
  simp only[bm,a1]at b;refine .cons ⟨?_,b.1⟩ (Ae8 e b.2);unfold Azd;split
  .rfl
  .exact d
def Auh(e:TypeId)(z:Value):Option (List (AV Y)):=match z.cells.toList.all (·.oneCell') with
 |true=>match Y.ty e with
  |some (.u n)=>match KO (Y:=Y) (Y.sig n) z.cells.toList with
   |some l=>some (Aui l z.cells.toList)
   |none=>none
  |_=>some (Ap7 z.cells.toList)
 |false=>none
theorem Ae7{z:Value}(h:Auh e z=some cs):F2 (λa v=>AR g a v/\v.oneCell'=true) cs z.cells.toList:=by
 unfold Auh at h;split at h
 .rename_i b;split at h
  .split at h
   .rename_i l c;cases h;exact Ae8 (Ls (I:=g.I) (w:=g.w) c) b
   grind
  .cases h;exact Uk b
 grind
def As3(c:Cf Y)(pr:Option Nat)(e:TypeId)(k:AV Y->Cf Y->Prop):Prop:=match zro Y.P e with
 |some z=>match Auh (Y:=Y) e z with
  |some cs=>match pr with
   |none=>k (.adr c.nx 0) {c with sg:=(c.nx,.blk cs)::c.sg,nx:=c.nx+1}
   |some n=>Amv c n cs k
  |none=>False
 |none=>False
theorem Aho(h:RG g0 T c f g AH A)(a:As3 c pr e k):OU g0 T f g.w (.alloc e) k g:=by
 unfold As3 at a;split at a
 .rename_i z m;have run:∀(d:Option Tmp)(p:TypeId)(b:String)(o:Array Edge),(execOp (ev f) ⟨d,.alloc e,p,b,o,none⟩).run Y.P g.w=.ok (.value (.pointer (some ⟨g.w.heap.size,0,none⟩))) (g.w.alloc (.cells z.cells e)):=λd p b o=>by
   unfold zro at m;cases n:Y.P.info? e with
   |none=>grind
   |some i=>
    simp only[n,ae]at m;simp_all[execOp,Instr.alloc,newVar,newRow,zeroValue,typeInfo]
  split at a
  .rename_i q j;split at a
   .exact Amw h (Ae7 j) run a
   .exact newObj h (Ae7 j) run a
  grind
 grind
def OQ:List Value->Bool
 | []=>true
 | .bool false::l=>OQ l
 |_::_=>false
theorem TO:∀{l:List Value},OQ l=true->∀j(h:j<l.length),l[j]=.bool false
 | [],_,j,h=>qG h (Nat.not_lt_zero _)
 |v::l,a,0,_=>by grind[OQ]
 |v::l,a,j+1,h=>by
  unfold OQ at a;split at a
  .rename_i e;cases e
  .rename_i e;cases e;exact TO a j (Nat.lt_of_succ_lt_succ h)
  .cases a
def arX(P:Program)(e:TypeId):Option (Nat×Value):=match P.underlying e with
 |some (.array n _)=>match zro P e with
  |some z=>match OQ z.cells.toList&&an z.cells.size n&&bk n 1000 with
   |true=>some (n,z)
   |false=>none
  |none=>none
 |_=>none
theorem Ayl{P:Program}{z:Value}(h:arX P e=some (n,z)):zro P e=some z/\z.cells.size=n/\n<=1000/\∀j(h:j<z.cells.toList.length),z.cells.toList[j]=.bool false:=by
 unfold arX at h;split at h
 .split at h
  .rename_i z' hz;split at h
   .rename_i hb;cases h;simp only[a1]at hb;exact⟨hz,a7 hb.1.2,bc hb.2,TO hb.1.1⟩
   grind
  grind
 grind
def Ayo(c:Cf Y)(pr:Option Nat)(e:TypeId)(k:AV Y->Cf Y->Prop):Prop:=match pr with
 |none=>match arX Y.P e with
  |some (n,_)=>k (.el c.nx .bool 0 0) {c with sg:=(c.nx,.sl .bool (ax n false))::c.sg,nx:=c.nx+1}
  |none=>As3 c none e k
 |some n=>As3 c (some n) e k
theorem As2(h:RG g0 T c f g AH A)(l:Ayo c pr e k):OU g0 T f g.w (.alloc e) k g:=by
 unfold Ayo at l;split at l
 .split at l
  .rename_i n z m;obtain⟨m,D,B,q⟩:=Ayl m;have run:∀(b:Option Tmp)(s:TypeId)(a:String)(t:Array Edge),(execOp (ev f) ⟨b,.alloc e,s,a,t,none⟩).run Y.P g.w=.ok (.value (.pointer (some ⟨g.w.heap.size,0,none⟩))) (g.w.alloc (.cells z.cells e)):=λb s a t=>by
    unfold zro at m;cases d:Y.P.info? e with
    |none=>grind
    |some i=>
     simp only[d,ae]at m;simp_all[execOp,Instr.alloc,newVar,newRow,zeroValue,typeInfo]
   intro N y R K E b s a t p;obtain⟨x,C⟩:=h.st.alloc (.cells z.cells e);have r:=Le.new (g:=g) (v:=.slice (some ⟨g.w.heap.size,0,none⟩) n n) x;refine Aw (run b s a t) (p _ (.el c.nx .bool 0 0) _ (g.new (g.w.alloc (.cells z.cells e)) (.slice (some ⟨g.w.heap.size,0,none⟩) n n)) AH _ r (h.new x ?_ C) ?_ l)
   .show Nz Y .bool _ _ _ _ _;rw[g.BC];letI:AP (den Y.D .bool):=RT Y.toUS .bool
    refine Bx.Td (α:=den Y.D .bool) (by simp) (by simp) (by grind[maxLen]) ?_ ?_
    .show n*1<=_;omega
    .intro j w;rw[bf]at w;refine⟨.bool false,?_,λi d=>?_⟩
     .rw[List.getElem_replicate];exact GN.2 rfl
     .have d:i<1:=d;have o:j<z.cells.toList.length:=by grind
      show z.cells[j*1+i]?=_;rw[show j*1+i=j by omega,<-a9,List.getElem?_eq_getElem o,q j o,show i=0 by omega];rfl
   .rw[<-h.n];exact⟨a4 _,_,0,_,_,g.BC _ _,by simp⟩
  grind[Aho]
 grind[Aho]
end
end
section
section
variable {Y:Sys}
def QB(P:Program)(t:TypeId):Option (TypeId×TypeId):=match P.underlying t with
 |some (.map k e)=>some (k,e)
 |_=>none
variable {t:TypeId}
theorem Zf{P:Program}{p:TypeId×TypeId}(h:QB P t=some p):P.underlying t=some (.map p.1 p.2):=by grind[QB]
theorem Ze{kt et:TypeId}{k e:Ty}(h:QB Y.P t=some (kt,et))(a:Y.km kt k=true):@Acq Y.P t kt et (den Y.D k) (den Y.D e) (RT Y.toUS k) (RT Y.toUS e) (HI Y k):=@Acq.mk Y.P t kt et (den Y.D k) (den Y.D e) (RT Y.toUS k) (RT Y.toUS e) (HI Y k) (Zf h) (Y.Ang kt k a)
def Apx(t:TypeId)(T:Ty):Option (den Y.D T):=match zro Y.P t with
 |some z=>Tq T z
 |none=>none
theorem Ae9{T:Ty}{x:den Y.D T}(h:Apx t T=some x)(I:Cc)(w:World):∃z,(zeroValue t).run Y.P w=.ok z w/\rp Y.toUS T I w z x:=by
 unfold Apx at h;split at h
 .rename_i z a;refine⟨z,?_,P3 h⟩;unfold zro at a;cases b:Y.P.info? t with
  |none=>grind
  |some i=>
   simp_all[ae,zeroValue,typeInfo]
 grind
def luX(c:Cf Y)(t:TypeId)(x y:Operand)(ok:Bool)(K:AV Y->Cf Y->Prop):Prop:=match QB Y.P t,En c x,En c y with
 |some (kt,et),some (.own i),some b=>match Ie c.sg i with
  |some (.mp k e m)=>match Ug k b,Apx (Y:=Y) et e with
   |some kd,some zd=>EZ (Y.km kt k) (match ok with
    |false=>K (.dat e ((@Ad _ _ (HI Y k) m kd).getD zd)) c
    |true=>K (.own c.nx) {c with sg:=(c.nx,.tp [.dat e ((@Ad _ _ (HI Y k) m kd).getD zd),.prp ((@Ad _ _ (HI Y k) m kd).isSome=true) inferInstance])::c.sg,nx:=c.nx+1})
   |_,_=>False
  |_=>False
 |_,_,_=>False
variable {g0 g:B4} {T AH A:Bd} {c:Cf Y} {f:Fr} {x y:Operand} {K:AV Y->Cf Y->Prop}
theorem Aws(h:RG g0 T c f g AH A){ok:Bool}(a:luX c t x y ok K):OU g0 T f g.w (.lookup t x y ok) K g:=by
 intro N S R X V P U I af d;unfold luX at a;split at a
 .rename_i W Z i b J Q E;split at a
  .rename_i k e m H;split at a
   .rename_i j G C M;obtain⟨v,a⟩:=AG a;have F:=Ze (e:=e) J v;obtain⟨A1,A2,D,O,l,_⟩:=h.DG H;obtain⟨z,n,o⟩:=Ae9 M g.I g.w;have B:=(h.ev Q).2;letI:AP (den Y.D k):=RT Y.toUS k
    letI:AP (den Y.D e):=RT Y.toUS e
    letI:DecidableEq (den Y.D k):=HI Y k
    split at a
    .exact Vf F D l B rfl (Dh C (h.ev E)) n o λu r=>d u (.dat e ((Ad m j).getD G)) c g AH A (Le.refl _) h r a
    .refine Ve F D l B rfl (Dh C (h.ev E)) n o λu r=>?_;generalize w:Value.tuple #[u,.bool (Ad m j).isSome]=q;have p:Le g (g.new g.w q):=Le.new (Ext.refl _ _);refine d q (.own c.nx) _ (g.new g.w q) AH A p (h.new (A1:=[]) (s:=.tp [.dat e ((Ad m j).getD G),.prp ((Ad m j).isSome=true) inferInstance]) (Ext.refl _ _) ⟨rfl,[u,.bool (Ad m j).isSome],(g.BC _ _).trans w.symm,.cons (show rp Y.toUS e _ _ u _ from EH p.ext r) (.cons ?_ .nil)⟩ (by simpa using h.st)) ?_ a
     .show Value.bool _=Value.bool _;cases L:(Ad m j).isSome<;>simp
     .rw[<-h.n];exact⟨a4 _,(g.BC _ _).symm⟩
   grind
  grind
 grind
def mkM(c:Cf Y)(t:TypeId)(K:AV Y->Cf Y->Prop):Prop:=match QB Y.P t with
 |some (kt,et)=>match Y.ty kt,Y.ty et with
  |some k,some e=>K (.own c.nx) {c with sg:=(c.nx,.mp k e [])::c.sg,nx:=c.nx+1}
  |_,_=>False
 |none=>False
theorem Awp(h:RG g0 T c f g AH A)(a:mkM c t K):OU g0 T f g.w (.makeMap t none) K g:=by
 intro N n R z y p u q w b;unfold mkM at a;split at a
 .split at a
  .rename_i k e r x;letI:AP (den Y.D k):=RT Y.toUS k
   letI:AP (den Y.D e):=RT Y.toUS e
   refine X4 (den Y.D k) (den Y.D e) h.st λv l d j m o=>?_;have i:Le g (g.new d v):=Le.new j;refine b v (.own c.nx) _ (g.new d v) AH (l++A) i (h.new (s:=.mp k e []) j ?_ m) ?_ a
   .show Ws Y k e _ _ l ((g.new d v).μ g.n) [];rw[g.BC];exact o
   .rw[<-h.n];exact⟨a4 _,(g.BC _ _).symm⟩
  grind
 grind
def upM(c:Cf Y)(t:TypeId)(x y z:Operand)(K:AV Y->Cf Y->Prop):Prop:=match QB Y.P t,En c x,En c y,En c z with
 |some (kt,_),some (.own i),some b,some d=>match Ie c.sg i with
  |some (.mp k e m)=>match Ug k b,Ug e d with
   |some kd,some ed=>EZ (Y.km kt k) (K (.val undef) {c.Eu with sg:=(i,.mp k e (@BR _ _ (HI Y k) m kd ed))::FP c.sg i})
   |_,_=>False
  |_=>False
 |_,_,_,_=>False
theorem Akt(h:RG g0 T c f g AH A){z:Operand}(a:upM c t x y z K):OU g0 T f g.w (.mapUpdate t x y z) K g:=by
 intro N B R Kw os O Z W af j;unfold upM at a;split at a
 .rename_i kt X i b d J G H F;split at a
  .rename_i k e m E;split at a
   .rename_i L I U V;obtain⟨r,a⟩:=AG a;have S:=Ze (e:=e) J r;obtain⟨A1,P,C,Q,o,n⟩:=h.Eu.DG (s:=.mp k e m) E;have D:=(h.ev G).2;letI:AP (den Y.D k):=RT Y.toUS k
    letI:AP (den Y.D e):=RT Y.toUS e
    letI:DecidableEq (den Y.D k):=HI Y k
    refine Aaz S C o D rfl rfl (Dh U (h.ev H)) (Dh V (h.ev F)) λu p M v q=>?_;have l:Le g {g with w:=p}:=⟨M,a3 _,λ_ _=>rfl,rfl⟩
    exact j undef (.val undef) _ {g with w:=p} AH (u++P) l (n (.mp k e (BR m L I)) u {g with w:=p} l rfl q v) rfl a
   grind
  grind
 grind
def dlM(c:Cf Y)(t:TypeId)(x y:Operand)(K:AV Y->Cf Y->Prop):Prop:=match QB Y.P t,En c x,En c y with
 |some (kt,_),some (.own i),some b=>match Ie c.sg i with
  |some (.mp k e m)=>match Ug k b with
   |some kd=>EZ (Y.km kt k) (K (.val (.tuple #[])) {c.Eu with sg:=(i,.mp k e (@Db _ _ (HI Y k) m kd))::FP c.sg i})
   |_=>False
  |_=>False
 |_,_,_=>False
theorem Axw(h:RG g0 T c f g AH A){at_:Array TypeId}(o:at_[0]?=some t)(a:dlM c t x y K):OU g0 T f g.w (.call ⟨.builtin .delete,#[x,y],at_⟩) K g:=by
 intro N H R Z os z U O V j;unfold dlM at a;split at a
 .rename_i W S i b F D E;split at a
  .rename_i k e m C;split at a
   .rename_i G I;obtain⟨q,a⟩:=AG a;have P:=Ze (e:=e) F q;obtain⟨X,J,Q,L,r,l⟩:=h.Eu.DG (s:=.mp k e m) C;have B:=(h.ev D).2;letI:AP (den Y.D k):=RT Y.toUS k
    letI:AP (den Y.D e):=RT Y.toUS e
    letI:DecidableEq (den Y.D k):=HI Y k
    refine Aa0 P Q r B rfl (Dh I (h.ev E)) o λu p M v n=>?_;have d:Le g {g with w:=p}:=⟨M,a3 _,λ_ _=>rfl,rfl⟩
    exact j _ (.val (.tuple #[])) _ {g with w:=p} AH (u++J) d (l (.mp k e (Db m G)) u {g with w:=p} d rfl n v) rfl a
   grind
  grind
 grind
def A36(c:Cf Y)(x:Operand):Bool:=match En c x with
 |some (.own i)=>match Ie c.sg i with
  |some (.mp _ _ _)=>true
  |_=>false
 |_=>false
def lnM(c:Cf Y)(t:TypeId)(x:Operand)(K:AV Y->Cf Y->Prop):Prop:=match QB Y.P t,En c x with
 |some (kt,_),some (.own i)=>match Ie c.sg i with
  |some (.mp k _ m)=>EZ (Y.km kt k) (m.length<=9223372036854775807/\K (.nat m.length) c)
  |_=>False
 |_,_=>False
theorem Awv(h:RG g0 T c f g AH A){at_:Array TypeId}(l:at_[0]?=some t)(a:lnM c t x K):OU g0 T f g.w (.call ⟨.builtin .len,#[x],at_⟩) K g:=by
 intro N o R C B u F q E b;unfold lnM at a;split at a
 .rename_i D I i p r;split at a
  .rename_i k e m v;obtain⟨d,w,a⟩:=AG a;have s:=Ze (e:=e) p d;obtain⟨H,G,n,z,j,_⟩:=h.DG v;have y:=(h.ev r).2;letI:AP (den Y.D k):=RT Y.toUS k
   letI:AP (den Y.D e):=RT Y.toUS e
   letI:DecidableEq (den Y.D k):=HI Y k
   exact Amn n j y s l (b _ (.nat m.length) c g AH A (Le.refl _) h ⟨rfl,w⟩ a)
  grind
 grind
theorem OU.ins{w:World}{z:Operand}{k:AV Y->Cf Y->Prop}(h:OU g0 T f w (.mapUpdate t x y z) k g):OU g0 T f w (.insert t x y z) k g:=λN b R K e c i d j a=>h N b R K e c i d j a
end
end
section
section
variable {Y:Sys}
variable {g0 g:B4} {AH A:Bd} {c:Cf Y} {f:Fr} {v:Value}
theorem RG.Aal{T A2:Bd}(h:RG g0 T c f g AH A){sg':List (Nat×C4 Y)}(e:Fg g sg' A2){w':World}{s:C4 Y}{A1:Bd}(i:Ext g.I g.w g.I w')(hs:SR (g.new w' v) g.n s A1)(d:St g.I w' (A1++(AH++(A2++T)))):RG g0 T {c with sg:=(c.nx,s)::sg',nx:=c.nx+1} f (g.new w' v) AH (A1++A2):=by have b:=Le.new (v:=v) i;refine⟨by show g.n+1=c.nx+1;rw[h.n],h.le.trans b.ext,d.perm (F6 (aa _) AH).symm,h.hr.mono b,⟨A1,A2,rfl,by show c.nx<g.n+1;rw[h.n];omega,by rw[<-h.n];exact hs,e.mono b⟩,h.hs.mono b,b.pt h.pt,λj a k=>(h.fr j a k).mono b⟩
theorem FI{w:World}{n:Nat}(a:g.n=n):AR (Y:=Y) (g.new w v) (.own n) v:=by subst a;exact⟨a4 _,(g.BC _ _).symm⟩
def nwA(c:Cf Y)(T:Ty)(b:AV Y):Option (List (den Y.D T)):=match b with
 | .own j=>match Ie c.sg j with
  |some (.sl T' xs)=>match Ty.dec T' T with
   | .isTrue h=>some (h▸xs)
   | .isFalse _=>none
  |_=>none
 |b=>Ug (.sl T) b
variable {T0:Bd}
theorem Amr(h:RG g0 T0 c f g AH A){T:Ty}{b:AV Y}{ys:List (den Y.D T)}(a:nwA c T b=some ys)(i:AR g b v):@Nws _ (RT Y.toUS T) g.I g.w v ys:=by
 unfold nwA at a;split at a
 .split at a
  .rename_i m n k;split at a
   .rename_i e _;subst e;cases a;obtain⟨p,o,j,l,d,_⟩:=h.DG k;rw[i.2];exact @Nws.Av0 _ (RT Y.toUS m) _ _ _ _ _ _ j d
   grind
  grind
 .exact @Nws.Avz _ (RT Y.toUS T) _ _ _ _ (QD (Dh a i))
def Ayn(c:Cf Y)(t:TypeId)(x y:Operand)(k:AV Y->Cf Y->Prop):Prop:=match slI Y.P t,Y.ty t,En c x,En c y with
 |some (e,nb),some (.sl T),some a,some b=>match nwA c T b with
  |some ys=>EZ (Wn Y.P t e (sz Y.toUS T) nb&&bk 1 nb) (match a with
   | .own i=>match Ie c.sg i with
    |some (.sl T' xs)=>match Ty.dec T' T with
     | .isTrue h=>((xs.length+ys.length)*nb<=140737488355328/\k (.own c.nx) {c.Eu with sg:=(c.nx,.sl T ((h▸xs:List (den Y.D T))++ys))::FP c.sg i,nx:=c.nx+1})
     | .isFalse _=>False
    |_=>False
   | .val (.slice none 0 0)=>(ys.length*nb<=140737488355328/\k (.own c.nx) {c.Eu with sg:=(c.nx,.sl T ys)::c.sg,nx:=c.nx+1})
   |_=>False)
  |none=>False
 |_,_,_,_=>False
variable {t:TypeId} {k:AV Y->Cf Y->Prop}
theorem As1(h:RG g0 T0 c f g AH A){x y:Operand}(d:Ayn c t x y k):OU g0 T0 f g.w (.call ⟨.builtin .append,#[x,y],#[t,t]⟩) k g:=by
 intro N J R K V L Z I af j;unfold Ayn at d;split at d
 .rename_i e F T a b h1 h2 D Q;split at d
  .rename_i G u;obtain⟨q,d⟩:=AG d;simp only[a1,aw]at q;have m:@Nws _ (RT Y.toUS T) g.I g.w (ev f y) G:=Amr h u (h.ev Q);letI:AP (den Y.D T):=RT Y.toUS T
   have E:∀n,n*F<=140737488355328->n<=9223372036854775807:=λn W=>by have:=bi n q.2;omega
   split at d
   .rename_i i;split at d
    .rename_i C xs P;split at d
     .rename_i e _;subst e;obtain⟨p,d⟩:=d;obtain⟨A1,M,H,O,S,v⟩:=h.Eu.sg.take P;have z:=h.st.perm (F6 H AH);refine X6 (α:=den Y.D C) q.1 z S m (h.ev D).2 rfl p (E _ p) λl w s o r B=>?_;refine j l (.own c.nx) _ (g.new s l) AH (w++M) (Le.new o) (h.Eu.Aal v o ?_ r) (FI h.n) d;show Nz Y C _ _ _ _ _;rw[g.BC];exact B
     grind
    grind
   .obtain⟨p,d⟩:=d;have U:ev f x=.slice none 0 0:=h.ev D;refine X6 (α:=den Y.D T) (A:=[]) (xs:=[]) q.1 (by simpa using h.st) Bx.nil m U rfl (by grind) (by grind) λl w s o r B=>?_;refine j l (.own c.nx) _ (g.new s l) AH (w++A) (Le.new o) (h.Eu.Aal h.sg o ?_ r) (FI h.n) d;show Nz Y T _ _ _ _ _;rw[g.BC];exact B
   grind
  grind
 grind
def mkX(c:Cf Y)(t:TypeId)(x y:Operand)(k:AV Y->Cf Y->Prop):Prop:=match slI Y.P t,Y.ty t,En c x,En c y with
 |some (e,nb),some (.sl T),some a,some b=>match asInt a,asInt b,zro Y.P e with
  |some (.i64,n),some (.i64,m),some z=>match Tq (Y:=Y) T z with
   |some zd=>EZ (Wn Y.P t e (sz Y.toUS T) nb&&bk 1 nb) (Kv x a (Kv y b (match x with
    | .const (.int .i64 0)=>0<=m/\nb*m.toNat<=281474976710656/\k (.own c.nx) {c with sg:=(c.nx,.sl T [])::c.sg,nx:=c.nx+1}
    |_=>0<=n/\m=n/\n.toNat*nb<=281474976710656/\k (.own c.nx) {c with sg:=(c.nx,.sl T (ax n.toNat zd))::c.sg,nx:=c.nx+1})))
   |none=>False
  |_,_,_=>False
 |_,_,_,_=>False
theorem Awn(h:RG g0 T0 c f g AH A){x y:Operand}(d:mkX c t x y k):OU g0 T0 f g.w (.makeSlice t x y) k g:=by
 intro N Q R K W L ty P X i;unfold mkX at d;split at d
 .rename_i e nb T a b V Z H G;split at d
  .rename_i n m z O M J;split at d
   .rename_i zd r;obtain⟨o,d⟩:=AG d;simp only[a1,aw]at o;have d:=EM (h.ev G) (EM (h.ev H) d);letI:AP (den Y.D T):=RT Y.toUS T
    have S:=F9 O (h.ev H);have F:=F9 M (h.ev G);split at d
    .obtain⟨q,u,d⟩:=d;have j:m.toNat<=9223372036854775807:=by have:=a8 m.toNat o.2;omega
     refine Aq0 (α:=den Y.D T) (n:=m.toNat) o.1 h.st rfl F (aj q).symm j u λv D s l B E=>?_;refine i v (.own c.nx) _ (g.new s v) AH (D++A) (Le.new l) (h.Aal h.sg l ?_ B) (FI h.n) d;show Nz Y T _ _ _ _ _;rw[g.BC];exact E
    .obtain⟨p,C,u,d⟩:=d;have j:n.toNat<=9223372036854775807:=by have:=bi n.toNat o.2;omega
     refine Aqz (α:=den Y.D T) (n:=n.toNat) (zd:=zd) o.1 h.st S F (aj p).symm (C.trans (aj p).symm) J (λI w=>P3 r) u j λv D s l B E=>?_;refine i v (.own c.nx) _ (g.new s v) AH (D++A) (Le.new l) (h.Aal h.sg l ?_ B) (FI h.n) d;show Nz Y T _ _ _ _ _;rw[g.BC];exact E
   grind
  grind
 grind
def Ar6(c:Cf Y)(T:Ty):Nat->List (Nat×Operand)->Option (List (den Y.D T))
 |_,[]=>some []
 |n,(i,x)::l=>match an i n,(En c x).bind (Ug T),Ar6 c T (n+1) l with
  |true,some d,some m=>some (d::m)
  |_,_,_=>none
theorem Ag3{g0 g:B4}{T0 AH A:Bd}{c:Cf Y}{f:Fr}(h:RG g0 T0 c f g AH A){T:Ty}:∀{l:List (Nat×Operand)}{n:Nat}{m:List (den Y.D T)},Ar6 c T n l=some m->∃vs,(l.map λp=>(p.1,ev f p.2))=enum n vs/\@Aco _ (RT Y.toUS T) g.I g.w vs m
 | [],n,m,b=>by cases b;exact⟨[],rfl,trivial⟩
 |(i,x)::l,n,m,b=>by
  unfold Ar6 at b;split at b
  .rename_i d s q e k;cases b;obtain⟨vs,o,r⟩:=Ag3 h k;obtain rfl:i=n:=by simp_all
   cases j:En c x with
   |none=>grind
   |some a=>
    rw[j]at e;exact⟨ev f x::vs,by rw[b3,o];rfl,Dh e (h.ev j),r⟩
  grind
def Ayd(c:Cf Y)(t:TypeId)(n:Nat)(ps:Array (Nat×Operand))(k:AV Y->Cf Y->Prop):Prop:=match slI Y.P t,Y.ty t with
 |some (e,nb),some (.sl T)=>match Ar6 c T 0 ps.toList with
  |some xs=>EZ (Wn Y.P t e (sz Y.toUS T) nb&&bk (ps.toList.length*sz Y.toUS T) 16777216&&an ps.toList.length n) (k (.own c.nx) {c with sg:=(c.nx,.sl T xs)::c.sg,nx:=c.nx+1})
  |none=>False
 |_,_=>False
theorem Asu(h:RG g0 T0 c f g AH A){n:Nat}{ps:Array (Nat×Operand)}(a:Ayd c t n ps k):OU g0 T0 f g.w (.buildSlice t n ps) k g:=by
 intro N x R K F C D z G d;unfold Ayd at a;split at a
 .rename_i e J T E I;split at a
  .rename_i H l;obtain⟨j,a⟩:=AG a;simp only[a1,aw,bj]at j;obtain⟨b,p,o⟩:=Ag3 h l;letI:AP (den Y.D T):=RT Y.toUS T
   have m:=(Aco.get (α:=den Y.D T) o).1;have i:ps.toList.length=b.length:=by
    have:=congrArg List.length p;have r:∀(b:List Value)n,(enum n b).length=b.length:=by
     intro b;induction b with
     |nil=>intro n;rfl
     |cons v b s=>grind[enum]
    grind
   refine Amq (α:=den Y.D T) j.1.1 h.st p o (by rw[aw,<-m,<-i];exact j.1.2) (by omega) λv u y q w B=>?_;refine d v (.own c.nx) _ (g.new y v) AH (u++A) (Le.new q) (h.Aal h.sg q ?_ w) (FI h.n) a;show Nz Y T _ _ _ _ _;rw[g.BC];exact B
  grind
 grind
end
end
section
section
variable {Y:Sys}
def Q5(f:Fr)(o:Option Operand)(n d:Nat):Prop:=match o with
 |none=>n=d
 |some y=>∃kd,ev f y=.int kd (n:Int)
variable {P:Program} {w:World}
theorem Ge{kd:IntKind}{n y:Nat}{code:BoundsCode}(h:n<=y):(Instr.sliceBound (.int kd (n:Int)) y code).run P w=.ok n w:=by simp_all[Instr.sliceBound,asIntOf]
variable {f:Fr}
theorem TT{b:Bool}{len cap lo hi mx:Nat}{low high max:Option Operand}(h1:Q5 f low lo 0)(h2:Q5 f high hi len)(h3:Q5 f max mx cap)(h4:lo<=hi)(h5:hi<=mx)(h6:mx<=cap)(h7:high=none->max=none):(Instr.sliceBounds b len cap (low.map (ev f)) (high.map (ev f)) (max.map (ev f))).run P w=.ok (lo,hi,mx) w:=by
 cases max with
 |none=>
  have hm:mx=cap:=h3;subst hm;cases high with
  |none=>
   have hh:hi=len:=h2;subst hh;cases low with
   |none=>have hl:lo=0:=h1;subst hl;rfl
   |some y=>obtain⟨kd,hy⟩:=h1;simp_all[Instr.sliceBounds,Ge]
  |some z=>
   obtain⟨kz,hz⟩:=h2;cases low with
   |none=>have hl:lo=0:=h1;simp_all[Instr.sliceBounds,Ge]
   |some y=>obtain⟨kd,hy⟩:=h1;simp_all[Instr.sliceBounds,Ge]
 |some u=>
  obtain⟨ku,hu⟩:=h3;cases high with
  |none=>grind
  |some z=>
   obtain⟨kz,hz⟩:=h2;cases low with
   |none=>have hl:lo=0:=h1;simp_all[Instr.sliceBounds,Ge]
   |some y=>obtain⟨kd,hy⟩:=h1;simp_all[Instr.sliceBounds,Ge]
variable {x:Operand} {t:TypeId}
theorem OY{e ty:TypeId}{sz nb:Nat}{a:Option Addr}{len cap lo hi mx:Nat}{low high max:Option Operand}(i:Wn P t e sz nb=true)(m:ev f x=.slice a len cap)(k:Q5 f low lo 0)(n:Q5 f high hi len)(o:Q5 f max mx cap)(j:lo<=hi)(g:hi<=mx)(h:mx<=cap)(q:high=none->max=none):KR P f (.slice t x low high max) ty (.slice (if mx=lo then a else a.map (·.add (lo*sz))) (hi-lo) (mx-lo)) w:=λp l s r=>by
 have c:=EE i;have:=TT (P:=P) (w:=w) (b:=true) k n o j g h q;have d:(Instr.slice t (.slice a len cap) (low.map (ev f)) (high.map (ev f)) (max.map (ev f))).run P w=.ok (.slice (if mx=lo then a else a.map (·.add (lo*sz))) (hi-lo) (mx-lo)) w:=by simp only[Instr.slice,Sem.run_bind,run_underlying c.under,Result.andThen_ok,this,c.size,Sem.run_pure]
 simp only[execOp,Instr.sliceAt,m,Sem.run_bind,run_underlying c.under,Result.andThen_ok,d,Sem.run_pure]
def Ara(mx:Option Operand)(a b:Nat):Nat:=match mx with
 |none=>a
 |some _=>b
def Ace(c:Cf Y)(o:Option Operand)(d:Nat)(k:Nat->Prop):Prop:=match o with
 |none=>k d
 |some y=>match En c y with
  |some (.nat j)=>k j
  |some a=>match asInt a with
   |some (_,n)=>Kv y a (0<=n/\k n.toNat)
   |none=>False
  |none=>False
variable {g0 g:B4} {AH A:Bd} {c:Cf Y}
theorem P6{T:Bd}(h:RG g0 T c f g AH A){o:Option Operand}{d:Nat}{k:Nat->Prop}(b:Ace c o d k):∃n,Q5 f o n d/\k n:=by
 unfold Ace at b;split at b
 .exact⟨d,rfl,b⟩
 .split at b
  .rename_i y j e;exact⟨j,⟨_,(h.ev e).1⟩,b⟩
  .rename_i y _ a _ e;split at b
   .rename_i i n l;obtain⟨m,b⟩:=EM (h.ev e) b;exact⟨n.toNat,⟨i,by rw[F9 l (h.ev e),aj m]⟩,b⟩
   grind
  grind
def glo(x:Operand)(lo hi mx:Option Operand):Option Nat:=match x,lo,hi,mx with
 | .global g,none,none,none=>some g
 |_,_,_,_=>none
variable {lo hi mx:Option Operand}
theorem Axk{g:Nat}(h:glo x lo hi mx=some g):x=.global g/\lo=none/\hi=none/\mx=none:=by unfold glo at h;grind
def arG(P:Program)(t:TypeId)(n:Nat):Bool:=match P.underlying t with
 |some (.array m e)=>an m n&&(P.info? e).isSome
 |_=>false
theorem Ap0{ty:TypeId}{g n:Nat}(h:arG P t n=true):KR P f (.slice t (.global g) none none none) ty (.slice (some ⟨g,0,none⟩) n n) w:=λdst pos af gd=>by
 unfold arG at h;split at h
 .rename_i m e hu;rw[a1]at h;obtain rfl:=a7 h.1;obtain⟨i,hi⟩:=Option.isSome_iff_exists.1 h.2;simp [execOp,Instr.sliceAt,run_underlying hu,ev,Instr.sureAddr,Instr.sliceBounds,sizeOf,typeInfo,hi,Addr.add]
 grind
def glX(c:Cf Y)(t:TypeId)(g:Nat)(k:AV Y->Cf Y->Prop):Prop:=match Y.gls g with
 |some q=>EZ (arG Y.P t q.2.length) (k (.dat (.sl q.1) q.2) c)
 |none=>False
variable {T0:Bd} {k:AV Y->Cf Y->Prop}
theorem Axm(h:RG g0 T0 c f g AH A){v:Nat}(a:glX c t v k):OU g0 T0 f g.w (.slice t (.global v) none none none) k g:=by
 intro N l R K r j s i o b;unfold glX at a;split at a
 .rename_i q n;obtain⟨m,a⟩:=AG a;have p:(P8 Y).gl g.I g.w:=by
   have d:=h.hr;unfold HR at d;split at d
   .obtain⟨L,_,e⟩:=d.ex;exact e.gl
   .obtain⟨L,_,e⟩:=d.1.ex;exact e.gl
  exact Aw (Ap0 m j i o none) (b _ (.dat (.sl q.1) q.2) c g AH A (Le.refl _) h (p v q n) a)
 grind
def Au7(c:Cf Y)(t:TypeId)(x:Operand)(lo hi mx:Option Operand)(k:AV Y->Cf Y->Prop):Prop:=match slI Y.P t,En c x with
 |some (e,nb),some (.dat (.sl T) xs)=>EZ (Wn Y.P t e (sz Y.toUS T) nb&&(hi.isSome ||mx.isNone)) (Ace c lo 0 λl=>Ace c hi xs.length λh=>match mx with
  |none=>l<=h/\h<=xs.length/\k (.dat (.sl T) ((xs.drop l).take (h-l))) c
  |some _=>Ace c mx 0 λm=>l<=h/\h<=m/\m<=xs.length/\k (.dat (.sl T) ((xs.drop l).take (h-l))) c)
 |some (e,nb),some (.own i)=>match Ie c.sg i with
  |some (.sl T xs)=>EZ (Wn Y.P t e (sz Y.toUS T) nb&&(hi.isSome ||mx.isNone)) (match lo,hi with
   |none,some _=>Ace c hi 0 λh=>match mx with
    |none=>h<=xs.length/\k (.own c.nx) {c.Eu with sg:=(c.nx,.sl T (xs.take h))::FP c.sg i,nx:=c.nx+1}
    |some _=>Ace c mx 0 λm=>h<=m/\m<=xs.length/\k (.own c.nx) {c.Eu with sg:=(c.nx,.sl T (xs.take h))::FP c.sg i,nx:=c.nx+1}
   |some _,none=>Ace c lo 0 λl=>l<=xs.length/\k (.sub i T l) c
   |none,none=>k (.own i) c
   |_,_=>False)
  |_=>False
 |_,_=>False
theorem Nn{T:Ty}{I:Cc}{v:Value}{xs:List (den Y.D T)}(l:Nz Y T I w A v xs){h m:Nat}(y:h<=xs.length)(t:h<=m):∃a cap,v=.slice a xs.length cap/\xs.length<=cap/\(m<=cap->Nz Y T I w A (.slice (if m=0 then a else a.map (·.add (0*sz Y.toUS T))) (h-0) (m-0)) (xs.take h)):=by
 letI:AP (den Y.D T):=RT Y.toUS T
 have c:∀(a:Option Addr),a.map (λx:Addr=>x.add (0*sz Y.toUS T))=a:=λa=>by cases a<;>simp [Addr.add]
 rcases Bx.ex (α:=den Y.D T) l with ⟨rfl,rfl,rfl⟩|⟨b,d,cap,i,e,rfl,rfl,o,z,s,n⟩
 .grind
 .refine⟨_,cap,rfl,o,λg=>⟨.inr ⟨b,d,m,i,e,rfl,?_,?_,by omega,?_,?_⟩⟩⟩
  .have k:(xs.take h).length=h:=by grind
   rw[k,c];split<;>simp
  .grind
  .exact b8 (av (a8 _ g) _) s
  .intro j p;have f:j<xs.length:=by grind
   obtain⟨u,r,q⟩:=n j f;exact⟨u,by simp_all,q⟩
theorem Aqe(h:RG g0 T0 c f g AH A)(d:Au7 c t x lo hi mx k):OU g0 T0 f g.w (.slice t x lo hi mx) k g:=by
 intro N M R K os q ty n F j;unfold Au7 at d;split at d
 .rename_i e nb T p h1 X;replace d:=AG d;obtain⟨w,d⟩:=d;simp only[a1,ba,az,ah]at w;have D:hi=none->mx=none:=λh=>w.2.elim (λQ=>qG h Q) id;letI:AP (den Y.D T):=RT Y.toUS T
  obtain⟨a,b,I,hl1,hl2,H⟩:=Aam (QD (h.ev X));obtain⟨l,V,d⟩:=P6 h d;obtain⟨r,C,d⟩:=P6 h d;have u:∀m,Q5 f mx m b->l<=r->r<=m->r<=p.length->m<=b->k (.dat (.sl T) ((p.drop l).take (r-l))) c->WL Y.P N M R false K (⟨q,.slice t x lo hi mx,ty,n,F,none⟩::os) f g.w:=λm L o z B h6 d=>by refine Aw (OY w.1 I V C L o z h6 D q n F none) ?_;exact j _ (.dat (.sl T) ((p.drop l).take (r-l))) c g AH A (Le.refl _) h (Q0 (H l r m o B z h6)) d
  split at d
  .obtain⟨o,z,d⟩:=d;exact u b rfl o (by omega) z (a3 _) d
  .obtain⟨m,L,o,z,B,d⟩:=P6 h d;exact u m (by exact L) o z (by omega) (by omega) d
 .rename_i e nb i h1 X;split at d
  .rename_i T p S;replace d:=AG d;obtain⟨w,d⟩:=d;simp only[a1,ba,az,ah]at w;have D:hi=none->mx=none:=λh=>w.2.elim (λQ=>qG h Q) id;have I:=(h.ev X).2;split at d
   .rename_i _ _;obtain⟨r,C,d⟩:=P6 h d;obtain⟨Z,W,H,y,G,E⟩:=h.Eu.sg.take S;have hst:=h.st.perm (F6 H AH);have u:∀m,r<=m->r<=p.length->(∀b,p.length<=b->Q5 f mx (Ara mx b m) b/\Ara mx b m<=b/\r<=Ara mx b m)->k (.own c.nx) {c.Eu with sg:=(c.nx,.sl T (p.take r))::FP c.sg i,nx:=c.nx+1}->WL Y.P N M R false K (⟨q,.slice t x none (some _) mx,ty,n,F,none⟩::os) f g.w:=λm o z B d=>by obtain⟨a,b,v,J,_⟩:=Nn (h:=0) (m:=0) G (b0 _) (a3 _);obtain⟨h8,s,O⟩:=B b J;obtain⟨a',cap',P,e2',U⟩:=Nn (m:=Ara mx b m) G z O;rw[v]at P;cases P;refine Aw (OY w.1 (I.trans v) (show Q5 f none 0 0 from rfl) C h8 (b0 _) O s D q n F none) ?_;refine j _ (.own c.nx) _ (g.new g.w _) AH (Z++W) (Le.new (Ext.refl _ _)) (h.Eu.Aal E (Ext.refl _ _) ?_ hst) (FI h.n) d;show Nz Y T _ _ _ _ _;rw[g.BC];exact U s
    split at d
    .exact u r (a3 _) d.1 (λb B=>⟨rfl,a3 _,b8 d.1 B⟩) d.2
    .obtain⟨m,L,o,z,d⟩:=P6 h d;exact u m o (by omega) (λb B=>⟨L,by show m<=b;omega,o⟩) d
   .obtain⟨l,V,o,d⟩:=P6 h d;obtain⟨Z,W,H,y,G,E⟩:=h.sg.take S;obtain⟨a,b,v,J,_⟩:=Nn (h:=0) (m:=0) G (b0 _) (a3 _);obtain rfl:mx=none:=D rfl;refine Aw (OY (lo:=l) (hi:=p.length) (mx:=b) w.1 (I.trans v) V (show Q5 f none p.length p.length from rfl) (show Q5 f none b b from rfl) o J (a3 _) D q n F none) ?_;exact j _ (.sub i T l) c g AH A (Le.refl _) h ⟨y,by rw[v];rfl,a,_,b,v,o⟩ d
   .obtain rfl:mx=none:=D rfl;obtain⟨Z,W,H,y,G,E⟩:=h.sg.take S;obtain⟨a,b,v,J,_⟩:=Nn (h:=0) (m:=0) G (b0 _) (a3 _);refine Aw (OY (lo:=0) (hi:=p.length) (mx:=b) w.1 (I.trans v) (show Q5 f none 0 0 from rfl) (show Q5 f none p.length p.length from rfl) (show Q5 f none b b from rfl) (b0 _) J (a3 _) D q n F none) ?_;refine j _ (.own i) c g AH A (Le.refl _) h ⟨y,?_⟩ d;rw[v];cases a<;>simp [Addr.add]
   grind
  grind
 grind
def slX(c:Cf Y)(t:TypeId)(x:Operand)(lo hi mx:Option Operand)(k:AV Y->Cf Y->Prop):Prop:=match glo x lo hi mx with
 |some g=>glX c t g k
 |none=>Au7 c t x lo hi mx k
theorem Au6(h:RG g0 T0 c f g AH A)(a:slX c t x lo hi mx k):OU g0 T0 f g.w (.slice t x lo hi mx) k g:=by
 unfold slX at a;split at a
 .rename_i v b;obtain⟨rfl,rfl,rfl,rfl⟩:=Axk b;grind[Axm]
 grind[Aqe]
def evL(c:Cf Y):List Operand->Option (List (AV Y))
 | []=>some []
 |x::l=>match En c x,evL c l with
  |some a,some m=>some (a::m)
  |_,_=>none
theorem O4{g0 g:B4}{T AH A:Bd}{c:Cf Y}{f:Fr}(h:RG g0 T c f g AH A):∀{l:List Operand}{m:List (AV Y)},evL c l=some m->F2 (AR g) m (l.map (ev f))
 | [],m,b=>by cases b;exact .nil
 |x::l,m,b=>by
  unfold evL at b;split at b
  .rename_i a i e d;cases b;exact .cons (h.ev e) (O4 h d)
  grind
def mfX(c:Cf Y)(q:Fn)(fs cs:Array Operand)(k:AV Y->Cf Y->Prop):Prop:=match q,evL c fs.toList,evL c cs.toList with
 | .func g,some l,some m=>k (.own c.nx) {c with sg:=(c.nx,.clo g l m)::c.sg,nx:=c.nx+1}
 |_,_,_=>False
theorem Awr(h:RG g0 T0 c f g AH A){q:Fn}{fs cs:Array Operand}(d:mfX c q fs cs k):OU g0 T0 f g.w (.makeFunc q fs cs) k g:=by
 intro N j R K p i s n t b;unfold mfX at d;split at d
 .rename_i q l m o e;refine Vd rfl rfl ?_;have a:=Le.new (g:=g) (v:=.func (.func q) ⟨fs.toList.map (ev f)⟩ ⟨cs.toList.map (ev f)⟩) (Ext.refl g.I g.w);refine b _ (.own c.nx) _ (g.new g.w _) AH ([]++A) a (h.Aal (A1:=[]) h.sg (Ext.refl _ _) ?_ h.st) (FI h.n) d;exact⟨rfl,_,_,g.BC _ _,(O4 h o).mono λ_ _ r=>r.mono a,(O4 h e).mono λ_ _ r=>r.mono a⟩
 grind
end
end
end Go.Y
namespace Go.X
open Go Go.RowKit
section
section
variable {α:Type} [AP α] {P:Program} {I:Cc} {w:World} {T A:Bd} {t u e:TypeId} {nb:Nat}
theorem Aok{v yv:Value}{xs ys:List α}{lo:Nat}{ty:TypeId}(N:Bx I w A v xs)(hs:St I w (A++T))(Y:Nws I w yv ys)(hlo:lo<=xs.length)(ht:Wn P t e (AP.size α) nb=true):∃A' w',(Builtin.copy_ #[t,u] ty #[Wy v lo (AP.size α),yv]).run P w=.ok (goInt ((min ys.length (xs.length-lo):Nat):Int)) w'/\Ext I w I w'/\St I w' (A'++T)/\Bx I w' A' v (xs.take lo++(ys.take (min ys.length (xs.length-lo))++xs.drop (lo+min ys.length (xs.length-lo)))):=by
 have i:=EE ht;obtain⟨U,V,x⟩:=Y.sh;have m:∀a b:Nat,Nat.min a b=min a b:=λ_ _=>rfl;generalize B:min ys.length (xs.length-lo)=n;have s:min (ys.length:Int) ((xs.length:Int)-(lo:Int))=(n:Int):=by omega
 by_cases M:n=0
 .have D:∀(a:Option Addr)(l c:Nat),(Builtin.firstCells (AP.size α) 0 (.slice a l c)).run P w=.ok #[] w:=λa l c=>by cases a<;>simp [Builtin.firstCells,loadCells,loadCellsFrom]
  have Q:xs.take lo++(ys.take n++xs.drop (lo+n))=xs:=by rw[M];simp
  refine⟨A,w,?_,Ext.refl _ _,hs,Bx.cast Q.symm N⟩;obtain⟨a,q,hv,_⟩:=N.len;rw[hv,x];by_cases z:q=lo
  .cases a<;>simp [Builtin.copy_,run_underlying i.under,Builtin.lenOf,Wy,m,B,M,i.size,D,z,storeCells]
  .cases a<;>simp [Builtin.copy_,run_underlying i.under,Builtin.lenOf,Wy,m,B,M,i.size,D,z,storeCells]
 have E:ys≠[]:=λe=>by subst e;simp at B;omega
 obtain⟨U,V,x,f,n1,n2,n3,n4⟩:=Y.ne E;rcases N.ex with ⟨_,rfl,_⟩|⟨b,d,q,R,g,rfl,rfl,X,h4,h5,Z⟩
 .simp at B;omega
 have S:n<=ys.length:=by omega
 have L:lo+n<=xs.length:=by omega
 have z:¬q=lo:=by omega
 have hb:=(hs.own (b,.cells d R (0,0)) (by simp)).1;have W:g+xs.length*AP.size α<=d.size:=b8 (av (a8 _ X) _) h5;have hfn:lo*AP.size α+n*AP.size α<=xs.length*AP.size α:=by rw[<-Nat.add_mul];exact a8 _ L
 have p:(f.take (n*AP.size α)).length=n*AP.size α:=by rw[b6,n1];exact Nat.min_eq_left (a8 _ S)
 have hf:=run_firstCells_some (P:=P) w (AP.size α) n U ys.length V (f.take (n*AP.size α)) p (λj u C=>by
  have hj:j<n*AP.size α:=by have:=(List.getElem?_eq_some_iff.1 C).1;omega
  rw[am hj]at C;exact n2 j u C)
 have r:=run_storeCells_at P b (g+lo*AP.size α) R (f.take (n*AP.size α)) 0 d w hb (by rw[p];omega) (λu C=>n3 u (List.mem_of_mem_take C));simp only[ao]at r;generalize H:(bg (g+lo*AP.size α) d.toList++f.take (n*AP.size α)++bp (g+lo*AP.size α+(f.take (n*AP.size α)).length) d.toList).toArray=O at r;obtain⟨K,s1⟩:=hs.write (w':=w.setRow b O) rfl rfl rfl (by simp [World.setRow]) (setRow_heap w b d _ R _ hb) (λc z=>setRow_other w b c _ z);have o:(xs.take lo++(ys.take n++xs.drop (lo+n))).length=xs.length:=by simp;omega
 refine⟨_,_,?_,K,s1,⟨.inr ⟨b,_,q,_,g,rfl,by rw[o],by rw[o];exact X,h4,?_,?_⟩⟩⟩
 .rw[x];simp [Builtin.copy_,run_underlying i.under,Builtin.lenOf,Wy,m,B,i.size,z,DF,hf,r]
 all_goals subst H
 .simp only[List.size_toArray,List.length_append,p,b6,List.length_drop,bh];omega
 .have J:(bg (g+lo*AP.size α) d.toList).length=g+lo*AP.size α:=by rw[b6,show d.toList.length=d.size from rfl];omega
  have G:(xs.take lo).length=lo:=by simp;omega
  have F:(ys.take n).length=n:=by simp;omega
  refine Dv.append ((Z.take lo).mono K) (g2:=λk=>if k<n*AP.size α then f[k]? else d[g+(lo*AP.size α+k)]?) (Dv.append ((n4.take n).mono K) (g2:=λk=>d[g+((lo+n)*AP.size α+k)]?) ((Z.drop (lo+n)).mono K) ?_ ?_) ?_ ?_
  .intro k y;rw[F]at y;simp only[y,if_true]
  .intro k y;rw[F];simp only[show ¬n*AP.size α+k<n*AP.size α by omega,if_false];rw[Nat.add_mul,ar]
  .intro k y;rw[G]at y;simp only[aq,a2];rw[ai (by omega),am (by omega),a9]
  .intro k y;rw[G];simp only[aq,a2];rw[<-ar,ad (by omega),J,b7];by_cases h:k<n*AP.size α
   .rw[ai (by omega),am h,UV h]
   .rw[ad (by omega),GT h,p,List.getElem?_drop,a9];congr 1;omega
end
end
end Go.X
namespace Go.Y
open Go Go.RowKit Go.X
section
section
variable {Y:Sys}
def cpS(c:Cf Y)(t e:TypeId)(nb i lo:Nat)(T:Ty)(xs:List (den Y.D T))(b:AV Y)(k:AV Y->Cf Y->Prop):Prop:=match nwA c T b with
 |some ys=>EZ (Wn Y.P t e (sz Y.toUS T) nb) (lo<=xs.length/\k (.nat (min ys.length (xs.length-lo))) {c.Eu with sg:=(i,.sl T (xs.take lo++(ys.take (min ys.length (xs.length-lo))++xs.drop (lo+min ys.length (xs.length-lo)))))::FP c.sg i})
 |none=>False
def cpX(c:Cf Y)(t:TypeId)(x y:Operand)(k:AV Y->Cf Y->Prop):Prop:=match slI Y.P t,En c x,En c y with
 |some (e,nb),some (.own i),some b=>match Ie c.sg i with
  |some (.sl T xs)=>cpS c t e nb i 0 T xs b k
  |_=>False
 |some (e,nb),some (.sub i T' lo),some b=>match Ie c.sg i with
  |some (.sl T xs)=>match Ty.dec T' T with
   | .isTrue _=>cpS c t e nb i lo T xs b k
   | .isFalse _=>False
  |_=>False
 |_,_,_=>False
variable {g0 g:B4} {T0 AH A:Bd} {c:Cf Y} {f:Fr} {t:TypeId} {x:Operand} {k:AV Y->Cf Y->Prop}
theorem Aoj(h:RG g0 T0 c f g AH A){u e:TypeId}{nb i lo:Nat}{T:Ty}{xs:List (den Y.D T)}{b:AV Y}{y:Operand}(hs:Ie c.sg i=some (.sl T xs))(a:cpS c t e nb i lo T xs b k)(Q:ev f x=Wy (g.μ i) lo (sz Y.toUS T))(E:AR g b (ev f y)):OU g0 T0 f g.w (.call ⟨.builtin .copy,#[x,y],#[t,u]⟩) k g:=by
 intro N S R K X I ty D W j;unfold cpS at a;split at a
 .rename_i z q;obtain⟨M,r,a⟩:=AG a;letI:AP (den Y.D T):=RT Y.toUS T
  have p:@Nws _ (RT Y.toUS T) g.I g.w (ev f y) z:=Amr h q E;obtain⟨O,J,V,L,o,m⟩:=h.Eu.DG (s:=.sl T xs) hs;have d:Nz Y T g.I g.w O (g.μ i) xs:=V;have G:=@Bx.bd _ (RT Y.toUS T) _ _ _ _ _ d;obtain⟨B,n,H,U,P,F⟩:=Aok (α:=den Y.D T) (u:=u) (ty:=ty) d o p r M;have l:Le g {g with w:=n}:=⟨U,a3 _,λ_ _=>rfl,rfl⟩
  have:=j _ (.nat (min z.length (xs.length-lo))) _ {g with w:=n} AH (B++J) l (m (.sl T _) B {g with w:=n} l rfl F P) ⟨rfl,by omega⟩ a;have v:(Builtin.copy_ #[t,u] ty #[ev f x,ev f y]).run Y.P g.w=.ok (goInt ((min z.length (xs.length-lo):Nat):Int)) n:=by rw[Q];exact H
  refine Aw ?_ this;simp_all[execOp,resolve,invoke,builtin,goInt]
 grind
theorem Ax0(h:RG g0 T0 c f g AH A){u:TypeId}{y:Operand}(d:cpX c t x y k):OU g0 T0 f g.w (.call ⟨.builtin .copy,#[x,y],#[t,u]⟩) k g:=by
 unfold cpX at d;split at d
 .rename_i e q i b n m l;split at d
  .rename_i T o j;refine Aoj h j d ?_ (h.ev l);obtain⟨z,w,_,_,r,_⟩:=h.sg.take j;obtain⟨a,p,s,_⟩:=@Bx.len _ (RT Y.toUS T) _ _ _ _ _ r;rw[(h.ev m).2,s];cases a<;>simp [Wy,Addr.add]
  grind
 .rename_i e q i B v b n m l;split at d
  .rename_i T o j;split at d
   .rename_i e _;subst e;exact Aoj h j d (h.ev m).2.1 (h.ev l)
   grind
  grind
 grind
theorem Ajr{α:Type}[AP α]{P:Program}{I:Cc}{w:World}{T:Bd}{e:TypeId}{nb:Nat}{v:Value}{xs:List α}{ty:TypeId}{z:Value}{zd:α}(ho:Bx I w A v xs)(hs:St I w (A++T))(ht:Wn P t e (AP.size α) nb=true)(hzv:zrB P e z)(hzr:rep I w z zd):∃A' w',(Builtin.clear_ #[t] ty #[v]).run P w=.ok (.tuple #[]) w'/\Ext I w I w'/\St I w' (A'++T)/\Bx I w' A' v (ax xs.length zd):=by
 obtain⟨i,z',hi,hsz,hbt,hz,hzs⟩:=(EE ht).info;have hu:=(EE ht).under;obtain rfl:z'=z:=by unfold zrB at hzv;grind
 rcases ho.ex with ⟨rfl,rfl,rfl⟩|⟨b,arr,cap,e0,off,rfl,rfl,h3,h4,h5,h6⟩
 .exact⟨[],w,by simp [Builtin.clear_,run_underlying hu],Ext.refl _ _,hs,Bx.nil⟩
 by_cases hn:xs.length=0
 .refine⟨_,w,?_,Ext.refl _ _,hs,?_⟩
  .simp_all[Builtin.clear_,run_underlying]
  grind
 have hb:=(hs.own (b,.cells arr e0 (0,0)) (by simp)).1;have hfit:off+xs.length*AP.size α<=arr.size:=b8 (av (a8 _ h3) _) h5;have hzc:z'.cells.size=AP.size α:=AP.cells hzr;generalize hnews:(Builtin.zeroCells z'.cells xs.length).toList=news;have hnews':news=((Array.range (xs.length*AP.size α)).map λk=>z'.cells[k%z'.cells.size]!).toList:=by rw[<-hnews];unfold Builtin.zeroCells;rw[hzc]
 have hnl:news.length=xs.length*AP.size α:=by grind
 have hone:∀u∈news,u.oneCell'=true:=λu hu=>by rw[hnews']at hu;simp only[Array.mem_toList_iff,Array.mem_map,Array.mem_range]at hu;obtain⟨k,hk,rfl⟩:=hu;have hlt:k%z'.cells.size<z'.cells.size:=Nat.mod_lt _ (by rw[hzc];exact AP.pos);rw[getElem!_pos z'.cells _ hlt];exact AP.one hzr _ (by simp)
 have hst:=run_storeCells_at P b off e0 news 0 arr w hb (by omega) hone;simp only[ao]at hst;generalize hrow:(bg off arr.toList++news++bp (off+news.length) arr.toList).toArray=row at hst;obtain⟨e1,s1⟩:=hs.write (w':=w.setRow b row) rfl rfl rfl (by simp) (setRow_heap w b arr _ e0 _ hb) (λc hc=>setRow_other w b c _ hc);refine⟨_,_,?_,e1,s1,⟨.inr ⟨b,_,cap,_,off,rfl,by simp,by grind,h4,?_,?_⟩⟩⟩
 .simp_all[Builtin.clear_,run_underlying,zeroValue,typeInfo]
 all_goals subst hrow
 .grind
 .have hlen:(bg off arr.toList).length=off:=by grind
  refine Dv.congr ((Qq (n:=xs.length) hzr).mono e1) λk hk=>?_;rw[bf]at hk;simp only[aq,a2];rw[ad (by omega),hlen,b7,ai (by omega),hnews',a9]
def Ax6(c:Cf Y)(t:TypeId)(x:Operand)(k:AV Y->Cf Y->Prop):Prop:=match slI Y.P t,En c x with
 |some (e,nb),some (.own i)=>match Ie c.sg i,zro Y.P e with
  |some (.sl T xs),some z=>match Tq (Y:=Y) T z with
   |some zd=>EZ (Wn Y.P t e (sz Y.toUS T) nb) (k (.val (.tuple #[])) {c.Eu with sg:=(i,.sl T (ax xs.length zd))::FP c.sg i})
   |none=>False
  |_,_=>False
 |some (_,_),some (.val (.slice none 0 0))=>EZ (FX Y.P t dSl) (k (.val (.tuple #[])) c)
 |_,_=>False
theorem Asm(h:RG g0 T0 c f g AH A)(a:Ax6 c t x k):OU g0 T0 f g.w (.call ⟨.builtin .clear,#[x],#[t]⟩) k g:=by
 intro N D R K V U ty H W b;unfold Ax6 at a;split at a
 .rename_i e S i r u;split at a
  .rename_i T C z J E;split at a
   .rename_i zd p;obtain⟨d,a⟩:=AG a;letI:AP (den Y.D T):=RT Y.toUS T
    obtain⟨L,F,O,G,v,j⟩:=h.Eu.DG (s:=.sl T C) J;have q:Nz Y T g.I g.w L (g.μ i) C:=O;obtain⟨y,m,r,n,P,I⟩:=Ajr (α:=den Y.D T) (ty:=ty) (zd:=zd) q v d E (P3 p);have l:Le g {g with w:=m}:=⟨n,a3 _,λ_ _=>rfl,rfl⟩
    have:=b _ (.val (.tuple #[])) _ {g with w:=m} AH (y++F) l (j (.sl T _) y {g with w:=m} l rfl I P) rfl a;have o:(Builtin.clear_ #[t] ty #[ev f x]).run Y.P g.w=.ok (.tuple #[]) m:=by rw[(h.ev u).2];exact r
    refine Aw ?_ this;simp_all[execOp,resolve,invoke,builtin]
   grind
  grind
 .rename_i e S r u;obtain⟨d,a⟩:=AG a;obtain⟨X,d⟩:=L3 d;have M:ev f x=.slice none 0 0:=h.ev u;refine Aw ?_ (b _ (.val (.tuple #[])) c g AH A (Le.refl _) h rfl a);simp [execOp,resolve,invoke,builtin,Builtin.clear_,M,run_underlying d]
 grind
end
end
section
section
variable {Y:Sys}
def Qr:(a b:List Ty)->Decidable (a=b)
 | [],[]=>.isTrue rfl
 |[],_::_|_::_,[]=>.isFalse (by simp)
 |a::aE,b::bs=>match Ty.dec a b,Qr aE bs with
  | .isTrue h,.isTrue h'=>.isTrue (by rw[h,h'])
  | .isFalse h,_=>.isFalse (λe=>h (bn e).1)
  |_,.isFalse h=>.isFalse (λe=>h (bn e).2)
def PB:(ts:List Ty)->I5 Y ts->List (AV Y)
 | [],_=>[]
 |t::ts,x=>.dat t x.1::PB ts x.2
theorem Pa{g:B4}:∀{ts:List Ty}{x:I5 Y ts}{vs:List Value},We Y g.I g.w ts x vs->F2 (AR g) (PB ts x) vs
 | [],_,_,h=>by cases h;exact .nil
 |_::_,_,_,⟨v,c,a,d,b⟩=>by subst a;exact .cons d (Pa b)
def rT:(l:List RK)->(ts:List Ty)->L0 Y l->Option (I5 Y ts)
 | [],[],_=>some ()
 | .dat t::l,t'::ts,x=>match Ty.dec t t',rT l ts x.2 with
  | .isTrue h,some r=>some (h▸x.1,r)
  |_,_=>none
 |_,_,_=>none
theorem Atm{I:Cc}{w:World}:∀{l:List RK}{ts:List Ty}{x:L0 Y l}{r:I5 Y ts}{vs:List Value}{A:Bd},rT l ts x=some r->ReR Y I w l x vs A->We Y I w ts r vs/\A=[]
 | [],[],_,_,_,_,_,⟨f,a⟩=>⟨f,a⟩
 | .dat t::l,m::ts,x,r,vs,A,h,j=>by
  unfold rT at h;split at h
  .rename_i e n _ a;subst e;cases h;obtain⟨v,b,i,d,c⟩:=j;obtain⟨g,k⟩:=Atm a c;exact⟨⟨v,b,i,d,g⟩,k⟩
  grind
 |[],_::_,_,_,_,_,h,_|.dat _::_,[],_,_,_,_,h,_|.own _::_,_,_,_,_,_,h,_|.map _ _::_,_,_,_,_,_,h,_|.ownO _::_,_,_,_,_,_,h,_=>by grind[rT]
def asF(sigs:FuncId->Option Bi)(mk:(ks:List AK)->List (AV Y)->Option (Jg Y ks))(sg:List (Nat×C4 Y))(aE rs:List Ty):AV Y->Option (FT Y aE rs)
 | .fn as' rs' F=>match Qr as' aE,Qr rs' rs with
  | .isTrue h,.isTrue h'=>some (h▸h'▸F)
  |_,_=>none
 | .own j=>match Ie sg j with
  |some (.clo q fs cs)=>match sigs q,CO Y.P q with
   |some σ,true=>some λa H Q X=>match mk σ.args (fs++(PB aE a++cs)) with
    |some tup=>Wp Y q σ tup H (λb _ H'=>match rT σ.res rs b with
     |some r=>Q r H'
     |none=>False) X
    |none=>False
   |_,_=>none
  |_=>none
 | .val (.func (.func q) ⟨[]⟩ ⟨[]⟩)=>match sigs q,CO Y.P q with
  |some σ,true=>some λa H Q X=>match mk σ.args (PB aE a) with
   |some tup=>Wp Y q σ tup H (λb _ H'=>match rT σ.res rs b with
    |some r=>Q r H'
    |none=>False) X
   |none=>False
  |_,_=>none
 |_=>none
def dlA(t:Ty):AV Y->Option (den Y.D t)
 | .del T x 0=>match Ty.dec T t with
  | .isTrue h=>some (h▸x)
  | .isFalse _=>none
 |_=>none
variable {g:B4} {a:AV Y} {v:Value}
theorem Aoe{t:Ty}{x:den Y.D t}(h:dlA t a=some x)(b:AR g a v):A1o Y t g.I g.w x v:=by
 unfold dlA at h;split at h
 .split at h
  .rename_i e _;subst e;cases h;exact b
  grind
 grind
def fbA(aE rs:List Ty):AV Y->Option (FT Y aE rs)
 | .fbx as' rs' F=>match Qr as' aE,Qr rs' rs with
  | .isTrue h,.isTrue h'=>some (h▸h'▸F)
  |_,_=>none
 |_=>none
variable {aE rs:List Ty}
theorem An6{F:FT Y aE rs}(h:fbA aE rs a=some F)(b:AR g a v):FbR Y aE rs F g.I g.w v:=by
 unfold fbA at h;split at h
 .split at h
  .rename_i e c _ _;subst e c;cases h;exact b
  grind
 grind
def Td:(ks:List AK)->List (AV Y)->Option (Jg Y ks)
 | [],[]=>some ()
 | .dat t::ks,a::aE=>match Ug t a,Td ks aE with
  |some x,some r=>some (x,r)
  |_,_=>none
 | .mob::ks,.mob b::aE=>match Td ks aE with
  |some r=>some (b,r)
  |none=>none
 | .fn ts rs::ks,.fn ts' rs' F::aE=>match Qr ts' ts,Qr rs' rs,Td ks aE with
  | .isTrue h,.isTrue h',some r=>some (h▸h'▸F,r)
  |_,_,_=>none
 | .del t::ks,a::aE=>match dlA t a,Td ks aE with
  |some x,some r=>some (x,r)
  |_,_=>none
 | .fbx ts rs::ks,a::aE=>match fbA ts rs a,Td ks aE with
  |some x,some r=>some (x,r)
  |_,_=>none
 |_,_=>none
theorem Tc{g:B4}:∀{ks:List AK}{aE:List (AV Y)}{r:Jg Y ks}{vs:List Value},Td ks aE=some r->F2 (AR g) aE vs->ArR Y g.I g.w ks r vs []/\∀I w io us A,IoR Y I w ks io us A->A=[]
 | [],[],_,_,_,.nil=>⟨⟨rfl,rfl⟩,λ_ _ _ _ _ h=>h⟩
 | .dat t::ks,a::aE,r,v::vs,h,.cons c j=>by
  unfold Td at h;split at h
  .rename_i x l k i;cases h;obtain⟨d,f⟩:=Tc i j;exact⟨⟨v,vs,rfl,Dh k c,d⟩,λI w io us A h=>f _ _ _ _ _ h⟩
  grind
 | .mob::ks,.mob b::aE,r,v::vs,h,.cons c j=>by
  unfold Td at h;split at h
  .rename_i l i;cases h;obtain⟨d,f⟩:=Tc i j;exact⟨⟨v,vs,rfl,c,d⟩,λI w io us A h=>f _ _ _ _ _ h⟩
  grind
 | .fn n q::ks,.fn o p F::aE,r,v::vs,h,.cons c j=>by
  unfold Td at h;split at h
  .rename_i e m l _ _ i;subst e m;cases h;obtain⟨d,f⟩:=Tc i j;exact⟨⟨v,vs,rfl,c,d⟩,λI w io us A h=>f _ _ _ _ _ h⟩
  grind
 | .del t::ks,a::aE,r,v::vs,h,.cons c j=>by
  unfold Td at h;split at h
  .rename_i x l k i;cases h;obtain⟨d,f⟩:=Tc i j;exact⟨⟨v,vs,rfl,Aoe k c,d⟩,λI w io us A h=>f _ _ _ _ _ h⟩
  grind
 | .fbx n q::ks,a::aE,r,v::vs,h,.cons c j=>by
  unfold Td at h;split at h
  .rename_i x l k i;cases h;obtain⟨d,f⟩:=Tc i j;exact⟨⟨v,vs,rfl,An6 k c,d⟩,λI w io us A h=>f _ _ _ _ _ h⟩
  grind
 |.fbx _ _::_,[],_,_,h,_|.del _::_,[],_,_,h,_|[],_::_,_,_,h,_|.dat _::_,[],_,_,h,_|.mob::_,[],_,_,h,_|.fn _ _::_,[],_,_,h,_|.own _::_,_,_,_,h,_|.map _ _::_,_,_,_,h,_=>by grind[Td]
 | .mob::_,.dat _ _::_,_,_,h,_ | .mob::_,.nat _::_,_,_,h,_ | .mob::_,.prp _ _::_,_,_,h,_ | .mob::_,.own _::_,_,_,h,_ | .mob::_,.adr _ _::_,_,_,h,_
 | .mob::_,.el _ _ _ _::_,_,_,h,_ | .mob::_,.del _ _ _::_,_,_,h,_ | .mob::_,.ptr _ _::_,_,_,h,_ | .mob::_,.hp _ _ _::_,_,_,h,_ | .mob::_,.sub _ _ _::_,_,_,h,_
 | .mob::_,.val _::_,_,_,h,_ | .mob::_,.ifc _ _ _::_,_,_,h,_ | .mob::_,.fn _ _ _::_,_,_,h,_ | .mob::_,.fbx _ _ _::_,_,_,h,_=>by simp [Td]at h
 | .fn _ _::_,.dat _ _::_,_,_,h,_ | .fn _ _::_,.nat _::_,_,_,h,_ | .fn _ _::_,.prp _ _::_,_,_,h,_ | .fn _ _::_,.own _::_,_,_,h,_ | .fn _ _::_,.adr _ _::_,_,_,h,_
 | .fn _ _::_,.el _ _ _ _::_,_,_,h,_ | .fn _ _::_,.del _ _ _::_,_,_,h,_ | .fn _ _::_,.ptr _ _::_,_,_,h,_ | .fn _ _::_,.hp _ _ _::_,_,_,h,_ | .fn _ _::_,.sub _ _ _::_,_,_,h,_
 | .fn _ _::_,.val _::_,_,_,h,_ | .fn _ _::_,.ifc _ _ _::_,_,_,h,_ | .fn _ _::_,.mob _::_,_,_,h,_ | .fn _ _::_,.fbx _ _ _::_,_,_,h,_=>by simp [Td]at h
theorem Atg{q:FuncId}{σ:Bi}{fs cs:List (AV Y)}{vs us:List Value}(m:CO Y.P q=true)(J:F2 (AR g) fs vs)(v:F2 (AR g) cs us):FvR Y aE rs (λa H Q X=>match Td σ.args (fs++(PB aE a++cs)) with
    |some tup=>Wp Y q σ tup H (λb _ H'=>match rT σ.res rs b with
     |some r=>Q r H'
     |none=>False) X
    |none=>False) g.I g.w (.func (.func q) ⟨vs⟩ ⟨us⟩):=by
 refine⟨⟨_,_,_,rfl⟩,λa H Q X f I w e T x B i E l=>.inl ⟨q,_,_,rfl,m,?_⟩⟩
 dsimp only at f
 split at f
 .rename_i tup n
  have c:Le g {g with I:=I,w:=w}:=⟨e,a3 _,λ_ _=>rfl,rfl⟩
  have K:F2 (AR {g with I:=I,w:=w}) (fs++(PB aE a++cs)) (vs++(B++us)):=(J.mono λ_ _ r=>r.mono c).app ((Pa (g:={g with I:=I,w:=w}) i).app (v.mono λ_ _ r=>r.mono c))
  obtain⟨C,D⟩:=Tc n K
  have:=f I w T [] x _ C E l
  rw[<-a2]at this
  refine WY.mono this (λr P M _⟨k,F,H',y,z,b,O,j,N,L,o,u,A,t,d⟩=>⟨k,F,H',y,z,?_⟩) (λ_ _ _ _ h=>h)
  dsimp only at d
  split at d
  .rename_i G s
   obtain⟨p,rfl⟩:=Atm s A
   grind
  grind
 grind
theorem Aer{sigs:FuncId->Option Bi}{sg:List (Nat×C4 Y)}{A:Bd}{F:FT Y aE rs}(h:asF sigs Td sg aE rs a=some F)(hs:Fg g sg A)(b:AR g a v):FvR Y aE rs F g.I g.w v:=by
 unfold asF at h;split at h
 .split at h
  .rename_i e l _ _;subst e l;cases h;exact b
  grind
 .split at h
  .rename_i q fs cs i;split at h
   .rename_i σ _ c;cases h;obtain⟨o,m,_,_,⟨_,s,p,j,k,f⟩,_⟩:=hs.take i;have d:=b.2;simp_all[Atg]
   grind
  grind
 .split at h
  .rename_i σ _ c;cases h;obtain rfl:v=_:=b;have:=Atg (Y:=Y) (q:=_) (σ:=σ) (aE:=aE) (rs:=rs) (g:=g) (fs:=[]) (cs:=[]) c .nil .nil;grind
  grind
 grind
def XB(sigs:FuncId->Option Bi)(all:List (Nat×C4 Y)):(ks:List AK)->List (AV Y)->List (Nat×C4 Y)->Option (Jg Y ks×List (Nat×C4 Y))
 | [],[],sg=>some ((),sg)
 | .dat t::ks,a::aE,sg=>match Ug t a,XB sigs all ks aE sg with
  |some x,some r=>some ((x,r.1),r.2)
  |_,_=>none
 | .own t::ks,.own i::aE,sg=>match Ie sg i with
  |some (.sl T xs)=>match Ty.dec T t,XB sigs all ks aE (FP sg i) with
   | .isTrue h,some r=>some (((h▸xs:List (den Y.D t)),r.1),r.2)
   |_,_=>none
  |_=>none
 | .map k e::ks,.own i::aE,sg=>match Ie sg i with
  |some (.mp k' e' m)=>match Ty.dec k' k,Ty.dec e' e,XB sigs all ks aE (FP sg i) with
   | .isTrue h,.isTrue h',some r=>some (((h▸h'▸m:List (den Y.D k×den Y.D e)),r.1),r.2)
   |_,_,_=>none
  |_=>none
 | .mob::ks,.mob b::aE,sg=>match XB sigs all ks aE sg with
  |some r=>some ((b,r.1),r.2)
  |none=>none
 | .fn ts rs::ks,a::aE,sg=>match asF sigs Td all ts rs a,XB sigs all ks aE sg with
  |some F,some r=>some ((F,r.1),r.2)
  |_,_=>none
 | .del t::ks,a::aE,sg=>match dlA t a,XB sigs all ks aE sg with
  |some x,some r=>some ((x,r.1),r.2)
  |_,_=>none
 | .fbx ts rs::ks,a::aE,sg=>match fbA ts rs a,XB sigs all ks aE sg with
  |some x,some r=>some ((x,r.1),r.2)
  |_,_=>none
 |_,_,_=>none
def ioB:(ks:List AK)->List (AV Y)->No Y ks->List (Nat×C4 Y)
 | .own t::ks,.own i::aE,x=>(i,.sl t x.1)::ioB ks aE x.2
 | .map k e::ks,.own i::aE,x=>(i,.mp k e x.1)::ioB ks aE x.2
 |.dat _::ks,_::aE,x|.mob::ks,_::aE,x|.del _::ks,_::aE,x|.fn _ _::ks,_::aE,x|.fbx _ _::ks,_::aE,x=>ioB ks aE x
 |_,_,_=>[]
theorem perm_cons{A B C D E:Bd}(a:A.Perm (B++C))(b:C.Perm (D++E)):A.Perm ((B++D)++E):=by rw[a2];exact a.trans (b.append_left B)
def MkR(g:B4)(ks:List AK)(aE:List (AV Y))(x:Jg Y ks)(vs:List Value)(A1:Bd):Prop:=ArR Y g.I g.w ks x vs A1/\∀g' io A,Le g g'->IoR Y g'.I g'.w ks io vs A->Fg g' (ioB ks aE io) A
theorem On{sigs:FuncId->Option Bi}{all:List (Nat×C4 Y)}{g:B4}{Aall:Bd}(d:Fg g all Aall):∀{ks:List AK}{aE:List (AV Y)}{sg:List (Nat×C4 Y)}{r:Jg Y ks×List (Nat×C4 Y)}{vs:List Value}{A:Bd},XB sigs all ks aE sg=some r->Fg g sg A->F2 (AR g) aE vs->∃A1 A2,A.Perm (A1++A2)/\MkR g ks aE r.1 vs A1/\Fg g r.2 A2
 | [],[],sg,r,_,A,h,f,.nil=>by cases h;exact⟨[],A,aa _,⟨⟨rfl,rfl⟩,λl w A _ h=>h⟩,f⟩
 | .dat t::ks,a::aE,sg,r,v::vs,A,h,f,.cons j s=>by
  unfold XB at h;split at h
  .rename_i x y D q;cases h;obtain⟨A1,A2,u,⟨n,p⟩,o⟩:=On d q f s;exact⟨A1,A2,u,⟨⟨v,vs,rfl,Dh D j,n⟩,λl w A c h=>p l w A c h⟩,o⟩
  grind
 | .own t::ks,a::aE,sg,r,v::vs,A,h,f,.cons j s=>by
  cases a with
  |own i=>
   simp only[XB]at h;split at h
   .rename_i T X L;split at h
    .rename_i e y _ q;subst e;cases h;obtain⟨B,W,J,C,E,N⟩:=f.take L;obtain⟨A1,A2,u,⟨n,p⟩,o⟩:=On d q N s;refine⟨B++A1,A2,perm_cons J u,⟨⟨v,vs,B,A1,rfl,rfl,by rw[j.2];exact E,n⟩,λl w A c h=>?_⟩,o⟩;obtain⟨R,O,K,z,I,M,G,H⟩:=h;cases I;refine⟨K,z,M,a5 C c.n,?_,p l _ z c H⟩;show Nz Y T _ _ _ _ _;rw[c.μ i C,<-j.2];exact G
    grind
   grind
  |_=>simp [XB]at h
 | .map k e::ks,a::aE,sg,r,v::vs,A,h,f,.cons j s=>by
  cases a with
  |own i=>
   simp only[XB]at h;split at h
   .rename_i k' Z m L;split at h
    .rename_i P S y _ _ q;subst P S;cases h;obtain⟨B,W,J,C,E,N⟩:=f.take L;obtain⟨A1,A2,u,⟨n,p⟩,o⟩:=On d q N s;refine⟨B++A1,A2,perm_cons J u,⟨⟨v,vs,B,A1,rfl,rfl,by rw[j.2];exact E,n⟩,λl w A c h=>?_⟩,o⟩;obtain⟨R,O,K,z,I,M,G,H⟩:=h;cases I;refine⟨K,z,M,a5 C c.n,?_,p l _ z c H⟩;show Ws Y _ _ _ _ _ _ _;rw[c.μ i C,<-j.2];exact G
    grind
   grind
  |_=>simp [XB]at h
 | .mob::ks,a::aE,sg,r,v::vs,A,h,f,.cons j s=>by
  cases a with
  |mob b=>
   simp only[XB]at h;split at h
   .rename_i y q;cases h;obtain⟨A1,A2,u,⟨n,p⟩,o⟩:=On d q f s;exact⟨A1,A2,u,⟨⟨v,vs,rfl,j,n⟩,λl w A c h=>p l w A c h⟩,o⟩
   grind
  |_=>simp [XB]at h
 | .del t::ks,a::aE,sg,r,v::vs,A,h,f,.cons j s=>by
  unfold XB at h;split at h
  .rename_i x y D q;cases h;obtain⟨A1,A2,u,⟨n,p⟩,o⟩:=On d q f s;exact⟨A1,A2,u,⟨⟨v,vs,rfl,Aoe D j,n⟩,λl w A c h=>p l w A c h⟩,o⟩
  grind
 | .fbx U V::ks,a::aE,sg,r,v::vs,A,h,f,.cons j s=>by
  unfold XB at h;split at h
  .rename_i x y D q;cases h;obtain⟨A1,A2,u,⟨n,p⟩,o⟩:=On d q f s;exact⟨A1,A2,u,⟨⟨v,vs,rfl,An6 D j,n⟩,λl w A c h=>p l w A c h⟩,o⟩
  grind
 | .fn U V::ks,a::aE,sg,r,v::vs,A,h,f,.cons j s=>by
  unfold XB at h;split at h
  .rename_i F y Q q;cases h;obtain⟨A1,A2,u,⟨n,p⟩,o⟩:=On d q f s;exact⟨A1,A2,u,⟨⟨v,vs,rfl,Aer Q d j,n⟩,λl w A c h=>p l w A c h⟩,o⟩
  grind
 |[],_::_,_,_,_,_,h,_,_|_::_,[],_,_,_,_,h,_,_=>by grind[XB]
end
end
section
section
variable {Y:Sys}
def G9(g0:B4)(T:Bd)(X:Tz Y)(R:List PanicEntry->World->Prop):Prop:=∀v w' I' AH' H' t l u,Ext g0.I g0.w I' w'->St I' w' (AH'++T)->Hu (P8 Y) I' w' H' AH'->v=.iface t u->rp Y.toUS l.t I' w' u l.x->X t l H'->R [{v,recovered:=false}] w'
def Atd(g0:B4)(T:Bd)(X:Tz Y)(f:Fr)(w:World)(op:Op)(k:AV Y->Cf Y->Prop)(g:B4):Prop:=∀(N:Nat)(ops:Array Oper)(R:List PanicEntry->World->Prop)(K:Fr->World->Prop)(os:List Oper)(dst:Option Tmp)(ty:TypeId)(pos:String)(af:Array Edge),G9 g0 T X R->(∀v a c' g' AH' A',Le g g'->RG g0 T c' f g' AH' A'->AR g' a v->k a c'->WL Y.P N ops R false K os (Go.X.put N f dst v) g'.w)->WL Y.P N ops R false K (⟨dst,op,ty,pos,af,none⟩::os) f w
def YC:(l:List RK)->L0 Y l->Nat->List (AV Y)×List (Nat×C4 Y)×Nat
 | [],_,n=>([],[],n)
 | .dat t::l,x,n=>let r:=YC l x.2 n;(.dat t x.1::r.1,r.2.1,r.2.2)
 | .own t::l,x,n=>let r:=YC l x.2 (n+1);(.own n::r.1,(n,.sl t x.1)::r.2.1,r.2.2)
 | .map k e::l,x,n=>let r:=YC l x.2 (n+1);(.own n::r.1,(n,.mp k e x.1)::r.2.1,r.2.2)
 | .ownO _::_,_,n=>([],[],n)
theorem Un:∀{l:List RK}{x:L0 Y l}{g:B4}{vs:List Value}{A:Bd},ReR Y g.I g.w l x vs A->∃g',Le g g'/\g'.w=g.w/\g'.I=g.I/\g'.n=(YC l x g.n).2.2/\F2 (AR g') (YC l x g.n).1 vs/\Fg g' (YC l x g.n).2.1 A
 | [],x,g,vs,A,⟨b,c⟩=>by subst b c;exact⟨g,Le.refl _,rfl,rfl,rfl,.nil,rfl⟩
 | .dat t::l,x,g,vs,A,⟨v,j,b,c,i⟩=>by subst b;obtain⟨g',f,z,C,D,y,B⟩:=Un i;exact⟨g',f,z,C,D,.cons ((show AR g (.dat t x.1) v from c).mono f) y,B⟩
 | .own t::l,x,g,vs,A,⟨v,j,u,w,b,c,i,f⟩=>by subst b c;have d:=Le.new (g:=g) (v:=v) (Ext.refl g.I g.w);obtain⟨g',a,s,p,m,q,o⟩:=Un (g:=g.new g.w v) (x:=x.2) f;have h:g.n<(g.new g.w v).n:=a4 _;refine⟨g',d.trans a,s,p,m,.cons (AR.mono a (FI rfl)) q,u,w,rfl,a5 h a.n,?_,o⟩;refine SR.mono a h ?_;show Nz Y t _ _ _ _ _;rw[g.BC];exact i
 | .ownO _::_,_,_,_,_,r=>r.elim
 | .map k e::l,x,g,vs,A,⟨v,j,u,w,b,c,i,f⟩=>by subst b c;have d:=Le.new (g:=g) (v:=v) (Ext.refl g.I g.w);obtain⟨g',a,s,p,m,q,o⟩:=Un (g:=g.new g.w v) (x:=x.2) f;have h:g.n<(g.new g.w v).n:=a4 _;refine⟨g',d.trans a,s,p,m,.cons (AR.mono a (FI rfl)) q,u,w,rfl,a5 h a.n,?_,o⟩;refine SR.mono a h ?_;show Ws Y k e _ _ _ _ _;rw[g.BC];exact i
def As4(c:Cf Y)(sg:List (Nat×C4 Y))(n:Nat)(H':HH Y)(k:AV Y->Cf Y->Prop):List (AV Y)->Prop
 | [a]=>k a {c with sg:=sg,nx:=n,H:=H'}
 |l=>k (.own n) {c with sg:=(n,.tp l)::sg,nx:=n+1,H:=H'}
def A5p(c:Cf Y)(sg:List (Nat×C4 Y))(res:List RK)(b:L0 Y res)(H':HH Y)(k:AV Y->Cf Y->Prop):Prop:=As4 c ((YC res b c.nx).2.1++sg) (YC res b c.nx).2.2 H' k (YC res b c.nx).1
variable {g0 g:B4} {T AH A:Bd} {c:Cf Y} {f:Fr} {k:AV Y->Cf Y->Prop}
theorem Ahp{g':B4}{AH' A':Bd}(h:RG g0 T c f g AH A)(b:Le g g')(t:c.op=none){sg:List (Nat×C4 Y)}{n:Nat}{H':HH Y}{l:List (AV Y)}{vs:List Value}(m:As4 c sg n H' k l)(w:g'.n=n)(y:Hu (P8 Y) g'.I g'.w H' AH')(hs:Fg g' sg A')(j:St g'.I g'.w (AH'++(A'++T)))(q:F2 (AR g') l vs):∃a c' g'',k a c'/\Le g' g''/\g''.w=g'.w/\RG g0 T c' f g'' AH' A'/\AR g'' a (KI vs):=by
 have d:RG g0 T {c with sg:=sg,nx:=n,H:=H'} f g' AH' A':=⟨w,h.le.trans b.ext,j,by rw[show ({c with sg:=sg,nx:=n,H:=H'}:Cf Y).op=none from t];exact y,hs,h.hs.mono b,b.pt h.pt,λi a z=>(h.fr i a z).mono b⟩
 unfold As4 at m;split at m
 .cases q with
  |cons u p=>cases p;exact⟨_,_,g',m,Le.refl _,rfl,d,u⟩
 .rename_i o;have x:KI vs=.tuple ⟨vs⟩:=by
   cases q with
   |nil=>rfl
   |cons u p=>
    cases p with
    |nil=>exact qG rfl (o _)
    |cons _ _=>rfl
  have e:=Le.new (g:=g') (v:=.tuple ⟨vs⟩) (Ext.refl g'.I g'.w);have:=d.Aal (sg':=sg) (A1:=[]) (s:=.tp l) (v:=.tuple ⟨vs⟩) hs (Ext.refl _ _) ⟨rfl,vs,g'.BC _ _,q.mono λ_ _ r=>r.mono e⟩ j;refine⟨_,_,_,m,e,rfl,this,?_⟩;rw[x];exact FI w
def VZ(sigs:FuncId->Option Bi)(X:Tz Y)(c:Cf Y)(q:FuncId)(aE:List (AV Y))(k:AV Y->Cf Y->Prop):Prop:=match sigs q with
 |some σ=>EZ (CO Y.P q&&c.op.isNone) (match XB sigs c.sg σ.args aE c.sg with
  |some r=>Wp Y q σ r.1 c.H (λb io H'=>A5p c (ioB σ.args aE io++r.2) σ.res b H' k) X
  |none=>False)
 |none=>False
theorem D8{I:Cc}{w:World}{B:Bd}(h:St I w (A++(B++T))):St I w (A++T):=by have a:=h.W8;exact a.drop
theorem OB{sigs:FuncId->Option Bi}{X:Tz Y}(h:RG g0 T c f g AH A){q:FuncId}{aE:List (AV Y)}{ws:List Value}(j:VZ sigs X c q aE k)(ha:F2 (AR g) aE ws):CO Y.P q=true/\∀(R:List PanicEntry->World->Prop)(K:Value->World->Prop),G9 g0 T X R->(∀v a c' g' AH' A',Le g g'->RG g0 T c' f g' AH' A'->AR g' a v->k a c'->K v g'.w)->WY Y.P q ws g.I g.w (λv _ w'=>K v w') (λv _ w'=>R [{v,recovered:=false}] w'):=by
 unfold VZ at j;split at j
 .rename_i σ hσ;obtain⟨E,j⟩:=AG j;simp only[a1,ah]at E;split at j
  .rename_i r hr;obtain⟨U,F,hp,⟨m,o⟩,p⟩:=On h.sg hr h.sg ha;refine⟨E.1,λR K hR y=>?_⟩;have hH:=h.hr;rw[E.2]at hH;have V:St g.I g.w (AH++(U++(F++T))):=h.st.perm (by have:=(hp.append_right T).append_left AH;rwa [a2 U F T]at this)
   refine WY.mono (j g.I g.w (F++T) U AH ws m hH V) (λv H w' e⟨AH',A',H',P,L,b,io,us,B1,N,O,M,Q,k6,k7⟩=>?_) (λv H w' e⟨AH',H',t,l,u,P,L,O,M,Q⟩=>?_)
   .subst O M;let S:B4:={g with I:=H,w:=w'}
    have s:Le g S:=⟨e,a3 _,λ_ _=>rfl,rfl⟩
    obtain⟨G,C,d,n,z,x,Z⟩:=Un (g:=S) Q;have i:=s.trans C;have W:Fg G (ioB σ.args aE io) N:=o G io N i (by rw[n,d];exact k6);have D:=Z.app (W.app (p.mono i));have B:St G.I G.w (AH'++((B1++(N++F))++T)):=by rw[n,d];simpa [a2] using P
    have J:S.n=c.nx:=h.n;rw[J]at z x D;obtain⟨a,c',g3,m1,m2,m3,m4,m5⟩:=Ahp h i E.2 k7 z (by rw[n,d];exact L) D B x;have:=y _ a c' g3 _ _ (i.trans m2) m4 m5 m1;rw[m3,d]at this;exact this
   .refine hR v w' H AH' H' t l u (h.le.trans e) ?_ L O M Q;exact D8 P
  .exact j.elim
 .exact j.elim
def mkT:(ts:List Ty)->List (AV Y)->Option (I5 Y ts)
 | [],[]=>some ()
 |t::ts,a::aE=>match Ug t a,mkT ts aE with
  |some x,some r=>some (x,r)
  |_,_=>none
 |_,_=>none
theorem Zb{g:B4}:∀{ts:List Ty}{aE:List (AV Y)}{x:I5 Y ts}{vs:List Value},mkT ts aE=some x->F2 (AR g) aE vs->We Y g.I g.w ts x vs
 | [],[],_,_,_,.nil=>rfl
 |t::ts,a::aE,x,v::vs,h,.cons b e=>by
  unfold mkT at h;split at h
  .rename_i y r c d;cases h;exact⟨v,vs,rfl,Dh c b,Zb d e⟩
  .cases h
 |[],_::_,_,_,h,_|_::_,[],_,_,h,_=>by simp [mkT]at h
def fvX(X:Tz Y)(c:Cf Y)(aE rs:List Ty)(F:FT Y aE rs)(l:List (AV Y))(k:AV Y->Cf Y->Prop):Prop:=match mkT aE l,c.op with
 |some x,none=>F x c.H (λb H'=>As4 c c.sg c.nx H' k (PB rs b)) X
 |_,_=>False
def Aov(sigs:FuncId->Option Bi)(X:Tz Y)(c:Cf Y)(cl:Operand)(aE:Array Operand)(k:AV Y->Cf Y->Prop):Prop:=match evL c aE.toList with
 |some l=>match cl with
  | .func q=>VZ sigs X c q l k
  |x=>match En c x with
   |some (.own j)=>match Ie c.sg j with
    |some (.clo q fs cs)=>VZ sigs X c q (fs++(l++cs)) k
    |_=>False
   |some (.val (.func (.func q) ⟨[]⟩ ⟨[]⟩))=>VZ sigs X c q l k
   |some (.fn aE rs F)=>fvX X c aE rs F l k
   |_=>False
 |none=>False
theorem Aou{sigs:FuncId->Option Bi}{X:Tz Y}(h:RG g0 T c f g AH A){cl:Operand}{aE:Array Operand}{at_:Array TypeId}(d:Aov sigs X c cl aE k):Atd g0 T X f g.w (.call ⟨.value cl,aE,at_⟩) k g:=by
 intro N ops R K os dst ty Z af C i;unfold Aov at d;split at d
 .rename_i l hl;have D:=O4 h hl;split at d
  .rename_i q;obtain⟨B,p⟩:=OB h d D;exact Amh B (p R _ C i) rfl (λv n o _ h=>h) (λv n o _ h=>h)
  .rename_i x hx0;split at d
   .rename_i j y;split at d
    .rename_i q fs cs hs;obtain⟨A1,A2,_,_,⟨_,vs,us,h3,h4,h5⟩,_⟩:=h.sg.take hs;obtain⟨B,p⟩:=OB h d (h4.app (D.app h5));exact Af7 B (p R _ C i) ((h.ev y).2.trans h3) (by simp) (λv n o _ h=>h) (λv n o _ h=>h)
    .exact d.elim
   .rename_i q y;obtain⟨B,p⟩:=OB h d D;exact Af7 B (p R _ C i) (h.ev y) (by simp) (λv n o _ h=>h) (λv n o _ h=>h)
   .rename_i as' rs F y;unfold fvX at d;split at d
    .rename_i x p z;obtain⟨_,r⟩:=h.ev y;have P:=h.hr;rw[z]at P;refine A0c (vs:=aE.toList.map (ev f)) rfl (Clb.mono (r x c.H _ X d g.I g.w (Ext.refl _ _) (A++T) AH _ (Zb p D) P h.st) λe o he=>?_);rcases he with ⟨v,n,rfl,e,s,A',M,E,L,H,b,us,G,J,V⟩|⟨v,n,rfl,e,s,M,t,l,u,E,L,H,G,J⟩
     .subst H G;let O:B4:={g with I:=n,w:=o}
      have m:Le g O:=⟨e,a3 _,λ_ _=>rfl,rfl⟩
      obtain⟨a,S,g3,U,m2,W,Q,m5⟩:=Ahp (g':=O) h m z V h.n L (h.sg.mono m) (by simpa using E) (Pa J);have:=i _ a S g3 _ _ (m.trans m2) Q m5 U;rw[W]at this;exact this
     .exact C v o n s M t l u (h.le.trans e) (D8 E) L H G J
    .exact d.elim
   .exact d.elim
 .exact d.elim
end
end
section
section
variable {Y:Sys}
def pl1:Ty->Bool
 | .int _ | .bool | .str | .ptr | .mref=>true
 |_=>false
def vl1:(t:Ty)->den Y.D t->Value
 | .int k,n=>.int k n
 | .bool,b=>.bool b
 | .str,s=>.string s
 | .ptr,p=>.pointer (p.map λb=>⟨b,0,none⟩)
 | .mref,p=>.map p
 |.sl _,_|.u _,_=>undef
def rg1:(t:Ty)->den Y.D t->Prop
 | .int k,n=>Bn k n
 | .str,s=>s.size<=NA
 |.bool,_|.ptr,_|.mref,_|.sl _,_|.u _,_=>True
variable {w:World}
theorem Atl{t:Ty}(h:pl1 t=true){I:Cc}{v:Value}{x:den Y.D t}:rp Y.toUS t I w v x↔v=vl1 t x/\rg1 t x:=by
 cases t with
 |int k=>exact AT
 |bool=>exact GN.trans ⟨λh=>⟨h,trivial⟩,λh=>h.1⟩
 |str=>exact LX
 |ptr=>exact Lb.trans ⟨λh=>⟨h,trivial⟩,λh=>h.1⟩
 |mref=>exact KG.trans ⟨λh=>⟨h,trivial⟩,λh=>h.1⟩
 |sl e|u n=>simp [pl1]at h
def plT:List Ty->Bool
 | []=>true
 |t::ts=>pl1 t&&plT ts
def vlT:(ts:List Ty)->I5 Y ts->List Value
 | [],_=>[]
 |t::ts,x=>vl1 t x.1::vlT ts x.2
def rgT:(ts:List Ty)->I5 Y ts->Prop
 | [],_=>True
 |t::ts,x=>rg1 t x.1/\rgT ts x.2
theorem SK:∀{ts:List Ty},plT ts=true->∀{I:Cc}{w:World}{x:I5 Y ts}{vs:List Value},We Y I w ts x vs↔vs=vlT ts x/\rgT ts x
 | [],_,I,w,x,vs=>⟨λh=>⟨h,trivial⟩,λh=>h.1⟩
 |t::ts,h,I,w,x,vs=>by
  simp only[plT,a1]at h;constructor
  .rintro⟨v,f,c,a,b⟩;obtain⟨e,d⟩:=(Atl h.1).1 a;obtain⟨i,g⟩:=(SK h.2).1 b;exact⟨by rw[c,e,i];rfl,d,g⟩
  .rintro⟨c,a,b⟩;exact⟨_,_,c,(Atl h.1).2 ⟨rfl,a⟩,(SK h.2).2 ⟨rfl,b⟩⟩
def Gw(Y:Sys)(I:Cc)(w:World):Prop:=(∀b,I b->b<w.heap.size)/\(P8 Y).gl I w
variable {f:Fr}
theorem RG.gw{Y:Sys}{g0 g:B4}{T AH A:Bd}{c:Cf Y}(h:RG g0 T c f g AH A)(s:Sx g w):Gw Y g.I w:=by
 refine⟨λb e=>a5 (h.st.imm b e) s.ext.size,(P8 Y).glm s.ext ?_⟩;have a:=h.hr;unfold HR at a;split at a
 .obtain⟨L,_,d⟩:=a.ex;exact d.gl
 .obtain⟨L,_,d⟩:=a.1.ex;exact d.gl
structure PF(Y:Sys)(q:FuncId) where
 ta:List Ty
 tr:List Ty
 Mg:Option (I5 Y ta->Prop)
 F:I5 Y ta->I5 Y tr
 pa:plT ta=true
 pr:plT tr=true
 can:CO Y.P q=true
 ok:∀a,rgT ta a->(∀d,Mg=some d->d a)->∀I w,Gw Y I w->Calls Y.P q ⟨vlT ta a⟩ w λe w'=>e=.returned (KI (vlT tr (F a)))/\w'=w/\rgT tr (F a)
def Aqm(c:Cf Y)(k:AV Y->Cf Y->Prop):List (AV Y)->Prop
 | [a]=>k a c
 |l=>k (.own c.nx) {c with sg:=(c.nx,.tp l)::c.sg,nx:=c.nx+1}
variable {q:FuncId}
def pfX(p:PF Y q)(c:Cf Y)(l:List (AV Y))(k:AV Y->Cf Y->Prop):Prop:=match mkT p.ta l with
 |some x=>match p.Mg with
  |none=>Aqm c k (PB p.tr (p.F x))
  |some d=>(rgT p.ta x->d x)/\Aqm c k (PB p.tr (p.F x))
 |none=>False
theorem Avp{p:PF Y q}{g0 g:B4}{T AH A:Bd}{c:Cf Y}(h:RG g0 T c f g AH A){l:List (AV Y)}{vs:List Value}{k:AV Y->Cf Y->Prop}(i:pfX p c l k)(G:F2 (AR g) l vs):∃v a c' g',k a c'/\g'.w=g.w/\Le g g'/\RG g0 T c' f g' AH A/\AR g' a v/\∀w,Sx g w->Calls Y.P q ⟨vs⟩ w λe w'=>e=.returned v/\w'=w:=by
 unfold pfX at i;split at i
 .rename_i x B;obtain⟨C,n⟩:=(SK p.pa).1 (Zb B G);have t:(∀d,p.Mg=some d->d x)/\Aqm c k (PB p.tr (p.F x)):=by
   split at i
   .rename_i z;exact⟨λd h=>(by rw[z]at h;cases h),i⟩
   .rename_i d z;exact⟨λN h=>(by rw[z]at h;cases h;exact i.1 n),i.2⟩
  obtain⟨t,o⟩:=t;have H:rgT p.tr (p.F x):=by obtain⟨e,w',M,L,_⟩:=p.ok x n t g.I g.w (h.gw (Sx.refl g)) [];exact L.2.2
  have m:F2 (AR g) (PB p.tr (p.F x)) (vlT p.tr (p.F x)):=Pa ((SK p.pr).2 ⟨rfl,H⟩);have u:∀w,Sx g w->Calls Y.P q ⟨vs⟩ w λe w'=>e=.returned (KI (vlT p.tr (p.F x)))/\w'=w:=λw K=>by rw[C];exact Calls.mono (p.ok x n t g.I w (h.gw K)) λe w' D=>⟨D.1,D.2.1⟩
  generalize PB p.tr (p.F x)=J at o m;generalize vlT p.tr (p.F x)=j at u m;unfold Aqm at o;split at o
  .cases m with
   |cons E I=>cases I;exact⟨_,_,c,g,o,rfl,Le.refl _,h,E,u⟩
  .rename_i y;have F:KI j=.tuple ⟨j⟩:=by
    cases m with
    |nil=>rfl
    |cons C n=>
     cases n with
     |nil=>exact qG rfl (y _)
     |cons _ _=>rfl
   rw[F]at u;have b:=Le.new (g:=g) (v:=.tuple ⟨j⟩) (Ext.refl g.I g.w);have:=h.new (s:=.tp J) (v:=.tuple ⟨j⟩) (A1:=[]) (w':=g.w) (Ext.refl _ _) ⟨rfl,j,g.BC _ _,m.mono λ_ _ r=>r.mono b⟩ h.st;exact⟨_,_,_,g.new g.w (.tuple ⟨j⟩),o,rfl,b,this,FI h.n,u⟩
 .exact i.elim
theorem SP{aE:Array Operand}{at_:Array TypeId}(d:CO Y.P q=true)(dst:Option Tmp)(ty:TypeId)(a:String)(b:Array Edge)(c:Option (Nat×Bool)):(execOp (ev f) ⟨dst,.call ⟨.value (.func q),aE,at_⟩,ty,a,b,c⟩).run Y.P w=.ok (.enter q ⟨aE.toList.map (ev f)⟩) w:=by simp [execOp,resolve,ev,Deferred.ofValue,invoke,Mo d];rw[<-bl]
end
end
section
section
variable {Y:Sys}
structure T2(Y:Sys)(q:FuncId) where
 tr:Cf Y->List (AV Y)->Tz Y->(AV Y->Cf Y->Prop)->Prop
 can:CO Y.P q=true
 ok:∀{g0 g:B4}{T AH A:Bd}{c:Cf Y}{f:Fr}{aE:List (AV Y)}{vs:List Value}{X:Tz Y}{k:AV Y->Cf Y->Prop},RG g0 T c f g AH A->F2 (AR g) aE vs->tr c aE X k->
  ∀(R:List PanicEntry->World->Prop)(K:Value->World->Prop),G9 g0 T X R->(∀v a c' g' AH' A',Le g g'->RG g0 T c' f g' AH' A'->AR g' a v->k a c'->K v g'.w)->
   Calls Y.P q ⟨vs⟩ g.w λe w'=>match e with
    | .returned v=>K v w'
    | .panicked ch=>R ch w'
    | .outgrown=>False
def ilC(il:(q:FuncId)->Option (T2 Y q)):Operand->Option ((q:FuncId)×T2 Y q)
 | .func q=>match il q with
  |some p=>some ⟨q,p⟩
  |none=>none
 |_=>none
theorem Axg{il:(q:FuncId)->Option (T2 Y q)}{cl:Operand}{r:(q:FuncId)×T2 Y q}(h:ilC il cl=some r):cl=.func r.1:=by
 unfold ilC at h;split at h
 .split at h
  .cases h;rfl
  .cases h
 .cases h
def ilX(X:Tz Y)(c:Cf Y)(r:(q:FuncId)×T2 Y q)(aE:Array Operand)(K:AV Y->Cf Y->Prop):Prop:=match evL c aE.toList with
 |some l=>r.2.tr c l X K
 |none=>False
variable {X:Tz Y} {g0 g:B4} {T AH A:Bd} {c:Cf Y} {f:Fr} {aE:Array Operand} {at_:Array TypeId} {k:AV Y->Cf Y->Prop}
theorem Axe(h:RG g0 T c f g AH A){r:(q:FuncId)×T2 Y q}(b:ilX X c r aE k):Atd g0 T X f g.w (.call ⟨.value (.func r.1),aE,at_⟩) k g:=by
 intro N d R K n i t o u m a;unfold ilX at b;split at b
 .rename_i l s;refine Vi r.2.can rfl ?_;exact Calls.mono (r.2.ok h (O4 h s) b R (λv j=>WL Y.P N d R false K n (Go.X.put N f i v) j) m a) λe j p=>by cases e<;>exact p
 .exact b.elim
def C0{ω:Type}(H:Hp ω)(b:Nat):Hp ω:=λc=>if c=b then none else H c
def Hq{ω:Type}(H:Hp ω)(b:Nat)(o:Option ω):Hp ω:=λc=>if c=b then o else H c
theorem RO{K:HK (Ob Y)}{I:Cc}{w:World}{H:HH Y}{b:Nat}(h:HpX K I w H b A)(e:∀p∈A,p.1≠b):Hu K I w (C0 H b) A:=by
 obtain⟨L,f,d⟩:=h.ex;refine⟨L,λc=>?_,d⟩;unfold C0;by_cases a:c=b
 .subst a;rw[UV rfl];exact d.fresh e
 .rw[GT a];exact f c a
theorem Ags{K:HK (Ob Y)}{I:Cc}{w:World}{H:HH Y}{b:Nat}{o:Option (Ob Y)}(h:Hu K I w H A):HpX K I w (Hq H b o) b A:=by obtain⟨L,a,e⟩:=h.ex;exact⟨L,λc d=>by rw[a c,Hq,GT d],e⟩
def ilO(X:Tz Y)(c:Cf Y)(o:Wr Y)(r:(q:FuncId)×T2 Y q)(aE:Array Operand)(K:AV Y->Cf Y->Prop):Prop:=match evL c aE.toList,Ie c.sg o.i with
 |some l,some (.blk _)=>r.2.tr {c with H:=C0 c.H o.b,op:=none} l X λa c'=>cls c' λc'=>match Ie c'.sg o.i with
  |some (.blk _)=>c'.H o.b=none->K a {c' with H:=Hq c'.H o.b (c.H o.b),op:=some o}
  |_=>False
 |_,_=>False
theorem Axf(h:RG g0 T c f g AH A){o:Wr Y}(ho:c.op=some o){r:(q:FuncId)×T2 Y q}(E:ilO X c o r aE k):Atd g0 T X f g.w (.call ⟨.value (.func r.1),aE,at_⟩) k g:=by
 intro N Q R K os G ty pos af hR u;unfold ilO at E;split at E
 .rename_i l cs hl hs;have hH:=h.hr;rw[ho]at hH;obtain⟨hX,h2,Z,h4⟩:=hH;obtain⟨A1,A2,hp,_,⟨b',P,e,rfl,j,_⟩,_⟩:=h.sg.take hs;rw[h4]at j;have B:b'=o.b:=by injection j with j;injection j with j;injection j with j _;exact j.symm
  subst B;have w:(o.b,Obj.cells P e (0,0))∈A:=hp.symm.mem_iff.1 (by simp);have J:∀p∈AH,p.1≠o.b:=λp I e'=>by have hn:=h.st.nodup;rw[au,ap]at hn;exact hn.2.2 p.1 (ak I) o.b (b9.2 ⟨_,a6 _ w,rfl⟩) e'
  have hr:RG g0 T {c with H:=C0 c.H o.b,op:=none} f g AH A:=⟨h.n,h.le,h.st,RO hX J,h.sg,h.hs,h.pt,h.fr⟩
  refine Vi r.2.can rfl ?_;refine Calls.mono (r.2.ok hr (O4 h hl) E R (λv w'=>WL Y.P N Q R false K os (Go.X.put N f G v) w') hR λv a c' g' AH' A' O M ha U=>?_) λe w' he=>by cases e<;>exact he
  obtain⟨F,g2,z,L,s,S,m,b,_,y⟩:=Dt M U;split at s
  .rename_i cs2 V;have t:=b.hr;rw[y]at t;have i:=O.trans m;have D:g2.μ o.i=.pointer (some ⟨o.b,0,none⟩):=by rw[i.μ _ Z];exact h4
   obtain⟨B1,B2,hq,_,⟨b2,C,e2,rfl,d,_⟩,_⟩:=b.sg.take V;rw[D]at d;have W:b2=o.b:=by injection d with d;injection d with d;injection d with d _;exact d.symm
   subst W;have n:F.H o.b=none:=by refine RQ (T:=B2++T) (x:=.cells C e2 (0,0)) t (b.st.perm ?_);refine((hq.append_right T).append_left z).trans ?_;simp only[b4,bb];exact b5
   rw[<-S];refine u v a {F with H:=Hq F.H o.b (c.H o.b),op:=some o} g2 z L i ⟨b.n,b.le,b.st,⟨Ags t,λx hx=>?_,a5 Z i.n,D⟩,b.sg,b.hs,b.pt,b.fr⟩ (ha.mono m) (s n);show Hq F.H o.b (c.H o.b) o.b=_;rw[Hq,UV rfl];exact h2 x hx
  .exact s.elim
 .exact E.elim
def Aox(sigs:FuncId->Option Bi)(X:Tz Y)(c:Cf Y)(o:Wr Y)(q:FuncId)(aE:Array Operand)(K:AV Y->Cf Y->Prop):Prop:=match evL c aE.toList,Ie c.sg o.i with
 |some l,some (.blk _)=>VZ sigs X {c with H:=C0 c.H o.b,op:=none} q l λa c'=>cls c' λc'=>match Ie c'.sg o.i with
  |some (.blk _)=>c'.H o.b=none->K a {c' with H:=Hq c'.H o.b (c.H o.b),op:=some o}
  |_=>False
 |_,_=>False
theorem Aow{sigs:FuncId->Option Bi}(h:RG g0 T c f g AH A){o:Wr Y}(ho:c.op=some o){q:FuncId}(D:Aox sigs X c o q aE k):Atd g0 T X f g.w (.call ⟨.value (.func q),aE,at_⟩) k g:=by
 intro N I R K os F ty pos af hR z;unfold Aox at D;split at D
 .rename_i l cs hl hs;have hH:=h.hr;rw[ho]at hH;obtain⟨hX,h2,h3,h4⟩:=hH;obtain⟨A1,A2,hp,_,⟨b',G,e,rfl,j,_⟩,_⟩:=h.sg.take hs;rw[h4]at j;have t:b'=o.b:=by injection j with j;injection j with j;injection j with j _;exact j.symm
  subst t;have u:(o.b,Obj.cells G e (0,0))∈A:=hp.symm.mem_iff.1 (by simp);have J:∀p∈AH,p.1≠o.b:=λp W e'=>by have hn:=h.st.nodup;rw[au,ap]at hn;exact hn.2.2 p.1 (ak W) o.b (b9.2 ⟨_,a6 _ u,rfl⟩) e'
  have hr:RG g0 T {c with H:=C0 c.H o.b,op:=none} f g AH A:=⟨h.n,h.le,h.st,RO hX J,h.sg,h.hs,h.pt,h.fr⟩
  obtain⟨hc,Q⟩:=OB hr D (O4 h hl);refine Amh hc (Q R (λv O=>WL Y.P N I R false K os (Go.X.put N f F v) O) hR λv a c' g' AH' A' S M ha Z=>?_) rfl (λv I' O _ h=>h) (λv I' O _ h=>h);obtain⟨E,g2,w,P,s,U,m,b,_,C⟩:=Dt M Z;split at s
  .rename_i cs2 V;have r:=b.hr;rw[C]at r;have i:=S.trans m;have y:g2.μ o.i=.pointer (some ⟨o.b,0,none⟩):=by rw[i.μ _ h3];exact h4
   obtain⟨B1,B2,hq,_,⟨b2,B,e2,rfl,d,_⟩,_⟩:=b.sg.take V;rw[y]at d;have L:b2=o.b:=by injection d with d;injection d with d;injection d with d _;exact d.symm
   subst L;have n:E.H o.b=none:=by refine RQ (T:=B2++T) (x:=.cells B e2 (0,0)) r (b.st.perm ?_);refine((hq.append_right T).append_left w).trans ?_;simp only[b4,bb];exact b5
   rw[<-U];refine z v a {E with H:=Hq E.H o.b (c.H o.b),op:=some o} g2 w P i ⟨b.n,b.le,b.st,⟨Ags r,λx Q=>?_,a5 h3 i.n,y⟩,b.sg,b.hs,b.pt,b.fr⟩ (ha.mono m) (s n);show Hq E.H o.b (c.H o.b) o.b=_;rw[Hq,UV rfl];exact h2 x Q
  .exact s.elim
 .exact D.elim
def wrX(c:Cf Y)(op:BinOp)(x y:Operand)(K:AV Y->Cf Y->Prop):Prop:=match En c x,En c y with
 |some a,some b=>match asInt a,asInt b with
  |some (k,m),some (k2,n)=>match Ty.dec (.int k) (.int k2) with
   | .isTrue _=>arW op k m n λr=>K (.dat (.int k) r) c
   | .isFalse _=>False
  |_,_=>False
 |_,_=>False
theorem Aun(h:RG g0 T c f g AH A){op:BinOp}{x y:Operand}{t u:TypeId}{K:AV Y->Cf Y->Prop}(d:wrX c op x y K):∃v a,K a c/\AR g a v/\∀ty,KR Y.P f (.binOp op t x y u) ty v g.w:=by
 unfold wrX at d;split at d
 .rename_i a b E F;split at d
  .rename_i k m G n s D;split at d
   .rename_i e _;cases e;have B:=F9 s (h.ev E);have q:=F9 D (h.ev F);have:∀ty:TypeId,∃r,K (.dat (.int k) r) c/\Bn k r/\∀w,KR Y.P f (.binOp op t x y u) ty (.int k r) w:=λty=>Ao3 (t:=t) (u:=u) (ty:=ty) d B q;obtain⟨r,l,p,i⟩:=this 0;refine⟨_,_,l,AT.2 ⟨rfl,p⟩,λty j o z C=>?_⟩;have:=i g.w j o z C;simpa [execOp] using this
   .exact d.elim
  .exact d.elim
 .exact d.elim
end
end
section
section
variable {Y:Sys}
def Anj(c:Cf Y)(x:Operand):Bool:=match En c x with
 |some (.dat .mref _)=>true
 |_=>false
variable {g0 g:B4} {T AH A:Bd} {c:Cf Y} {f:Fr}
theorem RG.mr(h:RG g0 T c f g AH A)(j:c.op=none){r:Nat}{k e:Ty}{m:List (den Y.D k×den Y.D e)}(t:c.H r=some (.mp k e m)):∃A1 A2,Ws Y k e g.I g.w A1 (.map (some r)) m/\St g.I g.w (A1++(A2++(A++T)))/\∀(d:Bd)(g':B4)(l:List (den Y.D k×den Y.D e)),Le g g'->g'.n=g.n->Ws Y k e g'.I g'.w d (.map (some r)) l->St g'.I g'.w (d++(A2++(A++T)))->RG g0 T {c with H:=Ab c.H r (.mp k e l)} f g' (d++A2) A:=by have n:=h.hr;rw[j]at n;obtain⟨A1,A2,p,w,s⟩:=Hu.take n t h.st;refine⟨A1,A2,p,s,λd g' l b o q u=>⟨o.trans h.n,h.le.trans b.ext,by grind,?_,h.sg.mono b,h.hs.mono b,b.pt h.pt,λi a v=>(h.fr i a v).mono b⟩⟩;show HR _ _ _ _ c.op;rw[j];exact HpX.lay (w.mono b.ext) q
def luR(c:Cf Y)(t:TypeId)(x y:Operand)(ok:Bool)(K:AV Y->Cf Y->Prop):Prop:=cls c λc=>match QB Y.P t,En c x,En c y with
 |some (kt,et),some (.dat .mref p),some b=>match Y.ty kt,Y.ty et with
  |some k,some e=>match Ug k b,Apx (Y:=Y) et e with
   |some kd,some zd=>EZ (Y.km kt k) (∃r,p=some r/\∃m,c.H r=some (.mp k e m)/\(match ok with
    |false=>K (.dat e ((@Ad _ _ (HI Y k) m kd).getD zd)) c
    |true=>K (.own c.nx) {c with sg:=(c.nx,.tp [.dat e ((@Ad _ _ (HI Y k) m kd).getD zd),.prp ((@Ad _ _ (HI Y k) m kd).isSome=true) inferInstance])::c.sg,nx:=c.nx+1}))
   |_,_=>False
  |_,_=>False
 |_,_,_=>False
variable {t:TypeId} {x y:Operand} {K:AV Y->Cf Y->Prop}
theorem Awt(h:RG g0 T c f g AH A){ok:Bool}(a:luR c t x y ok K):OU g0 T f g.w (.lookup t x y ok) K g:=by
 intro N ops R Kw os Z ty pos af j;obtain⟨J,d,o,A1,a,W,i,l,_,F⟩:=Dt h a;rw[<-W];split at a
 .rename_i kt et p b hm ha U;split at a
  .rename_i k e V X;split at a
   .rename_i n Q L hz;obtain⟨C,r,hp,m,E,a⟩:=AG a;have P:=Ze (e:=e) hm C;obtain⟨B1,B2,S,B,M⟩:=l.mr F E;obtain⟨z,v,w⟩:=Ae9 hz d.I d.w;have I:ev f x=.map (some r):=by have:=KG.1 (l.ev ha);rw[this,hp]
    letI:AP (den Y.D k):=RT Y.toUS k
    letI:AP (den Y.D e):=RT Y.toUS e
    letI:DecidableEq (den Y.D k):=HI Y k
    split at a
    .exact Vf P S B I rfl (Dh L (l.ev U)) v w λu D=>j u (.dat e ((Ad m n).getD Q)) J d o A1 i l D a
    .refine Ve P S B I rfl (Dh L (l.ev U)) v w λu D=>?_;generalize H:Value.tuple #[u,.bool (Ad m n).isSome]=G;have q:Le d (d.new d.w G):=Le.new (Ext.refl _ _);refine j G (.own J.nx) _ (d.new d.w G) o A1 (i.trans q) (l.new (A1:=[]) (s:=.tp [.dat e ((Ad m n).getD Q),.prp ((Ad m n).isSome=true) inferInstance]) (Ext.refl _ _) ⟨rfl,[u,.bool (Ad m n).isSome],(d.BC _ _).trans H.symm,.cons (show rp Y.toUS e _ _ u _ from EH q.ext D) (.cons ?_ .nil)⟩ l.st) ?_ a
     .show Value.bool _=Value.bool _;cases hms:(Ad m n).isSome<;>simp
     .rw[<-l.n];exact⟨a4 _,(d.BC _ _).symm⟩
   grind
  grind
 grind
def A0p(c:Cf Y)(t:TypeId)(K:AV Y->Cf Y->Prop):Prop:=cls c λc=>match QB Y.P t with
 |some (kt,et)=>match Y.ty kt,Y.ty et with
  |some k,some e=>∀r,c.H r=none->K (.dat .mref (some r)) {c with H:=Ab c.H r (.mp k e [])}
  |_,_=>False
 |none=>False
theorem Are(h:RG g0 T c f g AH A)(l:A0p c t K):OU g0 T f g.w (.makeMap t none) K g:=by
 intro N M R P Q I X L V n;obtain⟨u,s,m,O,l,G,p,j,_,o⟩:=Dt h l;rw[<-G];split at l
 .split at l
  .rename_i k e U W;letI:AP (den Y.D k):=RT Y.toUS k
   letI:AP (den Y.D e):=RT Y.toUS e
   have E:=j.hr;rw[o]at E;refine X4 (den Y.D k) (den Y.D e) j.st λv S y x D B=>?_;obtain⟨b,z,F,rfl,rfl,_⟩:=@Cz.ex _ _ (RT Y.toUS k) (RT Y.toUS e) _ _ _ _ _ B;let C:B4:={s with w:=y}
   have d:Le s C:=⟨x,a3 _,λ_ _=>rfl,rfl⟩
   have r:Hu (P8 Y) s.I y u.H m:=Hu.mono E x;have q:(P8 Y).ob (.mp k e []) s.I y [(b,.map z F)] b:=B;refine n _ (.dat .mref (some b)) {u with H:=Ab u.H b (.mp k e [])} C ([(b,.map z F)]++m) O (p.trans d) ⟨j.n,j.le.trans x,by grind,?_,j.sg.mono d,j.hs.mono d,d.pt j.pt,λi a J=>(j.fr i a J).mono d⟩ (KG.2 rfl) (l b (Hu.fresh r q D));show HR _ _ _ _ u.op;rw[o];exact Hu.new r q
  grind
 grind
def upR(c:Cf Y)(t:TypeId)(x y z:Operand)(K:AV Y->Cf Y->Prop):Prop:=cls c λc=>match QB Y.P t,En c x,En c y,En c z with
 |some (kt,et),some (.dat .mref p),some b,some d=>match Y.ty kt,Y.ty et with
  |some k,some e=>match Ug k b,Ug e d with
   |some kd,some ed=>EZ (Y.km kt k) (∃r,p=some r/\∃m,c.H r=some (.mp k e m)/\K (.val undef) {c with H:=Ab c.H r (.mp k e (@BR _ _ (HI Y k) m kd ed))})
   |_,_=>False
  |_,_=>False
 |_,_,_,_=>False
theorem Aks(h:RG g0 T c f g AH A){z:Operand}(a:upR c t x y z K):OU g0 T f g.w (.mapUpdate t x y z) K g:=by
 intro N W R Kw os G ty V af j;obtain⟨c1,q,F,A1,a,X,i,o,_,u⟩:=Dt h a;rw[<-X];split at a
 .rename_i kt et p b d Q J M I;split at a
  .rename_i k e E H;split at a
   .rename_i L O Z he;obtain⟨s,r,hp,m,B,a⟩:=AG a;have hT:=Ze (e:=e) Q s;obtain⟨B1,B2,ho,D,n⟩:=o.mr u B;have S:ev f x=.map (some r):=by have:=KG.1 (o.ev J);rw[this,hp]
    letI:AP (den Y.D k):=RT Y.toUS k
    letI:AP (den Y.D e):=RT Y.toUS e
    letI:DecidableEq (den Y.D k):=HI Y k
    refine Aaz hT ho D S rfl rfl (Dh Z (o.ev M)) (Dh he (o.ev I)) λU v P s1 C=>?_;have l:Le q {q with w:=v}:=⟨P,a3 _,λ_ _=>rfl,rfl⟩
    exact j undef (.val undef) _ {q with w:=v} _ A1 (i.trans l) (n U {q with w:=v} (BR m L O) l rfl C s1) rfl a
   grind
  grind
 grind
def dlR(c:Cf Y)(t:TypeId)(x y:Operand)(K:AV Y->Cf Y->Prop):Prop:=cls c λc=>match QB Y.P t,En c x,En c y with
 |some (kt,et),some (.dat .mref p),some b=>match Y.ty kt,Y.ty et with
  |some k,some e=>match Ug k b with
   |some kd=>EZ (Y.km kt k) (∃r,p=some r/\∃m,c.H r=some (.mp k e m)/\K (.val (.tuple #[])) {c with H:=Ab c.H r (.mp k e (@Db _ _ (HI Y k) m kd))})
   |_=>False
  |_,_=>False
 |_,_,_=>False
theorem Axv(h:RG g0 T c f g AH A){at_:Array TypeId}(s:at_[0]?=some t)(a:dlR c t x y K):OU g0 T f g.w (.call ⟨.builtin .delete,#[x,y],at_⟩) K g:=by
 intro N H R Kw os F ty W af i;obtain⟨c1,n,AH1,S,a,G,d,o,_,B⟩:=Dt h a;rw[<-G];split at a
 .rename_i kt et p b O I L;split at a
  .rename_i k e D E;split at a
   .rename_i X U;obtain⟨q,r,hp,m,v,a⟩:=AG a;have V:=Ze (e:=e) O q;obtain⟨B1,B2,Z,C,l⟩:=o.mr B v;have P:ev f x=.map (some r):=by have:=KG.1 (o.ev I);rw[this,hp]
    letI:AP (den Y.D k):=RT Y.toUS k
    letI:AP (den Y.D e):=RT Y.toUS e
    letI:DecidableEq (den Y.D k):=HI Y k
    refine Aa0 V Z C P rfl (Dh U (o.ev L)) s λQ u J M z=>?_;have j:Le n {n with w:=u}:=⟨J,a3 _,λ_ _=>rfl,rfl⟩
    exact i _ (.val (.tuple #[])) _ {n with w:=u} _ S (d.trans j) (l Q {n with w:=u} (Db m X) j rfl z M) rfl a
   grind
  grind
 grind
def lnR(c:Cf Y)(t:TypeId)(x:Operand)(K:AV Y->Cf Y->Prop):Prop:=cls c λc=>match QB Y.P t,En c x with
 |some (kt,et),some (.dat .mref p)=>match Y.ty kt,Y.ty et with
  |some k,some e=>EZ (Y.km kt k) (∃r,p=some r/\∃m:List (den Y.D k×den Y.D e),c.H r=some (.mp k e m)/\(m.length<=9223372036854775807/\K (.nat m.length) c))
  |_,_=>False
 |_,_=>False
theorem Awu(h:RG g0 T c f g AH A){at_:Array TypeId}(n:at_[0]?=some t)(a:lnR c t x K):OU g0 T f g.w (.call ⟨.builtin .len,#[x],at_⟩) K g:=by
 intro N G R X Q F V C P b;obtain⟨w,L,j,J,a,z,d,o,_,l⟩:=Dt h a;rw[<-z];split at a
 .rename_i W U p D y;split at a
  .rename_i k e O M;obtain⟨i,r,v,m,s,B,a⟩:=AG a;have H:=Ze (e:=e) D i;obtain⟨Z,S,E,q,u⟩:=o.mr l s;have I:ev f x=.map (some r):=by have:=KG.1 (o.ev y);rw[this,v]
   letI:AP (den Y.D k):=RT Y.toUS k
   letI:AP (den Y.D e):=RT Y.toUS e
   letI:DecidableEq (den Y.D k):=HI Y k
   exact Amn E q I H n (b _ (.nat m.length) w L j J d o ⟨rfl,B⟩ a)
  grind
 grind
end
end
section
inductive Sh1 where
 |dat (t:Ty)
 |own (t:Ty)
inductive Sh where
 |one (s:Sh1)
 |nat
 |map (k e:Ty)
 |blk (l:List Sh1)
 |arr (t:Ty)
structure LA where
 vars:List (Nat×Sh)
 BD:List Nat
 heap:Bool
structure Env(Y:Sys) where
 N:Nat
 NG:TypeId->Option (List Ty×List Ty)
 sigs:FuncId->Option Bi
 pf:(q:FuncId)->Option (PF Y q)
 X:Tz Y
 lp:List (Nat×LA)
 jn:List (Nat×LA)
 pr:List (Nat×Nat)
 im:List Nat
 wr:List Nat:=[]
 oc:List Nat:=[]
 tk:List Nat:=[]
 hd:List (Nat×List Nat):=[]
 tw:List Nat:=[]
 il:(q:FuncId)->Option (T2 Y q):=λ_=>none
section
variable {Y:Sys}
def Arz(c:Cf Y):AV Y->Cf Y
 | .own i=>match Ie c.sg i with
  |some (.sl _ _)=>c.frz i
  |_=>c
 | .sub i _ _=>c.frz i
 |_=>c
def Agv(c:Cf Y):List (AV Y)->Cf Y
 | []=>c
 |a::l=>Agv (Arz c a) l
def Ox(c:Cf Y)(x:Operand):Cf Y:=match En c x with
 |some a=>Arz c a
 |none=>c
def XQ(c:Cf Y):List Operand->Cf Y
 | []=>c
 |x::l=>XQ (Ox c x) l
variable {g0 g:B4} {T AH A:Bd} {c:Cf Y} {f:Fr}
theorem Agw(h:RG g0 T c f g AH A)(a:AV Y):∃g' A',g'.w=g.w/\Le g g'/\RG g0 T (Arz c a) f g' AH A':=by
 unfold Arz;split
 .split
  .obtain⟨g',A',b,_,e,d⟩:=h.frz _;exact⟨g',A',b,e,d⟩
  .exact⟨g,A,rfl,Le.refl _,h⟩
 .obtain⟨g',A',b,_,e,d⟩:=h.frz _;exact⟨g',A',b,e,d⟩
 .exact⟨g,A,rfl,Le.refl _,h⟩
theorem V0{g0:B4}{T AH:Bd}{f:Fr}:∀(l:List (AV Y)){g:B4}{A:Bd}{c:Cf Y},RG g0 T c f g AH A->∃g' A',g'.w=g.w/\Le g g'/\RG g0 T (Agv c l) f g' AH A'
 | [],g,A,c,h=>⟨g,A,rfl,Le.refl _,h⟩
 |a::l,g,A,c,h=>by obtain⟨p,o,n,k,d⟩:=Agw h a;obtain⟨i,e,m,b,j⟩:=V0 l d;exact⟨i,e,m.trans n,k.trans b,j⟩
theorem JJ(h:RG g0 T c f g AH A)(x:Operand):∃g' A',g'.w=g.w/\Le g g'/\RG g0 T (Ox c x) f g' AH A':=by
 unfold Ox;split
 .exact Agw h _
 .exact⟨g,A,rfl,Le.refl _,h⟩
theorem Ow{g0:B4}{T AH:Bd}{f:Fr}:∀(l:List Operand){g:B4}{A:Bd}{c:Cf Y},RG g0 T c f g AH A->∃g' A',g'.w=g.w/\Le g g'/\RG g0 T (XQ c l) f g' AH A'
 | [],g,A,c,h=>⟨g,A,rfl,Le.refl _,h⟩
 |a::l,g,A,c,h=>by obtain⟨p,o,n,k,d⟩:=JJ h a;obtain⟨i,e,m,b,j⟩:=Ow l d;exact⟨i,e,m.trans n,k.trans b,j⟩
def Ar0(c:Cf Y):List AK->List Operand->Cf Y
 | .dat _::ks,x::l=>Ar0 (Ox c x) ks l
 |_::ks,_::l=>Ar0 c ks l
 |_,_=>c
theorem Zs{g0:B4}{T AH:Bd}{f:Fr}:∀(ks:List AK)(l:List Operand){g:B4}{A:Bd}{c:Cf Y},RG g0 T c f g AH A->∃g' A',g'.w=g.w/\Le g g'/\RG g0 T (Ar0 c ks l) f g' AH A'
 | .dat _::ks,x::l,g,A,c,h=>by obtain⟨o,n,j,m,k⟩:=JJ h x;obtain⟨i,b,e,a,d⟩:=Zs ks l k;exact⟨i,b,e.trans j,m.trans a,d⟩
 |.own _::ks,_::l,g,A,c,h|.map _ _::ks,_::l,g,A,c,h|.mob::ks,_::l,g,A,c,h|.del _::ks,_::l,g,A,c,h|.fbx _ _::ks,_::l,g,A,c,h|.fn _ _::ks,_::l,g,A,c,h=>Zs ks l h
 | [],_,g,A,c,h=>⟨g,A,rfl,Le.refl _,by cases ‹List Operand›<;>exact h⟩
 | .dat _::_,[],g,A,c,h | .own _::_,[],g,A,c,h | .map _ _::_,[],g,A,c,h | .mob::_,[],g,A,c,h | .del _::_,[],g,A,c,h | .fn _ _::_,[],g,A,c,h | .fbx _ _::_,[],g,A,c,h=>⟨g,A,rfl,Le.refl _,h⟩
def An0(sigs:FuncId->Option Bi)(c:Cf Y)(cl:Operand)(l:List Operand):Cf Y:=match cl with
 | .func q=>match sigs q with
  |some σ=>Ar0 c σ.args l
  |none=>c
 |_=>XQ c l
theorem Ar2{sigs:FuncId->Option Bi}(h:RG g0 T c f g AH A)(a:Operand)(l:List Operand):∃g' A',g'.w=g.w/\Le g g'/\RG g0 T (An0 sigs c a l) f g' AH A':=by
 unfold An0;split
 .split
  .exact Zs _ _ h
  .exact⟨g,A,rfl,Le.refl _,h⟩
 .exact Ow _ h
def Ag1(c:Cf Y)(t:TypeId)(ps:Array (Nat×Operand)):Cf Y:=match Y.ty t with
 |some _=>XQ c (ps.toList.map (·.2))
 |none=>c
theorem Abr(h:RG g0 T c f g AH A)(t:TypeId)(ps:Array (Nat×Operand)):∃g' A',g'.w=g.w/\Le g g'/\RG g0 T (Ag1 c t ps) f g' AH A':=by
 unfold Ag1;split
 .exact Ow _ h
 .exact⟨g,A,rfl,Le.refl _,h⟩
def Ub(c:Cf Y)(t:TypeId)(a:AV Y):Cf Y:=match Y.ty t with
 |some (.u _)=>match a with
  | .adr i _=>match Ie c.sg i with
   |some (.blk cs)=>Agv c cs
   |_=>c
  |_=>c
 |_=>c
theorem Ut(h:RG g0 T c f g AH A)(t:TypeId)(a:AV Y):∃g' A',g'.w=g.w/\Le g g'/\RG g0 T (Ub c t a) f g' AH A':=by
 unfold Ub;split
 .split
  .split
   .exact V0 _ h
   .exact⟨g,A,rfl,Le.refl _,h⟩
  .exact⟨g,A,rfl,Le.refl _,h⟩
 .exact⟨g,A,rfl,Le.refl _,h⟩
def hpA(w:Nat):AV Y->AV Y
 | .hp i b o=>match an i w with
  |true=>.adr i o
  |false=>.hp i b o
 |a=>a
variable {a:AV Y}
theorem Anq{w:Nat}{v:Value}(h:AR g a v):AR g (hpA w a) v:=by
 unfold hpA;split
 .split
  .exact⟨h.1,_,h.2.1,h.2.2⟩
  omega
 omega
def hpB:AV Y->AV Y
 | .hp w _ o=>.adr w o
 |a=>a
theorem Anp{v:Value}(h:AR g a v):AR g (hpB a) v:=by
 unfold hpB;split
 .exact⟨h.1,_,h.2.1,h.2.2⟩
 omega
def hpF(w:Nat):List (Nat×AV Y)->List (Nat×AV Y)
 | []=>[]
 |p::l=>(p.1,hpA w p.2)::hpF w l
theorem Aec{w i:Nat}{b:AV Y}:∀{l:List (Nat×AV Y)},HF (hpF w l) i=some b->∃a,HF l i=some a/\b=hpA w a
 | [],h=>by grind[hpF,HF]
 |p::l,h=>by simp only[hpF,HF]at h ⊢;by_cases e:p.1=i;all_goals simp_all[Aec]
def Ak4(c:Cf Y):Cf Y:=match c.op with
 |some o=>match Ie c.sg o.i with
  |some (.blk cs)=>Agv {c with fr:=hpF o.i c.fr,H:=C0 c.H o.b,op:=none} cs
  |_=>c
 |none=>c
theorem Aqb(h:RG g0 T c f g AH A):∃g' A',g'.w=g.w/\Le g g'/\RG g0 T (Ak4 c) f g' AH A':=by
 unfold Ak4;split
 .rename_i o u;split
  .rename_i E y;have q:=h.hr;rw[u]at q;obtain⟨t,I,G,w⟩:=q;obtain⟨F,D,s,_,⟨x,n,e,rfl,d,_⟩,_⟩:=h.sg.take y;rw[w]at d;have j:x=o.b:=by grind
   subst j;have k:(o.b,Obj.cells n e (0,0))∈A:=s.symm.mem_iff.1 (by simp);have m:∀p∈AH,p.1≠o.b:=λp l z=>by have r:=h.st.nodup;rw[au,ap]at r;exact r.2.2 p.1 (ak l) o.b (b9.2 ⟨_,a6 _ k,rfl⟩) z
   have v:RG g0 T {c with fr:=hpF o.i c.fr,H:=C0 c.H o.b,op:=none} f g AH A:=⟨h.n,h.le,h.st,RO t m,h.sg,h.hs,h.pt,λi b B=>by obtain⟨a,C,rfl⟩:=Aec B;exact Anq (h.fr i a C)⟩
   exact V0 _ v
  .exact⟨g,A,rfl,Le.refl _,h⟩
 .exact⟨g,A,rfl,Le.refl _,h⟩
def tkW(c:Cf Y)(t:TypeId)(a:AV Y)(k:AV Y->Cf Y->Prop):Prop:=match c.op with
 |some o=>match Ie c.sg o.i with
  |some (.blk cs)=>match hpB a with
   | .adr i p=>match an i o.i with
    |true=>rdB t cs p λb=>k b {c with fr:=hpF o.i c.fr,H:=C0 c.H o.b,op:=none,sg:=FP c.sg o.i}
    |false=>False
   |_=>False
  |_=>False
 |none=>False
variable {x:Operand} {k:AV Y->Cf Y->Prop}
theorem Auw(h:RG g0 T c f g AH A){t ty:TypeId}(j:tkW c t a k)(Q:AR g a (ev f x)):∃v b c' A',k b c'/\AR g b v/\KR Y.P f (.load t x) ty v g.w/\RG g0 T c' f g AH A':=by
 unfold tkW at j;split at j
 .rename_i o R;split at j
  .rename_i X K;split at j
   .rename_i i p F;split at j
    .rename_i n;have n:i=o.i:=a7 n;subst n;have r:=Anp Q;rw[F]at r;obtain⟨_,U,M,w⟩:=r;have D:=h.hr;rw[R]at D;obtain⟨P,W,Z,G⟩:=D;obtain⟨V,I,l,_,s,z⟩:=h.sg.take K;obtain⟨v,b,O,J,L⟩:=YK (ty:=ty) j s M w;obtain⟨H,B,e,rfl,d,_⟩:=s;rw[G]at d;have q:H=o.b:=by grind
     subst q;have u:(o.b,Obj.cells B e (0,0))∈A:=l.symm.mem_iff.1 (by simp);have y:∀p∈AH,p.1≠o.b:=λp m S=>by have E:=h.st.nodup;rw[au,ap]at E;exact E.2.2 p.1 (ak m) o.b (b9.2 ⟨_,a6 _ u,rfl⟩) S
     have C:=(h.st.perm (F6 l AH)).drop;refine⟨v,b,_,I,O,J,L g.w λp m=>?_,⟨h.n,h.le,C,RO P y,z,h.hs,h.pt,λi b N=>by obtain⟨a,w,rfl⟩:=Aec N;exact Anq (h.fr i a w)⟩⟩
     exact(h.st.own p (List.mem_append_right _ (a6 _ (l.symm.mem_iff.1 (a6 _ m))))).1
    grind
   grind
  grind
 grind
def inD:Option Tmp->List Nat->Bool
 |some d,l=>LZ d l
 |none,_=>false
def Ayb(c:Cf Y)(e:TypeId)(a:AV Y)(k:AV Y->Cf Y->Prop):Prop:=match Y.ty e with
 |some T=>match Ug T a with
  |some d=>k (.del T d 0) c
  |none=>False
 |none=>False
theorem Ass{T0:Bd}(h:RG g0 T0 c f g AH A){e:TypeId}(l:Ayb c e a k)(E:AR g a (ev f x)):OU g0 T0 f g.w (.box e x) k g:=by
 intro N u R K J F H C L m;unfold Ayb at l;split at l
 .rename_i T M;split at l
  .rename_i d v;letI:AP (den Y.D T):=RT Y.toUS T
   refine Av8 (α:=den Y.D T) h.st (Dh v E) rfl λp t r s z G n D=>?_;have j:Le g {g with I:=t,w:=r}:=⟨s,a3 _,λ_ _=>rfl,rfl⟩
   obtain⟨b,q,B⟩:=p;have o:B=none:=n.1;subst o;exact m _ (.del T d 0) c {g with I:=t,w:=r} AH A j ⟨h.n,h.le.trans s,z,h.hr.mono j,h.sg.mono j,h.hs.mono j,j.pt h.pt,λi a y=>(h.fr i a y).mono j⟩ ⟨b,q,_,D,n,G,rfl⟩ l
  grind
 grind
def Ayc(sigs:FuncId->Option Bi)(NG:TypeId->Option (List Ty×List Ty))(c:Cf Y)(e:TypeId)(a:AV Y)(k:AV Y->Cf Y->Prop):Prop:=match NG e with
 |some (aE,rs)=>match asF sigs Td c.sg aE rs a with
  |some F=>k (.fbx aE rs F) c
  |none=>False
 |none=>False
theorem Ast{sigs:FuncId->Option Bi}{NG:TypeId->Option (List Ty×List Ty)}{T0:Bd}(h:RG g0 T0 c f g AH A){e:TypeId}(l:Ayc sigs NG c e a k)(G:AR g a (ev f x)):OU g0 T0 f g.w (.box e x) k g:=by
 intro N u R K H E J D L m;unfold Ayc at l;split at l
 .rename_i y r M;split at l
  .rename_i F s;have t:=Aer s h.sg G;obtain⟨n,z⟩:=h.st.alloc (.cells (ev f x).cells e);obtain⟨o,C⟩:=z.freeze;let q:B4:={g with I:=λb=>g.I b∨∃p,p∈[(g.w.heap.size,Obj.cells (ev f x).cells e)]/\p.1=b,w:=g.w.alloc (.cells (ev f x).cells e)}
   have d:Le g q:=⟨n.trans o,a3 _,λ_ _=>rfl,rfl⟩
   refine Aw (v:=.pointer (some ⟨g.w.heap.size,0,none⟩)) ?_ (m _ (.fbx y r F) c q AH A d ⟨h.n,h.le.trans (n.trans o),C,h.hr.mono d,h.sg.mono d,h.hs.mono d,d.pt h.pt,λi a B=>(h.fr i a B).mono d⟩ ⟨g.w.heap.size,0,ev f x,FvR.mono Y (n.trans o) t,⟨rfl,λj O=>?_⟩,.inr ⟨_,ay.2 rfl,rfl⟩,rfl⟩ l)
   .rfl
   grind[Bo,heap_alloc_new]
  grind
 grind
def lkD:List (Nat×Nat)->Option Tmp->Option Nat
 |_,none|[],_=>none
 |p::l,some d=>match an p.1 d with
  |true=>some p.2
  |false=>lkD l (some d)
def Asl(c:Cf Y)(pr:Option Nat)(k:Cf Y->Prop):Prop:=match pr with
 |none=>k c
 |some _=>cls c k
theorem Ahh(h:RG g0 T c f g AH A){pr:Option Nat}{k:Cf Y->Prop}(a:Asl c pr k):∃c' g' AH' A',k c'/\g'.w=g.w/\Le g g'/\RG g0 T c' f g' AH' A':=by
 unfold Asl at a;split at a
 .exact⟨c,g,AH,A,a,rfl,Le.refl _,h⟩
 .obtain⟨c',g',AH',A',e,b,i,d,_⟩:=Dt h a;grind
def A37:AV Y->Bool
 | .el _ _ _ _=>true
 |_=>false
def pfC(E:Env Y):Op->Option ((q:FuncId)×PF Y q×Array Operand)
 | .call ⟨.value (.func q),aE,_⟩=>match E.pf q with
  |some p=>some ⟨q,p,aE⟩
  |none=>none
 |_=>none
variable {E:Env Y}
theorem Adv{o:Op}{r:(q:FuncId)×PF Y q×Array Operand}(h:pfC E o=some r):∃at_,o=.call ⟨.value (.func r.1),r.2.2,at_⟩:=by unfold pfC at h;grind
def pcX(c:Cf Y)(r:(q:FuncId)×PF Y q×Array Operand)(K:AV Y->Cf Y->Prop):Prop:=match evL c r.2.2.toList with
 |some l=>pfX r.2.1 c l K
 |none=>False
theorem Adw(h:RG g0 T c f g AH A){r:(q:FuncId)×PF Y q×Array Operand}{K:AV Y->Cf Y->Prop}(b:pcX c r K):∃v a c' g',K a c'/\g'.w=g.w/\Le g g'/\RG g0 T c' f g' AH A/\AR g' a v/\∀w,Sx g w->Calls Y.P r.1 ⟨r.2.2.toList.map (ev f)⟩ w λe w'=>e=.returned v/\w'=w:=by
 unfold pcX at b;split at b
 .rename_i l d;exact Avp h b (O4 h d)
 grind
def stF(E:Env Y)(c:Cf Y)(t:TypeId)(x y:Operand):Option ((Cf Y->Prop)->Prop):=match E.NG t,x with
 |some (aE,rs),.tmp p=>match HF c.fr p,En c y with
  |some (.adr i 0),some b=>match Ie c.sg i,asF E.sigs Td c.sg aE rs b with
   |some (.blk [_]),some F=>some λk=>EZ (OZ Y.P t false 1) (k (({c with sg:=FP c.sg i}:Cf Y).set p (.fbx aE rs F)))
   |_,_=>none
  |_,_=>none
 |_,_=>none
theorem Au3(h:RG g0 T c f g AH A){t:TypeId}{y:Operand}{z:(Cf Y->Prop)->Prop}{kk:AV Y->Cf Y->Prop}(m:stF E c t x y=some z)(S:z λc'=>kk (.val undef) c'):OU g0 T f g.w (.store t x y) kk g:=by
 intro N ops R K os dst ty pos af C;unfold stF at m;split at m
 .rename_i J L p hty;split at m
  .rename_i i b hp hb;split at m
   .rename_i a0 F hs hF;cases m;obtain⟨ht,S⟩:=AG S;obtain⟨A1,A2,h1,hin,⟨O,H,e,rfl,Q,hf⟩,V⟩:=h.sg.take hs;have W:=h.st.perm (F6 h1 AH);obtain⟨_,b1,D,hv⟩:=h.fr p _ hp;rw[Q]at D;cases D;have r:=Aer hF h.sg (h.ev hb);have l:(ev f y).cells=#[ev f y]:=by obtain⟨⟨q,n,P,e⟩,_⟩:=r;rw[e];rfl
    have B:(ev f y).oneCell'=true:=by obtain⟨⟨q,n,P,e⟩,_⟩:=r;rw[e];rfl
    have G:H.size=1:=by have:=hf.len;grind
    obtain⟨X,s,k1,k2,Z,k4⟩:=storeCells (o:=0) ht W (by rw[l];rfl) (by grind) (by omega);obtain⟨e2,s2⟩:=Z.freeze;have d:Le g {g with I:=λc=>g.I c∨∃p∈[(O,Obj.cells s e (0,0))],p.1=c,w:=X}:=⟨k2.trans e2,a3 _,λ_ _=>rfl,rfl⟩
    have u:s=#[ev f y]:=by grind
    refine MH (by simp_all[execOp,ev]) (C undef (.val undef) (({c with sg:=FP c.sg i}:Cf Y).set p (.fbx J L F)) {g with I:=λc=>g.I c∨∃p∈[(O,Obj.cells s e (0,0))],p.1=c,w:=X} AH A2 d ⟨h.n,h.le.trans d.ext,s2,h.hr.mono d,V.mono d,h.hs.mono d,d.pt h.pt,λj a k=>?_⟩ rfl S);by_cases v:p=j
    .subst v;have:a=.fbx J L F:=by have k:(if p=p then some (AV.fbx J L F) else HF c.fr p)=some a:=k;grind
     subst this;refine⟨O,0,ev f y,FvR.mono Y d.ext r,⟨rfl,λj k=>?_⟩,.inr ⟨_,ay.2 rfl,rfl⟩,hv⟩;have M:=(Z.own _ (a6 _ (ay.2 rfl))).1;rw[l]at k ⊢;have U:j=0:=by grind
     subst U;subst u;rw[Bo M]
    .have k:(if p=j then some (AV.fbx J L F) else HF c.fr j)=some a:=k;rw[GT v]at k;exact(h.fr j a k).mono d
   grind
  grind
 grind
def xop(E:Env Y)(o:Oper)(c:Cf Y)(k:Cf Y->Prop):Prop:=
 let K:AV Y->Cf Y->Prop:=λa c'=>c'.put E.N o.dst a k
 match o.op with
 | .load t x=>match En c x with
  |some (.del T d off)=>ldD t T d off λa=>K a c
  |some (.fbx aE rs F)=>EZ (OZ Y.P t false 1) (K (.fn aE rs F) c)
  |some a=>match inD o.dst E.tk with
   |true=>match inD o.dst E.tw with
    |true=>Aap c t a λa c=>tkW c t a K
    |false=>Aap c t a λa c=>rdX (Ak4 c) t (hpB a) λb=>K b (Ak4 c)
   |false=>Aap c t a λa c=>rdX (Ub c t a) t a λb=>K b (Ub c t a)
  |none=>False
 | .store t x y=>match stF E c t x y with
  |some z=>z λc'=>K (.val undef) c'
  |none=>match En c x with
   |some a=>match A37 a with
    |true=>match En (Ox c y) y with
     |some b=>stX (Ox c y) t a b λc'=>K (.val undef) c'
     |none=>False
    |false=>Aap c t a λa c=>match En c y with
     |some b=>stX c t a b λc'=>K (.val undef) c'
     |none=>False
   |none=>False
 | .box e x=>match inD o.dst E.im with
  |true=>match En (Ox c x) x with
   |some a=>match E.NG e with
    |none=>Ayb (Ox c x) e a K
    |some _=>Ayc E.sigs E.NG (Ox c x) e a K
   |none=>False
  |false=>Asl c (lkD E.pr o.dst) λc=>match En c x with
   |some a=>Aye c (lkD E.pr o.dst) a K
   |none=>False
 | .alloc e=>Asl c (lkD E.pr o.dst) λc=>Ayo c (lkD E.pr o.dst) e K
 | .buildSlice t n ps=>Ayd (XQ c (ps.toList.map (·.2))) t n ps K
 | .makeSlice t x y=>mkX c t x y K
 | .makeFunc q fs cs=>mfX (XQ c cs.toList) q fs cs K
 | .slice t x lo hi mx=>slX c t x lo hi mx K
 | .makeMap t none=>match Y.ty t with
  |some .mref=>A0p c t K
  |_=>mkM c t K
 | .lookup t x y b=>match Anj c x with
  |true=>luR c t x y b K
  |false=>luX c t x y b K
 | .mapUpdate t x y z=>match Anj c x with
  |true=>upR (Ox c z) t x y z K
  |false=>upM (Ox c z) t x y z K
 | .insert t x y z=>match Anj c x with
  |true=>upR (Ox c z) t x y z K
  |false=>upM (Ox c z) t x y z K
 | .call ⟨.builtin .delete,⟨[x,y]⟩,⟨t::_⟩⟩=>match Anj c x with
  |true=>dlR c t x y K
  |false=>dlM c t x y K
 | .call ⟨.builtin .len,⟨[x]⟩,⟨t::ts⟩⟩=>match Anj c x,A36 c x with
  |true,_=>lnR c t x K
  |false,true=>lnM c t x K
  |false,false=>vop c (.call ⟨.builtin .len,⟨[x]⟩,⟨t::ts⟩⟩) K
 | .build t ps=>vop (Ag1 c t ps) (.build t ps) K
 | .makeInterface t x=>vop (Ox c x) (.makeInterface t x) K
 | .call ⟨.builtin .copy,⟨[x,y]⟩,⟨[t,_]⟩⟩=>cpX c t x y K
 | .call ⟨.builtin .clear,⟨[x]⟩,⟨[t]⟩⟩=>Ax6 c t x K
 | .call ⟨.builtin .append,⟨[x,y]⟩,⟨[t,u]⟩⟩=>EZ (an t u) (Ayn c t x y K)
 | .call ⟨.value cl,aE,at_⟩=>match pfC E (.call ⟨.value cl,aE,at_⟩) with
  |some r=>pcX c r K
  |none=>match ilC E.il cl with
   |some r=>match c.op,inD o.dst E.oc with
    |some op,true=>ilO E.X c op r aE K
    |_,_=>cls c λc=>ilX E.X c r aE K
   |none=>match (An0 E.sigs c cl aE.toList).op,inD o.dst E.oc,cl with
    |some op,true,.func q=>Aox E.sigs E.X (An0 E.sigs c cl aE.toList) op q aE K
    |_,_,_=>cls (An0 E.sigs c cl aE.toList) λc=>Aov E.sigs E.X c cl aE K
 | .binOp bo t x y u=>match inD o.dst E.wr with
  |true=>wrX c bo x y K
  |false=>vop c (.binOp bo t x y u) K
 | .panic x=>cls c λc=>match En c x,c.op with
  |some (.ifc t T d),none=>E.X t ⟨T,d⟩ c.H
  |_,_=>False
 |op=>vop c op K
variable {o:Oper} {ops:Array Oper}
theorem Ac7(h:RG g0 T c f g AH A){k:Cf Y->Prop}(hg:o.guard=none)(i:xop E o c k){R:List PanicEntry->World->Prop}{K:Fr->World->Prop}{os:List Oper}(hR:G9 g0 T E.X R)(next:∀c' f' g' AH' A',Le g g'->RG g0 T c' f' g' AH' A'->k c'->WL Y.P E.N ops R false K os f' g'.w):WL Y.P E.N ops R false K (o::os) f g.w:=by
 obtain⟨n,P,ty,q,I,gd⟩:=o;simp only at hg;subst hg;have w:∀{s:B4},Le g s->∀v a c' g' AH' A',Le s g'->RG g0 T c' f g' AH' A'->AR g' a v->c'.put E.N n a k->WL Y.P E.N ops R false K os (Go.X.put E.N f n v) g'.w:=λ{s}hle1 v a c' g' AH' A' j l B hk=>by obtain⟨c2,g2,k1,k2,k3,k4,k5⟩:=l.put B hk;rw[<-k2];exact next c2 _ g2 _ _ ((hle1.trans j).trans k4) k5 k1
 have m:∀{c1:Cf Y}{s:B4}{AH y:Bd},s.w=g.w->Le g s->RG g0 T c1 f s AH y->∀{P:Op},OU g0 T f s.w P (λa c'=>c'.put E.N n a k) s->WL Y.P E.N ops R false K (⟨n,P,ty,q,I,none⟩::os) f g.w:=λp j l P he=>by rw[<-p];exact he E.N ops R K os n ty q I (w j)
 have O:∀{c1:Cf Y}{s:B4}{y:Bd},s.w=g.w->Le g s->RG g0 T c1 f s AH y->∀{P:Op},vop c1 P (λa c'=>c'.put E.N n a k)->WL Y.P E.N ops R false K (⟨n,P,ty,q,I,none⟩::os) f g.w:=λp j l P hv=>by obtain⟨v,a,c',g',Q,hw',hle',S,h3,h4⟩:=Adb (ty:=ty) l hv;rw[<-p];refine Aw (h4 _ (Sx.refl _) n q I none) ?_;have:=w j v a c' _ AH _ hle' S h3 Q;rwa [hw']at this
 unfold xop at i;simp only at i;split at i
 .split at i
  .rename_i B;obtain⟨b,off,u,Q,S,h3,h4⟩:=h.ev B;obtain⟨v,a,W,X,V⟩:=Ad9 (ty:=ty) (k:=λa=>c.put E.N n a k) i Q S h3 h4;exact Aw (V _ (Sx.refl _) n q I none) (w (Le.refl _) v a c g AH A (Le.refl _) h X W)
  .rename_i aE rs F B;obtain⟨ht,i⟩:=AG i;obtain⟨v,Q,S⟩:=Anc (ty:=ty) ht (h.ev B);exact Aw (S _ (Sx.refl _) n q I none) (w (Le.refl _) v _ c g AH A (Le.refl _) h Q i)
  .rename_i a _ _ B;split at i
   .split at i
    .obtain⟨a,c0,g0',M,A0,i,H,x,C,G⟩:=Pm h i (h.ev B);obtain⟨v,b,c1,y,W,X,V,l⟩:=Auw (ty:=ty) C i G;rw[<-H];exact Aw (V n q I none) (w x v b _ g0' M y (Le.refl _) l X W)
    obtain⟨a,c0,g0',M,A0,i,H,x,C,G⟩:=Pm h i (h.ev B);obtain⟨s,y,p,j,l⟩:=Aqb C;obtain⟨v,b,W,X,V⟩:=UR (ty:=ty) (k:=λb=>(Ak4 c0).put E.N n b k) l i (Anp (G.mono j));rw[<-H,<-p];exact Aw (V n q I none) (w (x.trans j) v b _ s M y (Le.refl _) l X W)
   obtain⟨a,c0,g0',M,A0,i,H,x,C,G⟩:=Pm h i (h.ev B);obtain⟨s,y,p,j,l⟩:=Ut C _ a;obtain⟨v,b,W,X,V⟩:=UR (ty:=ty) (k:=λb=>(Ub c0 _ a).put E.N n b k) l i (G.mono j);rw[<-H,<-p];exact Aw (V n q I none) (w (x.trans j) v b _ s M y (Le.refl _) l X W)
  .exact i.elim
 .split at i
  .rename_i z hz;exact m rfl (Le.refl _) h (Au3 (kk:=λa c'=>c'.put E.N n a k) h hz i)
  .split at i
   .rename_i a B;split at i
    .split at i
     .rename_i b hb;obtain⟨s,y,p,j,l⟩:=JJ h _;exact m p j l (Ala (kk:=λa c'=>c'.put E.N n a k) l i ((h.ev B).mono j) (l.ev hb))
     .exact i.elim
    .obtain⟨a,c0,s,M,A0,i,H,x,C,G⟩:=Pm h i (h.ev B);split at i
     .rename_i b hb;exact m H x C (Ala (kk:=λa c'=>c'.put E.N n a k) C i G (C.ev hb))
     .exact i.elim
   .exact i.elim
 .split at i
  .split at i
   .rename_i a B;obtain⟨s,y,p,j,l⟩:=JJ h _;split at i
    .exact m p j l (Ass l i (l.ev B))
    .exact m p j l (Ast l i (l.ev B))
   .exact i.elim
  .obtain⟨c1,s,AH1,y,i,p,j,l⟩:=Ahh h i;split at i
   .rename_i a B;exact m p j l (Asv l i (l.ev B))
   .exact i.elim
 .obtain⟨c1,s,AH1,y,i,p,j,l⟩:=Ahh h i;exact m p j l (As2 l i)
 .obtain⟨s,y,p,j,l⟩:=Ow _ h;exact m p j l (Asu l i)
 .exact m rfl (Le.refl _) h (Awn h i)
 .obtain⟨s,y,p,j,l⟩:=Ow _ h;exact m p j l (Awr l i)
 .exact m rfl (Le.refl _) h (Au6 h i)
 .split at i
  .exact m rfl (Le.refl _) h (Are h i)
  .exact m rfl (Le.refl _) h (Awp h i)
 .split at i
  .exact m rfl (Le.refl _) h (Awt h i)
  .exact m rfl (Le.refl _) h (Aws h i)
 .obtain⟨s,y,p,j,l⟩:=JJ h _;split at i
  .exact m p j l (Aks l i)
  .exact m p j l (Akt l i)
 .obtain⟨s,y,p,j,l⟩:=JJ h _;split at i
  .exact m p j l (Aks l i).ins
  .exact m p j l (Akt l i).ins
 .split at i
  .exact m rfl (Le.refl _) h (Axv h rfl i)
  .exact m rfl (Le.refl _) h (Axw h rfl i)
 .split at i
  .exact m rfl (Le.refl _) h (Awu h rfl i)
  .exact m rfl (Le.refl _) h (Awv h rfl i)
  .exact O rfl (Le.refl _) h i
 .obtain⟨s,y,p,j,l⟩:=Abr h _ _;exact O p j l i
 .obtain⟨s,y,p,j,l⟩:=JJ h _;exact O p j l i
 .exact m rfl (Le.refl _) h (Ax0 h i)
 .exact m rfl (Le.refl _) h (Asm h i)
 .replace i:=AG i;obtain⟨ht,i⟩:=i;have ht:=a7 ht;subst ht;exact m rfl (Le.refl _) h (As1 h i)
 .rename_i cl aE at_
  split at i
  .rename_i r l;obtain⟨at2,he⟩:=Adv l;cases he;obtain⟨v,a,c',g',k1,k2,k3,k4,k5,k6⟩:=Adw h i;refine Vi r.2.1.can rfl (Calls.mono (k6 g.w (Sx.refl g)) λe w' he=>?_);obtain⟨rfl,rfl⟩:=he;have:=w (Le.refl _) v a c' g' AH A k3 k4 k5 k1;rw[k2]at this;exact this
  split at i
  .rename_i r l;obtain rfl:=Axg l;split at i
   .rename_i P Z _;exact Axf h Z i E.N ops R K os n ty q I hR (w (Le.refl _))
   .obtain⟨c2,g2,U,A2,i,N,J,D,_⟩:=Dt h i;rw[<-N];exact Axe D i E.N ops R K os n ty q I hR (w J)
  obtain⟨s,y,p,j,l⟩:=Ar2 (sigs:=E.sigs) h cl aE.toList;split at i
  .rw[<-p];exact Aow l (by assumption) i E.N ops R K os n ty q I hR (w j)
  obtain⟨c2,g2,U,A2,i,N,J,D,_⟩:=Dt l i;rw[<-p,<-N];exact Aou D i E.N ops R K os n ty q I hR (w (j.trans J))
 .split at i
  .obtain⟨v,a,Q,S,h3⟩:=Aun h i;exact Aw (h3 ty n q I none) (w (Le.refl _) v a c g AH A (Le.refl _) h S Q)
  .exact O rfl (Le.refl _) h i
 .obtain⟨c2,g2,U,A2,i,N,J,D,_⟩:=Dt h i;split at i
  .rename_i t T d B Z;obtain⟨u,Q,S⟩:=D.ev B;have hH:=D.hr;rw[Z]at hH;rw[<-N];exact Aqy Q (hR _ _ g2.I U c2.H t ⟨T,d⟩ u D.le (D8 D.st) hH rfl S i)
  .exact i.elim
 .exact O rfl (Le.refl _) h i
variable {j d:Nat}
theorem Aze(a:(ops[j]?).bind (·.dst)=some d)(c:∀b,f d≠.bool b):yl ops f j=none:=by unfold yl;rw[a];simp only
theorem Xf{b:Bool}(a:o.guard=some (j,b))(e:(ops[j]?).bind (·.dst)=some d)(c:∀b,f d≠.bool b):Region.wanted o (yl ops f)=false:=by simp [Region.wanted,a,Aze e c]
def gop(E:Env Y)(o:Oper)(b t:Bool)(c:Cf Y)(k:Cf Y->Prop):Prop:=match b,t with
 |true,true |false,false=>xop E {o with guard:=none} c k
 |_,_=>c.put E.N o.dst (.val undef) k
def U1(E:Env Y)(ops:Array Oper):List Oper->Cf Y->(Cf Y->Prop)->Prop
 | [],c,k=>k c
 |o::os,c,k=>match o.guard with
  |none=>xop E o c λc'=>U1 E ops os c' k
  |some (j,b)=>match (ops[j]?).bind (·.dst) with
   |some d=>match Arn (HF c.fr d) with
    |true=>c.put E.N o.dst (.val undef) λc'=>U1 E ops os c' k
    |false=>match (HF c.fr d).bind asB with
     |some (.kn t)=>gop E o b t c λc'=>U1 E ops os c' k
     |some (.pr p _)=>(p->gop E o b true (c.set d (.val (.bool true))) λc'=>U1 E ops os c' k)/\(¬p->gop E o b false (c.set d (.val (.bool false))) λc'=>U1 E ops os c' k)
     |none=>False
   |none=>False
theorem Aed(h:RG g0 T c f g AH A){b t:Bool}{k:Cf Y->Prop}(u:o.guard=some (j,b))(D:(ops[j]?).bind (·.dst)=some d)(G:f d=.bool t)(i:gop E o b t c k){R:List PanicEntry->World->Prop}{K:Fr->World->Prop}{os:List Oper}(H:G9 g0 T E.X R)(next:∀c' f' g' AH' A',Le g g'->RG g0 T c' f' g' AH' A'->k c'->WL Y.P E.N ops R false K os f' g'.w):WL Y.P E.N ops R false K (o::os) f g.w:=by
 obtain⟨dst,q,n,l,p,L⟩:=o;simp only at u;subst u;have r:yl ops f j=some t:=by unfold yl;rw[D];simp only[G]
 unfold gop at i;have m:b=t->xop E ⟨dst,q,n,l,p,none⟩ c k->WL Y.P E.N ops R false K (⟨dst,q,n,l,p,some (j,b)⟩::os) f g.w:=λe i=>by refine Akp ?_ (Ac7 h rfl i H next);subst e;simp [Region.wanted,r]
 have y:b≠t->c.put E.N dst (.val undef) k->WL Y.P E.N ops R false K (⟨dst,q,n,l,p,some (j,b)⟩::os) f g.w:=λe i=>by
  obtain⟨x,F,I,B,J,z,C⟩:=h.put (a:=.val undef) (v:=undef) rfl i;refine Afe ?_ ?_
  .simp [Region.wanted,r];exact λh=>e h.symm
  .rw[<-B];exact next x _ F _ _ z C I
 split at i
 .exact m rfl i
 .exact m rfl i
 .refine y ?_ i;cases b<;>cases t<;>first|(intro h;cases h;done)|skip
  all_goals first|(rename_i s w;exact(s rfl rfl).elim)|(rename_i s w;exact(w rfl rfl).elim)|(rename_i s;exact(s rfl rfl).elim)
theorem QQ{E:Env Y}{g0:B4}{T:Bd}{ops:Array Oper}{R:List PanicEntry->World->Prop}{K:Fr->World->Prop}(r:G9 g0 T E.X R){k:Cf Y->Prop}:∀(os:List Oper){g:B4}{AH A:Bd}{c:Cf Y}{f:Fr},RG g0 T c f g AH A->U1 E ops os c k->(∀c' f' g' AH' A',Le g g'->RG g0 T c' f' g' AH' A'->k c'->K f' g'.w)->WL Y.P E.N ops R false K os f g.w
 | [],g,AH,A,c,f,h,i,l=>l c f g AH A (Le.refl _) h i
 |o::os,g,AH,A,c,f,h,i,l=>by
  have e:∀c' f' g' AH' A',Le g g'->RG g0 T c' f' g' AH' A'->U1 E ops os c' k->WL Y.P E.N ops R false K os f' g'.w:=λc' f' g' AH' A' x P U=>QQ r os P U λG M D z O s H F=>l G M D z O (x.trans s) H F;unfold U1 at i;split at i
  .rename_i q;exact Ac7 h q i r e
  .rename_i j b q;split at i
   .rename_i d u;have I:∀{p:BV},(HF c.fr d).bind asB=some p->f d=.bool p.val:=λ{p}m=>by
     cases B:HF c.fr d with
     |none=>rw[B]at m;cases m
     |some a=>rw[B]at m;exact Nl m (h.fr d a B)
    split at i
    .rename_i y;have y:=Agm y λa J=>h.fr d a J;obtain⟨G,D,Q,S,V,N,L⟩:=h.put (a:=.val undef) (v:=undef) rfl i;refine Afe (Xf q u y) ?_;rw[<-S];exact e G _ D _ _ N L Q
    split at i
    .rename_i t C;exact Aed h q u (I C) i r e
    .rename_i p w C;have n:=I C;by_cases m:p
     .have n:f d=.bool true:=by rw[n];show Value.bool (@decide p w)=_;rw[@decide_eq_true p w m]
      exact Aed (h.cons (a:=.val (.bool true)) n) q u n (i.1 m) r e
     .have n:f d=.bool false:=by rw[n];show Value.bool (@decide p w)=_;rw[@decide_eq_false p w m]
      exact Aed (h.cons (a:=.val (.bool false)) n) q u n (i.2 m) r e
    .exact i.elim
   .exact i.elim
end
end
end Go.Y
