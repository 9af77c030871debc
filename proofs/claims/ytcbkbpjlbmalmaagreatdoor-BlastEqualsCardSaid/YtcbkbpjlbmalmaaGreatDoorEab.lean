/-
  The Y layer, part o: one operation ('xop'); regions in the order of the text. (Merged by program out of 17 texts.)
-/
import Derived.Test.YtcbkbpjlbmalmaaGreatDoorEaa
open Decidable renaming decide->χ
open Bool renaming and_eq_true->a1,or_eq_true->ba,true->φ,false->ψ
open List renaming append_assoc->a2,mem_append_left->a6,Perm.refl->aa,mem_cons_self->ab,mem_cons_of_mem->ac,getElem?_append_right->ad,getElem?_append_left->ai,mem_map_of_mem->ak,mem_cons->al,getElem?_take_of_lt->am,nodup_append->ap,getElem?_toArray->aq,map_append->au,replicate->ax,mem_singleton->ay,map_cons->b3,cons_append->b4,perm_middle->b5,length_take->b6,mem_map->b9,nil_append->bb,perm_append_comm->be,length_replicate->bf,take->bg,all_cons->bm,cons.inj->bn,drop->bp,length->τ
open Nat renaming le_refl->a3,lt_succ_self->a4,lt_of_lt_of_le->a5,eq_of_beq_eq_true->a7,mul_le_mul_right->a8,beq->an,add_zero->ao,add_assoc->ar,add_le_add_left->av,ble_eq->aw,zero_le->b0,add_sub_cancel_left->b7,le_trans->b8,le_of_ble_eq_true->bc,mul_le_mul_left->bi,beq_eq->bj,ble->bk,zero_add->bq,blt->bt
open Array renaming getElem?_toList->a9,length_toList->bh,toList_map->bl
open Option renaming bind_some->ae,isNone_iff_eq_none->ah,isSome_iff_ne_none->az,some->ν,none->δ
open Int renaming toNat_of_nonneg->aj,ofNat_lt->br
namespace Go.Y
open Go Go.RowKit Go.X
section
section
variable {Y:Sys}
variable {P:Program} {f:Fr} {ty:TypeId} {w:World}
theorem S8{op:Op}{v:Value}(h:∀(dst:Option Tmp)(pos:String)(af:Array Edge)(gd:Option (Nat×Bool)),(execOp (ev f) ⟨dst,op,ty,pos,af,gd⟩).run P w=.ok (.value v) w):LQ P f op ty v w:=h
def Zx(kn:Option Nat):List Hs->Nat->List Hs
 | [],_=>[]
 |h::l,w=>if h.w=w then (match h.n with |none=>{h with n:=kn} |some _=>h)::l else h::Zx kn l w
theorem Adv{g:B3}{kn:Option Nat}{w:Nat}:∀{l:List Hs},HsR g l->HsR g (Zx kn l w)
 | [],h=>h
 |x::l,h=>by
  unfold Zx;by_cases b:x.w=w
  .rw[UV b];intro y a;rcases al.1 a with rfl|a
   .split
    .exact h x ab
    .exact h x ab
   .exact h y (ac _ a)
  .rw[GT b];intro y a;rcases al.1 a with rfl|a
   .exact h _ ab
   .exact Adv (λz c=>h z (ac _ c)) y a
def adA(c:Cf Y)(off:Nat)(kn:Option Nat)(k:AV Y->Cf Y->Prop):AV Y->Prop
 | .adr i o=>k (.adr i (o+off)) c
 | .del T x o=>k (.del T x (o+off)) c
 | .el i T j o=>k (.el i T j (o+off)) c
 | .hp w b o=>k (.hp w b (o+off)) (match kn with |none=>c |some n=>{c with hs:=Zx (ν n) c.hs w})
 | .ptr w p=>match lkH c.hs w with
  |some h=>k (.hp w h.b off) (match kn with |none=>c |some n=>{c with hs:=Zx (ν n) c.hs w})
  |none=>∃b,p=ν b/\k (.hp w b off) {c with hs:=⟨w,b,kn⟩::c.hs}
 |_=>False
variable {g0 g:B3} {T AH A:Bi} {c:Cf Y}
theorem Ahq(e:RG g0 T c f g AH A){off:Nat}{kn:Option Nat}{k:AV Y->Cf Y->Prop}{a:AV Y}{v:Value}(h:adA c off kn k a)(r:AR g a v):∃b o d c',v=.pointer (ν ⟨b,o,δ⟩)/\k d c'/\AR g d (.pointer (ν ⟨b,o+off,δ⟩))/\RG g0 T c' f g AH A:=by
 have m:∀(kn:Option Nat)(w:Nat),RG g0 T (match kn with|none=>c|some n=>{c with hs:=Zx (ν n) c.hs w}) f g AH A:=λkn w=>by
  cases kn with
  |none=>exact e
  |some n=>exact⟨e.n,e.le,e.st,e.hr,e.sg,Adv e.hs,e.pt,e.fr⟩
 unfold adA at h;split at h
 .obtain⟨j,b,l,i⟩:=r;exact⟨b,_,_,_,i,h,⟨j,b,l,rfl⟩,e⟩
 .obtain⟨b,o,u,j,l,i,z⟩:=r;exact⟨b,_,_,_,z,h,⟨b,o,u,j,l,i,by rw[ar]⟩,e⟩
 .obtain⟨j,b,p,s,t,l,i⟩:=r;exact⟨b,_,_,_,i,h,⟨j,b,p,s,t,l,by rw[ar]⟩,e⟩
 .obtain⟨j,l,i⟩:=r;exact⟨_,_,_,_,i,h,⟨j,l,rfl⟩,m _ _⟩
 .obtain⟨j,l,i⟩:=r;split at h
  .rename_i x q;obtain⟨C,B⟩:=Abk q;obtain⟨z,y⟩:=e.hs x C;rw[B]at y;refine⟨_,0,_,_,l.symm.trans y,h,⟨j,y,by rw[bq]⟩,m _ _⟩
  .obtain⟨b,rfl,h⟩:=h;refine⟨_,0,_,_,i,h,⟨j,l.trans i,by rw[bq]⟩,⟨e.n,e.le,e.st,e.hr,e.sg,λx q=>?_,e.pt,e.fr⟩⟩;rcases al.1 q with rfl|q
   .grind
   .exact e.hs x q
 grind
def Vd(c:Cf Y):List Operand->Option (List (IntKind×Int))
 | []=>ν []
 |x::l=>match (E9 c x).bind asInt,Vd c l with
  |some p,ν m=>ν (p::m)
  |_,_=>δ
def Amn(k:IntKind):List (IntKind×Int)->Bool
 | []=>φ
 |p::l=>χ (p.1=k)&&Amn k l
def KL(mx:Bool)(a:Int):List (IntKind×Int)->Int
 | []=>a
 |p::l=>KL mx (if mx then max a p.2 else min a p.2) l
theorem ZO{g0 g:B3}{T AH A:Bi}{c:Cf Y}{f:Fr}(h:RG g0 T c f g AH A):∀{l:List Operand}{m:List (IntKind×Int)},Vd c l=ν m->l.map (ev f)=m.map λp=>.int p.1 p.2
 | [],m,b=>by cases b;rfl
 |x::l,m,b=>by
  unfold Vd at b;split at b
  .rename_i p j d i;cases b;cases e:E9 c x with
   |none=>grind
   |some a=>
    rw[e]at d;have:=Ge (p:=p) d (h.ev e);rw[b3,b3,this,ZO h i]
  grind
theorem Apl{P:Program}{w:World}{k:IntKind}(mx:Bool):∀(l:List (IntKind×Int))(a:Int),Amn k l=φ->((l.map λp=>Value.int p.1 p.2).foldlM (if mx then Builtin.max2 else Builtin.min2) (.int k a)).run P w=.ok (.int k (KL mx a l)) w
 | [],a,_=>rfl
 |p::l,a,h=>by
  simp only[Amn,a1,decide_eq_true_eq]at h;have b:=Apl (P:=P) (w:=w) mx l (if mx then max a p.2 else min a p.2) h.2;simp only[b3,List.foldlM_cons,Sem.run_bind];cases mx with
  |true=>
   have c:(Builtin.max2 (.int k a) (.int p.1 p.2)).run P w=.ok (.int k (max a p.2)) w:=by
    have:(if p.2>a then p.2 else a)=max a p.2:=by split<;>omega
    simp_all[Builtin.max2]
   simp only[if_true,c,Result.andThen_ok]at b ⊢;exact b
  |false=>
   have c:(Builtin.min2 (.int k a) (.int p.1 p.2)).run P w=.ok (.int k (min a p.2)) w:=by
    have:(if p.2<a then p.2 else a)=min a p.2:=by split<;>omega
    simp_all[Builtin.min2]
   simp only[Bool.false_eq_true,if_false,c,Result.andThen_ok]at b ⊢;exact b
theorem Apm{k:IntKind}(mx:Bool):∀(l:List (IntKind×Int))(a:Int),Bl k a->(∀p∈l,Bl k p.2)->Bl k (KL mx a l)
 | [],_,h,_=>h
 |p::l,a,h,b=>by refine Apm mx l _ ?_ (λq c=>b q (ac _ c));grind
theorem Afd{k:IntKind}:∀{l:List (IntKind×Int)},Amn k l=φ->∀q∈l,q.1=k
 | [],_,q,a=>by cases a
 |p::l,h,q,a=>by
  simp only[Amn,a1,decide_eq_true_eq]at h;rcases al.1 a with rfl|a
  .exact h.1
  .exact Afd h.2 q a
def Auj(c:Cf Y):List Operand->List (IntKind×Int)->Bool
 | [],[]=>φ
 |x::l,p::m=>(match isK x with |true=>χ (p.1.min<=p.2/\p.2<=p.1.max) |false=>(match E9 c x with |some (.dat (.int _) _) |some (.nat _)=>φ |_=>ψ))&&Auj c l m
 |_,_=>ψ
theorem Aja{g0 g:B3}{T AH A:Bi}{c:Cf Y}{f:Fr}(h:RG g0 T c f g AH A):∀{l:List Operand}{m:List (IntKind×Int)},Vd c l=ν m->Auj c l m=φ->∀p∈m,Bl p.1 p.2
 | [],m,b,_=>by cases b;simp
 |x::l,m,b,i=>by
  unfold Vd at b;split at b
  .rename_i p v d s;cases b;unfold Auj at i;simp only[a1]at i;intro q k;rcases al.1 k with rfl|k
   .have e:=i.1;split at e
    .grind[Bl]
    .cases n:E9 c x with
     |none=>grind
     |some a=>
      rw[n]at d e;have o:=h.ev n;split at e
      .rename_i j;cases j;cases d;exact(AS.1 o).2
      .rename_i j;cases j;cases d;have u:IntKind.i64.min=-9223372036854775808:=by decide
       have t:IntKind.i64.max=9223372036854775807:=by decide
       have:=o.2;grind[Bl]
      grind
   .exact Aja h s i.2 q k
  grind
def Axm(c:Cf Y):List Operand->Prop->Prop
 | [],p=>p
 |x::l,p=>match E9 c x with
  |some a=>Lq x a (Axm c l p)
  |none=>False
def Aub(c:Cf Y)(mx:Bool)(aE:Array Operand)(k:AV Y->Prop):Prop:=match Vd c aE.toList with
 |some (p::l)=>Fx (Amn p.1 l&&Auj c aE.toList (p::l)) (k (.dat (.int p.1) (KL mx p.2 l)))
 |_=>False
variable {k:AV Y->Prop}
theorem Ai6(h:RG g0 T c f g AH A){mx:Bool}{aE:Array Operand}{at_:Array TypeId}(b:Aub c mx aE k):∃v a,k a/\AR g a v/\∀w',LQ Y.P f (.call ⟨.builtin (if mx then .max else .min),aE,at_⟩) ty v w':=by
 unfold Aub at b;split at b
 .rename_i p l j;obtain⟨i,b⟩:=AJ b;simp only[a1]at i;have d:=Aja h j i.2;have s:=Afd i.1;refine⟨.int p.1 (KL mx p.2 l),_,b,AS.2 ⟨rfl,Apm mx l _ (d p ab) (λq n=>by grind)⟩,λw'=>S8 λo r u t=>?_⟩;have m:aE.toList.map (ev f)=Value.int p.1 p.2::l.map λp=>Value.int p.1 p.2:=by rw[ZO h j];rfl
  have e:=Apl (P:=Y.P) (w:=w') mx l p.2 i.1;cases mx with
  |true=>simp_all[execOp,resolve,invoke,builtin,Builtin.max_]
  |false=>simp_all[execOp,resolve,invoke,builtin,Builtin.min_]
 grind
variable {x:Operand} {t:TypeId}
theorem ZU{aE:Array TypeId}{e:TypeId}{a:Option Addr}{n cap:Nat}(g:ev f x=.slice a n cap)(d:P.underlying t=ν (.slice e))(b:aE[0]?=ν t):LQ P f (.call ⟨.builtin .len,#[x],aE⟩) ty (.int .i64 n) w:=λh c i j=>by simp [execOp,resolve,invoke,builtin,Builtin.len_,b,g,run_underlying d,goInt]
theorem Ana{aE:Array TypeId}{s:ByteArray}(d:ev f x=.string s)(c:P.underlying t=ν .string)(a:aE[0]?=ν t):LQ P f (.call ⟨.builtin .len,#[x],aE⟩) ty (.int .i64 s.size) w:=λe b g h=>by simp [execOp,resolve,invoke,builtin,Builtin.len_,a,d,run_underlying c,goInt]
def dSl:TypeDesc->Bool
 | .slice _=>φ
 |_=>ψ
theorem MM(h:GG P t dSl=φ):∃e,P.underlying t=ν (.slice e):=by
 unfold GG at h;split at h
 .rename_i d hd;cases d<;>simp [dSl]at h;grind
 grind
def Azv(c:Cf Y)(aE:Array Operand)(at_:Array TypeId)(k:AV Y->Prop):Prop:=match aE.toList,at_.toList with
 | [x],t::_=>match E9 c x with
  |some (.dat (.sl _) xs)=>Fx (GG Y.P t dSl) (τ xs<=9223372036854775807->k (.nat (τ xs)))
  |some (.own i)=>match IT c.sg i with
   |some (.sl _ xs)=>Fx (GG Y.P t dSl) (τ xs<=9223372036854775807->k (.nat (τ xs)))
   |_=>False
  |some (.val (.slice δ 0 0))=>Fx (GG Y.P t dSl) (k (.nat 0))
  |some a=>match asS a with
   |some s=>Fx (GG Y.P t Au9) (s.size<=9223372036854775807->k (.nat s.size))
   |none=>False
  |none=>False
 |_,_=>False
theorem RG.sl(h:RG g0 T c f g AH A){i:Nat}{t:Ty}{xs:List (den Y.D t)}(hi:IT c.sg i=ν (.sl t xs)):∃A1,OO Y t g.I g.w A1 (g.μ i) xs/\∃A2,A.Perm (A1++A2)/\F3 g (G4 c.sg i) A2/\i<g.n:=by obtain⟨A1,A2,a,e,b,d⟩:=h.sg.take hi;exact⟨A1,b,A2,a,d,e⟩
theorem Auh(h:RG g0 T c f g AH A){aE:Array Operand}{at_:Array TypeId}(b:Azv c aE at_ k):∃v a,k a/\AR g a v/\∀w',LQ Y.P f (.call ⟨.builtin .len,aE,at_⟩) ty v w':=by
 unfold Azv at b;split at b
 .rename_i x t B r z;obtain⟨aE⟩:=aE;simp only at r;subst r;have j:at_[0]?=ν t:=by rw[<-a9,z];rfl
  split at b
  .rename_i e q l;obtain⟨d,b⟩:=AJ b;obtain⟨u,d⟩:=MM d;obtain⟨a,o,m,C,w,_⟩:=Te.1 (h.ev l);have n:τ q<=9223372036854775807:=by grind[Pd]
   exact⟨_,_,b n,⟨rfl,n⟩,λw'=>ZU m d j⟩
  .rename_i i l;split at b
   .rename_i e q p;obtain⟨d,b⟩:=AJ b;obtain⟨u,d⟩:=MM d;obtain⟨D,y,_⟩:=h.sl p;obtain⟨a,o,m,n⟩:=@Bw.len _ (RT Y.toUS e) _ _ _ _ _ y;exact⟨_,_,b n,⟨rfl,n⟩,λw'=>ZU ((h.ev l).2.trans m) d j⟩
   grind
  .rename_i l;obtain⟨d,b⟩:=AJ b;obtain⟨u,d⟩:=MM d;exact⟨_,_,b,⟨rfl,by omega⟩,λw'=>ZU (h.ev l) d j⟩
  .rename_i a _ _ _ l;split at b
   .rename_i s p;obtain⟨d,b⟩:=AJ b;have m:=Nv.1 (Dm p (h.ev l));exact⟨_,_,b m.2,⟨rfl,m.2⟩,λw'=>Ana m.1 (Acs d) j⟩
   grind
  grind
 grind
def aiI(P:Program)(t:TypeId):Option (Nat×Nat):=match P.underlying t with
 |some (.array n e)=>(P.info? e).bind λi=>if n<=1 then δ else ν (n,i.size)
 |_=>δ
theorem A1o{n s:Nat}(h:aiI P t=ν (n,s)):∃e,P.underlying t=ν (.array n e)/\(∀w,(sizeOf e).run P w=.ok s w)/\¬n<=1:=by
 unfold aiI at h;split at h
 .rename_i n' e hu;cases hi:P.info? e with
  |none=>grind
  |some i=>
   rw[hi]at h;simp only[ae]at h;split at h;all_goals simp_all[sizeOf,typeInfo]
 grind
def A0f(c:Cf Y)(t:TypeId)(x y:Operand)(k:AV Y->Prop):Prop:=match aiI Y.P t with
 |some (n,s)=>match E9 c x,y with
  |some (.adr i o),.const (.int _ (.ofNat j))=>Fx (bt j n) (k (.adr i (o+j*s)))
  |some (.el i T 0 0),y=>match E9 c y with
   |some b=>Fx (an s (sz Y.toUS T)) (Lq y b (ixA b n λj _=>k (.el i T j 0)))
   |none=>False
  |_,_=>False
 |none=>match slI Y.P t,E9 c y with
  |some (e,nb),ν b=>match E9 c x with
   |some (.dat (.sl T) xs)=>Fx (Yl Y.P t e (sz Y.toUS T) nb) (Lq y b (ixA b (τ xs) λj h=>k (.del T xs[j] 0)))
   |some (.own i)=>match IT c.sg i with
    |some (.sl T xs)=>Fx (Yl Y.P t e (sz Y.toUS T) nb) (Lq y b (ixA b (τ xs) λj _=>k (.el i T j 0)))
    |_=>False
   |_=>False
  |_,_=>False
theorem Auq(h:RG g0 T c f g AH A){y:Operand}(d:A0f c t x y k):∃v a,k a/\AR g a v/\∀w',LQ Y.P f (.indexAddr t x y) ty v w':=by
 unfold A0f at d;split at d
 .rename_i n s R;obtain⟨e,W,I,hn⟩:=A1o R;split at d
  .rename_i i o F j B;obtain⟨r,d⟩:=AJ d;have r:j<n:=bc r;obtain⟨p,b,G,u⟩:=h.ev B;refine⟨_,_,d,⟨p,b,G,rfl⟩,λw'=>S8 λC D P N=>?_⟩;have q:ev f (.const (.int F (.ofNat j)))=.int F (j:Int):=rfl;generalize Operand.const (.int F (.ofNat j))=y at q ⊢;have L:(j:Int)<n:=br.2 r;simp [execOp,Instr.indexAt,u,q,asIntOf,run_underlying W,I,Instr.sureAddr,DZ];omega
  .rename_i _ i T B;split at d
   .rename_i b V;have z:=h.ev V;obtain⟨w,d⟩:=AJ d;have w:s=sz Y.toUS T:=a7 w;obtain⟨F,j,r,l,d⟩:=Xv z (Fi z d);obtain⟨p,b,m,Q,E,G,u⟩:=h.ev B;simp only[Nat.zero_mul,ao]at u;refine⟨_,_,d,⟨p,b,m,Q,E,G,rfl⟩,λw'=>S8 λC D P N=>?_⟩;have L:(j:Int)<n:=br.2 l;subst w;simp [execOp,Instr.indexAt,u,r,asIntOf,run_underlying W,I,Instr.sureAddr,DZ];omega
   grind
  grind
 split at d
 .rename_i e nb b M V;have z:=h.ev V;split at d
  .rename_i T S B;obtain⟨O,d⟩:=AJ d;obtain⟨F,j,r,l,d⟩:=Xv z (Fi z d);have w:=EZ O;obtain⟨a,E,u,hc,hm,K⟩:=Te.1 (h.ev B);rcases K with K|⟨b,m,rfl,G,K⟩
   .grind
   obtain⟨v,U,q⟩:=K j l;refine⟨_,_,d,⟨b,m+j*sz Y.toUS T,v,U,q,G,rfl⟩,λw'=>S8 λC D P N=>?_⟩;have M:(0:Int)<=j/\(j:Int)<τ S:=by omega
   simp [execOp,Instr.indexAt,u,r,asIntOf,run_underlying w.under,M,w.size,DZ];omega
  .rename_i i B;split at d
   .rename_i T S w;obtain⟨O,d⟩:=AJ d;obtain⟨F,j,r,l,d⟩:=Xv z (Fi z d);obtain⟨A1,ho,A2,hp,X,p⟩:=h.sl w;have J:=EZ O;rcases @Bw.ex _ (RT Y.toUS T) _ _ _ _ _ ho with ⟨_,L,_⟩|⟨b,Z,E,e0,m,rfl,H,L,h4,h5,h6⟩
    .grind
    refine⟨_,_,d,⟨p,b,m,_,_,H,rfl⟩,λw'=>S8 λC D P N=>?_⟩;have M:(0:Int)<=j/\(j:Int)<τ S:=by omega
    have u:=(h.ev B).2.trans H;simp [execOp,Instr.indexAt,u,r,asIntOf,run_underlying J.under,M,J.size,DZ];omega
   grind
  grind
 grind
end
end
section
section
variable {Y:Sys}
def YM:BinOp->Nat->Nat->(p:Prop)×(Decidable p)
 | .eql,a,b=>⟨a=b,inferInstance⟩
 | .neq,a,b=>⟨¬a=b,inferInstance⟩
 | .lss,a,b=>⟨a<b,inferInstance⟩
 | .leq,a,b=>⟨a<=b,inferInstance⟩
 | .gtr,a,b=>⟨b<a,inferInstance⟩
 |_,a,b=>⟨b<=a,inferInstance⟩
theorem A0x{p q:Prop}(b:Decidable p)(a:Decidable q)(h:p↔q):@decide p b=@decide q a:=by grind
theorem Avh(c:BinOp)(a b:Nat):@decide (YM c a b).1 (YM c a b).2=@decide (YN c a b).1 (YN c a b).2:=
 A0x _ _ (by cases c<;>simp  [YM,YN]<;>omega)
def Azc(op:BinOp)(a b:AV Y):Option ((AV Y->Prop)->Prop):=match a,b with
 | .nat i,.nat j=>match PI op with
  |true=>ν λk=>k (.prp (YM op i j).1 (YM op i j).2)
  |false=>δ
 | .nat i,.val (.int .i64 (.ofNat j))=>match op with
  | .add=>ν λk=>(i+j<=9223372036854775807/\k (.nat (i+j)))
  |op=>match PI op with
   |true=>ν λk=>k (.prp (YM op i j).1 (YM op i j).2)
   |false=>δ
 | .val (.int .i64 (.ofNat i)),.nat j=>match PI op with
  |true=>ν λk=>k (.prp (YM op i j).1 (YM op i j).2)
  |false=>δ
 |_,_=>δ
variable {g:B3} {P:Program} {f:Fr} {op:BinOp} {x y:Operand} {t u ty:TypeId} {a:AV Y} {k:AV Y->Prop}
theorem At3{b:AV Y}{z:(AV Y->Prop)->Prop}(h:Azc op a b=ν z)(l:z k)(n:AR g a (ev f x))(m:AR g b (ev f y)):∃v c,k c/\AR g c v/\∀w',LQ P f (.binOp op t x y u) ty v w':=by
 have d:∀{i j:Nat},PI op=φ->ev f x=.int .i64 i->ev f y=.int .i64 j->k (.prp _ (YM op i j).2)->∃v c,k c/\AR g c v/\∀w',LQ P f (.binOp op t x y u) ty v w':=λ{i j}e p q o=>
  ⟨_,_,o,rfl,λw'=>by grind[Avh,Aj6]⟩
 unfold Azc at h;split at h
 .split at h
  .rename_i e;cases h;exact d e n.1 m.1 l
  grind
 .split at h
  .cases h;rename_i i j _;have p:=n.1;have q:ev f y=.int _ j:=m;refine⟨_,_,l.2,⟨rfl,l.1⟩,λw'=>Az λr s w o=>Ai0 p q ?_⟩;rw[VY (by omega) (by omega)];exact o
  .split at h
   .rename_i e;cases h;exact d e n.1 m l
   grind
 .split at h
  .rename_i e;cases h;exact d e n m.1 l
  grind
 grind
theorem Agq{α:Type}[AT α]{I:Cb}{w:World}{A:Bi}{v:Value}{xs:List α}(o:Bw I w A v xs)(d:¬xs=[]):∃a l cp,v=.slice a l cp/\a.isNone=ψ:=by
 rcases o.ex with ⟨_,h,_⟩|⟨b,c,e,g,f,_,i,_⟩
 all_goals grind
def Azb(c:Cf Y)(op:BinOp)(t:TypeId)(a b:AV Y):Option (Prop×Bool):=match a,b with
 | .own i,.val (.slice δ 0 0)=>match IT c.sg i,GG Y.P t dSl with
  |some (.sl _ xs),φ=>match op with
   | .eql=>ν (¬xs=[],ψ)
   | .neq=>ν (¬xs=[],φ)
   |_=>δ
  |_,_=>δ
 | .val (.slice δ 0 0),.val (.slice δ 0 0)=>match GG Y.P t dSl with
  |true=>match op with
   | .eql=>ν (True,φ)
   | .neq=>ν (True,ψ)
   |_=>δ
  |false=>δ
 |_,_=>δ
theorem Q3{a:Option Addr}{l cp:Nat}{r:Bool}(b:∃e,P.underlying t=ν (.slice e))(d:ev f x=.slice a l cp)(h:ev f y=.slice δ 0 0)(i:(op=.eql/\r=a.isNone)∨(op=.neq/\r=!a.isNone))(w:World):LQ P f (.binOp op t x y u) ty (.bool r) w:=by
 intro k j o m;obtain⟨e,b⟩:=b;have g:∀op:BinOp,(eqGuard op t x y (.slice a l cp) (.slice δ 0 0)).run P w=.ok () w:=λop=>by simp only[eqGuard];cases op<;>simp
 have c:∀n,(Op.equalIn (n+1) t (.slice a l cp) (.slice δ 0 0)).run P w=.ok a.isNone w:=λn=>by cases a<;>simp [Op.equalIn,run_underlying b]
 rcases i with ⟨rfl,rfl⟩|⟨rfl,rfl⟩
 .simp only[execOp,d,h,Sem.run_bind,g,Result.andThen_ok,binOp,Op.equal,Op.maxDepth,c 9999,Sem.run_pure]
 .simp only[execOp,d,h,Sem.run_bind,g,Result.andThen_ok,binOp,Op.equal,Op.maxDepth,c 9999,Sem.run_pure]
variable {g0:B3} {T AH A:Bi} {c:Cf Y}
theorem At0(h:RG g0 T c f g AH A){b:AV Y}{p:Prop}{r:Bool}(d:Azb c op t a b=ν (p,r))(o:p)(m:AR g a (ev f x))(q:AR g b (ev f y))(w:World):LQ Y.P f (.binOp op t x y u) ty (.bool r) w:=by
 unfold Azb at d;split at d
 .have j:=q;split at d
  .rename_i D B v i;obtain⟨C,E,_,_,z,_⟩:=h.sg.take v;have k:¬B=[]->∃a l s,ev f x=.slice a l _/\a.isNone=ψ:=λn=>by rw[m.2];exact @Agq _ (RT _ _) _ _ _ _ _ z n
   split at d
   .cases d;obtain⟨a,l,s,e,m⟩:=k o;exact Q3 (MM i) e j (.inl ⟨rfl,m.symm⟩) w
   .cases d;obtain⟨a,l,s,e,m⟩:=k o;exact Q3 (MM i) e j (.inr ⟨rfl,by grind⟩) w
   grind
  grind
 .have e:=m;have j:=q;split at d
  .rename_i i;split at d
   .cases d;exact Q3 (MM i) e j (.inl ⟨rfl,rfl⟩) w
   .cases d;exact Q3 (MM i) e j (.inr ⟨rfl,rfl⟩) w
   grind
  grind
 grind
def A1g(c:Cf Y)(op:BinOp)(t:TypeId)(x y:Operand)(k:AV Y->Prop):Prop:=match E9 c x,E9 c y with
 |some a,ν b=>match Azb c op t a b with
  |some (p,r)=>p/\k (.val (.bool r))
  |none=>match Azc op a b with
   |some z=>z k
   |none=>match asInt a,asInt b with
    |some (ka,n),ν (kb,m)=>match PI op,A65 op with
     |true,_=>Fx (χ (ka=kb)) (k (.prp (YN op n m).1 (YN op n m).2))
     |_,φ=>Lq x a (Lq y b ((op=.shr->Bl ka n)/\shI op ka n m λr=>k (.dat (.int ka) r)))
     |_,_=>Fx (χ (ka=kb)) (Lq x a (Lq y b (match A66 ka with
      |true=>arI op ka n m λr=>k (.dat (.int ka) r)
      |false=>arW op ka n m λr=>k (.dat (.int ka) r))))
    |_,_=>match a with
     | .dat (.u n) d=>eqU op t (.dat (.u n) d) b k
     |a=>eqX Y.P op t a b k
 |_,_=>False
theorem Avv(h:RG g0 T c f g AH A)(d:A1g c op t x y k):∃v a,k a/\AR g a v/\∀w',LQ Y.P f (.binOp op t x y u) ty v w':=by
 unfold A1g at d;split at d
 .rename_i a b J I;have e:=h.ev J;have i:=h.ev I;split at d
  .rename_i p r D;exact⟨_,_,d.2,rfl,λw=>At0 h D d.1 e i w⟩
  split at d
  .rename_i z j;exact At3 j d e i
  split at d
  .rename_i F n E m D L;have s:=Ge D e;have B:=Ge L i;split at d
   .rename_i H;obtain⟨K,j⟩:=AJ d;obtain rfl:F=E:=by grind
    exact⟨_,_,j,rfl,λw'=>Aj6 H s B _⟩
   .obtain⟨G,d⟩:=Fi i (Fi e d);obtain⟨r,o,l,q⟩:=Ax9 d s B G;exact⟨_,_,o,AS.2 ⟨rfl,l⟩,q⟩
   .obtain⟨K,j⟩:=AJ d;obtain rfl:F=E:=by grind
    have C:=Fi i (Fi e j);split at C
    .obtain⟨r,o,l,q⟩:=A1l C s B;exact⟨_,_,o,AS.2 ⟨rfl,l⟩,q⟩
    .obtain⟨r,o,l,q⟩:=Arq C s B;exact⟨_,_,o,AS.2 ⟨rfl,l⟩,q⟩
  .split at d
   .exact A0p d e i
   .exact A0o d e i
 grind
def unX(c:Cf Y)(op:UnOp)(x:Operand)(k:AV Y->Prop):Prop:=match op,E9 c x with
 | .not,ν a=>match asB a with
  |some (.kn b)=>k (.val (.bool (!b)))
  |some (.pr p d)=>k (.prp (¬p) (@instDecidableNot p d))
  |none=>False
 | .neg,ν a=>match asInt a with
  |some (.i64,n)=>Lq x a (Bl .i64 (-n)/\k (.dat I6 (-n)))
  |some (kd,n)=>k (.dat (.int kd) (kd.wrap (0-n)))
  |none=>False
 |_,_=>False
theorem Axp(h:RG g0 T c f g AH A){op:UnOp}(e:unX c op x k):∃v a,k a/\AR g a v/\∀w',LQ Y.P f (.unOp op t x) ty v w':=by
 unfold unX at e;split at e
 .rename_i a l;split at e
  .rename_i b m;exact⟨_,_,e,rfl,λw'=>Az λj s r i=>Awn (O4 m (h.ev l)) i⟩
  .rename_i p d m;refine⟨_,_,e,rfl,λw'=>Az λj s r i=>Awn (O4 m (h.ev l)) ?_⟩;have:(!(BV.pr p d).val)=@decide (¬p) _:=by show (!@decide p d)=_;simp
   rw[this];exact i
  grind
 .rename_i a l;split at e
  .rename_i n q;have o:=Ge q (h.ev l);obtain⟨u,e⟩:=Fi (h.ev l) e;refine⟨_,_,e,AS.2 ⟨rfl,u⟩,λw'=>Az λj s r i=>Awo o ?_⟩;rw[show 0-(IntKind.i64,n).2=-n by simp,FO u];exact i
  .rename_i w n _ q;have o:=Ge q (h.ev l);exact⟨_,_,e,AS.2 ⟨rfl,Jy _ _⟩,λw'=>Az λj s r i=>Awo o i⟩
  grind
 grind
def kindOf(P:Program)(t:TypeId):Option IntKind:=match P.underlying t with
 |some (.int k)=>ν k
 |_=>δ
def A02(c:Cf Y)(s d:TypeId)(x:Operand)(k:AV Y->Prop):Prop:=match kindOf Y.P s,kindOf Y.P d,E9 c x with
 |some ks,ν kd,ν a=>match a with
  | .dat (.int k1) n=>Fx (χ (k1=ks)) (match χ (kd=k1) with
   |true=>k (.dat (.int k1) n)
   |false=>Bl k1 n->k (.dat (.int kd) (kd.wrap n)))
  | .nat j=>Fx (χ (ks=.i64)) (match χ (kd=.i64) with
   |true=>k (.nat j)
   |false=>k (.dat (.int kd) (kd.wrap j)))
  |a=>match asInt a with
   |some (_,n)=>k (.dat (.int kd) (kd.wrap n))
   |none=>False
 |_,_,_=>False
theorem Z4{k:IntKind}(h:kindOf P t=ν k):P.underlying t=ν (.int k):=by grind[kindOf]
theorem Avc(h:RG g0 T c f g AH A){s d:TypeId}(e:A02 c s d x k):∃v a,k a/\AR g a v/\∀w',LQ Y.P f (.convert s d x) ty v w':=by
 unfold A02 at e;split at e
 .rename_i C t a B y z;have m:=Z4 B;have l:=Z4 y;have j:=h.ev z;split at e
  .rename_i u n;obtain⟨b,e⟩:=AJ e;have o:=AS.1 j;split at e
   .obtain rfl:t=u:=by grind
    refine⟨_,_,e,AS.2 ⟨rfl,o.2⟩,λw'=>Az λi p q b=>Xd m l o.1 ?_⟩;rw[FO o.2];exact b
   .exact⟨_,_,e o.2,AS.2 ⟨rfl,Jy _ _⟩,λw'=>Az λi p q b=>Xd m l o.1 b⟩
  .obtain⟨b,r⟩:=AJ e;split at r
   .obtain rfl:t=.i64:=by grind
    refine⟨_,_,r,⟨rfl,j.2⟩,λw'=>Az λi p q b=>Xd m l j.1 ?_⟩;rw[VY (by omega) (by have:=j.2;omega)];exact b
   .exact⟨_,_,r,AS.2 ⟨rfl,Jy _ _⟩,λw'=>Az λi p q b=>Xd m l j.1 b⟩
  .split at e
   .rename_i u n w;exact⟨_,_,e,AS.2 ⟨rfl,Jy _ _⟩,λw'=>Az λi p q b=>Xd m l (Ge w j) b⟩
   grind
 grind
def A09(c:Cf Y)(t:TypeId)(x y:Operand)(k:AV Y->Prop):Prop:=match (E9 c x).bind asS,E9 c y with
 |some s,ν b=>Fx (GG Y.P t Au9) (Lq y b (ixA b s.size λj h=>k (.dat (.int .u8) (s[j].toNat:Int))))
 |_,_=>False
theorem Avl(h:RG g0 T c f g AH A)(d:A09 c t x y k):∃v a,k a/\AR g a v/\∀w',LQ Y.P f (.index t x y) ty v w':=by
 unfold A09 at d;split at d
 .rename_i s b e n;obtain⟨u,d⟩:=AJ d;have m:=h.ev n;obtain⟨z,j,r,i,d⟩:=Xv m (Fi m d);cases l:E9 c x with
  |none=>grind
  |some a=>
   rw[l]at e;have p:=Nv.1 (Dm (t:=.str) e (h.ev l));exact⟨_,_,d,AS.2 ⟨rfl,A0b _⟩,λw'=>Az λo w B q=>Ao9 (Acs u) i p.1 r rfl q⟩
 grind
def A0y(P:Program)(kd:IntKind)(n:Nat):TypeDesc->Bool
 | .array m e=>an m n&&GG P e (Aq1 kd)&&(match P.info? e with
  |some i=>an i.size 1
  |none=>ψ)
 |_=>ψ
def lfI(k:IntKind):List (Lf Y.D)->Option (List Int)
 | []=>ν []
 |⟨.int k',x⟩::l=>match Ty.dec (.int k) (.int k'),lfI k l with
  | .isTrue _,ν r=>ν (x::r)
  |_,_=>δ
 |_::_=>δ
theorem Apw{g:B3}{k:IntKind}:∀{l:List (Lf Y.D)}{r:List Int}{cs:List Value},lfI k l=ν r->F2 (λc(l:Lf Y.D)=>rp Y.toUS l.t g.I g.w c l.x) cs l->cs=r.map (.int k)/\∀x∈r,Bl k x
 | [],r,_,h,.nil=>by cases h;simp
 |⟨t,x⟩::l,r,c::cs,h,.cons i n=>by
  cases t with
  |int p=>
   simp only[lfI]at h;split at h
   .rename_i e q _ m;cases e;cases h;obtain⟨o,f⟩:=Apw m n;grind[AS]
   grind
  |_=>simp [lfI]at h
def A1j(c:Cf Y)(t:TypeId)(y:Operand)(n:Nat)(d:Y.D n)(k:AV Y->Prop):Prop:=match lfI .i64 (Y.flat n d),E9 c y with
 |some r,ν b=>Fx (GG Y.P t (A0y Y.P .i64 (τ r))) (Lq y b (ixA b (τ r) λj h=>k (.dat I6 r[j])))
 |_,_=>False
theorem Avx(h:RG g0 T c f g AH A){n:Nat}{d:Y.D n}(Q:E9 c x=ν (.dat (.u n) d))(o:A1j c t y n d k):∃v a,k a/\AR g a v/\∀w',LQ Y.P f (.index t x y) ty v w':=by
 unfold A1j at o;split at o
 .rename_i r b F E;obtain⟨p,o⟩:=AJ o;have D:=h.ev E;obtain⟨V,j,J,l,o⟩:=Xv D (Fi D o);obtain⟨O,w,N⟩:=HO.1 (h.ev Q);obtain⟨C,K⟩:=Apw F N;refine⟨_,_,o,AS.2 ⟨rfl,K _ (List.getElem_mem l)⟩,λw' I H S U=>?_⟩;unfold GG at p;split at p
  .rename_i L z;cases L with
   |array m e=>
    simp only[A0y,a1,bj]at p;obtain⟨⟨G,P⟩,s⟩:=p;subst G;have R:=W2 P;have q:(sizeOf e).run Y.P w'=.ok 1 w':=by grind[run_sizeOf,Program.cellsOf,a7]
    have M:(⟨O⟩:Array Value)[j]?=ν (.int .i64 r[j]):=by grind
    simp only[execOp,Instr.index,w,J,asIntOf,Sem.run_bind,Sem.run_pure,Result.andThen_ok,run_underlying z];simp_all[Int.natCast_nonneg,part,isAgg,run_underlying]
   |_=>simp [A0y]at p
  grind
 grind
def A0n(c:Cf Y)(t:TypeId)(x:Operand)(i:Nat)(k:AV Y->Prop):Prop:=match A2x Y.P t i,E9 c x with
 |some off,ν (.dat (.u n) d)=>Fx (fvB Y.P t i off) (match (Y.flat n d)[off]? with
  |some l=>k (.dat l.t l.x)
  |none=>False)
 |_,_=>False
theorem Auz(h:RG g0 T c f g AH A){i:Nat}(b:A0n c t x i k):∃v a,k a/\AR g a v/\∀w',LQ Y.P f (.field t x i) ty v w':=by
 unfold A0n at b;split at b
 .rename_i q n d z e;obtain⟨m,b⟩:=AJ b;obtain⟨cs,j,w⟩:=HO.1 (h.ev e);split at b
  .rename_i l u;obtain⟨v,y,o⟩:=w.get u;exact⟨v,_,b,o,λw'=>Az λr B C s=>Apb (cs:=⟨cs⟩) m j (by grind) s⟩
  grind
 grind
def Ae1:TypeDesc->Bool
 | .struct _=>φ
 |_=>ψ
theorem Aku(h:GG P t Ae1=φ):∃e,P.underlying t=ν (.struct e):=by
 unfold GG at h;split at h
 .rename_i d hd;cases d<;>simp [Ae1]at h;grind
 grind
def onA(a:Option (AV Y))(k:AV Y->Prop):Prop:=match a with
 |some a=>k a
 |none=>False
theorem Aa9{a:Option (AV Y)}(h:onA a k):∃b,a=ν b/\k b:=by unfold onA at h;grind
variable {α β:Type}
theorem Asc{R Q:α->β->Prop}{l:List α}{m:List β}(h:F2 R l m)(c:∀b∈m,∀a,R a b->Q a b):F2 Q l m:=by
 induction h with
 |nil=>exact .nil
 |cons h _ e=>exact .cons (c _ ab _ h) (e λb d=>c b (ac _ d))
theorem Asa{γ:Type}{R:γ->β->Prop}{q:α->γ}{l:List α}{m:List β}(h:F2 (λa b=>R (q a) b) l m):F2 R (l.map q) m:=by
 induction h with
 |nil=>exact .nil
 |cons h _ c=>exact .cons h c
theorem Akk{R:α->β->Prop}{l:List α}{m:List β}(h:F2 R l m):F2 (λb a=>R a b) m l:=by
 induction h with
 |nil=>exact .nil
 |cons h _ c=>exact .cons h c
theorem Aed{l:List (Lf Y.D)}{cs:List Value}(h:F2 (λc(l:Lf Y.D)=>rp Y.toUS l.t g.I g.w c l.x) cs l)(a:(l.all λx=>x.t.leaf)=φ):∀c∈cs,c.oneCell'=φ:=
 Yh h λx b=>by grind
def As0(vs:List Value):List (AV Y):=vs.map AV.val
def Alu(c:Cf Y):AV Y->Bool
 | .dat t _=>t.leaf
 | .nat _ | .prp _ _ | .adr _ _ | .el _ _ _ _ | .del _ _ _ | .ptr _ _ | .hp _ _ _ | .mob _ | .ifc _ _ _ | .fbx _ _ _=>φ
 | .own i=>match IT c.sg i with
  |some (.sl _ _) |some (.mp _ _ _) |some (.clo _ _ _)=>φ
  |_=>ψ
 | .val v=>v.oneCell'
 | .sub _ _ _=>φ
 | .fn _ _ _=>ψ
variable {v:Value}
theorem Aiu(h:RG g0 T c f g AH A)(l:Alu c a=φ)(d:AR g a v):v.oneCell'=φ:=by
 unfold Alu at l;split at l
 .exact(K0 l d).2
 .rw[d.1];rfl
 .rw[show v=_ from d];rfl
 .obtain⟨_,b,_,j⟩:=d;rw[j];rfl
 .obtain⟨_,b,_,_,_,_,j⟩:=d;rw[j];rfl
 .obtain⟨b,_,_,_,_,_,j⟩:=d;rw[j];rfl
 .rw[d.2.2];rfl
 .rw[d.2.2];rfl
 .rw[show v=_ from d];rfl
 .obtain⟨u,j,_⟩:=d;rw[j];rfl
 .obtain⟨b,x,u,_,_,_,j⟩:=d;rw[j];rfl
 .rename_i i;have r:=d.2;split at l
  .rename_i t G n;obtain⟨w,s,_,_,o,_⟩:=h.sg.take n;obtain⟨a,q,p,_⟩:=@Bw.len _ (RT Y.toUS t) _ _ _ _ _ o;rw[r,p];rfl
  .rename_i k e m n;obtain⟨w,s,_,_,o,_⟩:=h.sg.take n;obtain⟨b,z,H,_,p,_⟩:=@C3.ex _ _ (RT Y.toUS k) (RT Y.toUS e) _ _ _ _ _ o;rw[r,p];rfl
  .rename_i F B C n;obtain⟨w,s,_,_,⟨_,D,E,p,_⟩,_⟩:=h.sg.take n;rw[r,p];rfl
  grind
 .rw[show v=_ from d];exact l
 .obtain⟨_,j,a,y,q,o,_⟩:=d;rw[j,o];rfl
 grind
theorem Als(h:v.oneCell'=φ):v.cells=#[v]:=by cases v<;>first|rfl|grind[Value.oneCell']
theorem VZ{g:B3}:∀{vs:List Value},vs.all (·.oneCell')=φ->F2 (λa v=>AR g a v/\v.oneCell'=φ) (As0 (Y:=Y) vs) vs
 | [],_=>.nil
 |v::vs,h=>by simp only[bm,a1]at h;exact .cons ⟨rfl,h.1⟩ (VZ h.2)
def Ab7(c:Cf Y)(a:AV Y):Option (List (AV Y)):=match a with
 | .dat (.u m) d=>ν ((Y.flat m d).map λx=>.dat x.t x.x)
 | .val (.agg cs)=>match cs.toList.all (·.oneCell') with
  |true=>ν (As0 cs.toList)
  |false=>δ
 | .own j=>match IT c.sg j with
  |some (.ag cs)=>ν cs
  |_=>match Alu c a with
   |true=>ν [a]
   |false=>δ
 |a=>match Alu c a with
  |true=>ν [a]
  |false=>δ
theorem ZM(h:RG g0 T c f g AH A){cs:List (AV Y)}(e:Ab7 c a=ν cs)(i:AR g a v):F2 (λa v=>AR g a v/\v.oneCell'=φ) cs v.cells.toList:=by
 have l:∀{a:AV Y},AR g a v->Alu c a=φ->F2 (λa v=>AR g a v/\v.oneCell'=φ) [a] v.cells.toList:=λi k=>by have b:=Aiu h k i;rw[Als b];exact .cons ⟨i,b⟩ .nil
 unfold Ab7 at e;split at e
 .rename_i m d;cases e;obtain⟨p,rfl,n⟩:=HO.1 i;have b:=Yh n QT;exact Asa (q:=λx:Lf Y.D=>AV.dat x.t x.x) (Asc (Akk n) λv s a r=>⟨r,b v s⟩)
 .rename_i p;split at e
  .rename_i k;cases e;obtain rfl:v=_:=i;exact VZ k
  grind
 .rename_i j;split at e
  .rename_i u w;cases e;obtain⟨B,y,_,_,⟨_,z,t,o⟩,_⟩:=h.sg.take w;rw[i.2,t];exact o
  grind
 grind
def Ajs(c:Cf Y)(place:Nat->Option (Nat×Nat)):List (AV Y)->List (Nat×AV Y)->Option (List (AV Y))
 |ls,[]=>ν ls
 |ls,(i,a)::rest=>match place i with
  |none=>δ
  |some (off,size)=>match Ab7 c a with
   |some l=>match an (τ l) size&&bk (off+size) (τ ls) with
    |true=>Ajs c place (ls.take off++(l++ls.drop (off+size))) rest
    |false=>δ
   |none=>δ
theorem Aeu{g0 g:B3}{T AH A:Bi}{c:Cf Y}{f:Fr}(r:RG g0 T c f g AH A){place:Nat->Option (Nat×Nat)}:∀{ps:List (Nat×AV Y)}{qs:List (Nat×Value)}{cells:Array Value}{ls l':List (AV Y)},Ajs c place ls ps=ν l'->F2 (λa v=>AR g a v/\v.oneCell'=φ) ls cells.toList->F2 (λ(p:Nat×AV Y)(q:Nat×Value)=>p.1=q.1/\AR g p.2 q.2) ps qs->∃cells',Instr.fill place cells qs=ν cells'/\F2 (λa v=>AR g a v/\v.oneCell'=φ) l' cells'.toList
 | [],_,cells,ls,l',h,j,.nil=>by cases h;exact⟨cells,rfl,j⟩
 |(i,a)::t,(D,v)::qs,cells,ls,l',h,j,.cons ⟨s,o⟩ y=>by
  simp only at s o;subst s;unfold Ajs at h;unfold Instr.fill;split at h
  .cases h
  .rename_i b d u;split at h
   .rename_i l w;split at h
    .rename_i C;simp only[a1,bj,aw]at C;have n:=ZM r w o;have m:v.cells.size=d:=by have:=n.len;grind
     have z:cells.size=τ ls:=by have:=j.len;grind
     have B:¬(v.cells.size≠d∨b+v.cells.size>cells.size):=by omega
     simp only[u,ba,decide_eq_true_eq,B,if_false];refine Aeu r h ?_ y;have:=X5 v.cells.toList 0 b cells (by grind);have e:(v.cells.zipIdx.foldl (λk(x:Value×Nat)=>k.setIfInBounds (b+x.2) x.1) cells)=(v.cells.toList.zipIdx.foldl (λk(x:Value×Nat)=>k.setIfInBounds (b+x.2) x.1) cells):=by rw[<-Array.foldl_toList,Array.toList_zipIdx]
     show F2 _ _ (v.cells.zipIdx.foldl (λk(x:Value×Nat)=>k.setIfInBounds (b+x.2) x.1) cells).toList;rw[e,this];simp only[ao,bh,m];exact(j.take b).app (n.app (j.drop _))
    grind
   grind
def A1e(c:Cf Y)(t:TypeId)(ps:Array (Nat×Operand))(K:AV Y->Cf Y->Prop):Prop:=match plc Y.P t,evP c ps.toList with
 |some (p,.agg z),ν qs=>Fx (z.toList.all (·.oneCell')) (match Ajs c p (As0 z.toList) qs with
  |some cs=>K (.own c.nx) {c with sg:=(c.nx,.ag cs)::c.sg,nx:=c.nx+1}
  |none=>False)
 |_,_=>False
theorem Avu(h:RG g0 T c f g AH A){ps:Array (Nat×Operand)}{K:AV Y->Cf Y->Prop}(d:A1e c t ps K):∃v a c' g',K a c'/\g'.w=g.w/\Le g g'/\RG g0 T c' f g' AH A/\AR g' a v/\∀w',Sx g w'->LQ Y.P f (.build t ps) ty v w':=by
 unfold A1e at d;split at d
 .rename_i p z w s l;obtain⟨n,d⟩:=AJ d;split at d
  .rename_i C m;obtain⟨cells,k,j⟩:=Aeu h (cells:=z) m (VZ n) (Ahd h l);have e:Le g (g.new g.w (.agg cells)):=Le.new (Ext.refl _ _);refine⟨.agg cells,_,_,g.new g.w (.agg cells),d,rfl,e,?_,?_,λw' _ q o y B=>?_⟩
   .exact h.new (A1:=[]) (Ext.refl _ _) ⟨rfl,cells.toList,g.BA _ _,j.mono λ_ _ r=>⟨r.1.mono e,r.2⟩⟩ (by simpa using h.st)
   .rw[<-h.n];exact⟨a4 _,(g.BA _ _).symm⟩
   .have u:Y.P.built t (ps.map λ(x:Nat×Operand)=>match x with|(i,x)=>(i,ev f x)).toList=ν cells:=by rw[Zo s,bl];exact k
    simp_all[execOp,run_build]
  grind
 grind
theorem Ap0{aE rs:List Ty}{F:FT Y aE rs}(w:Q5 Y.P t ψ 1=φ)(h:FbR Y aE rs F g.I g.w (ev f x)):∃v,AR g (.fn aE rs F) v/\∀w',Sx g w'->LQ Y.P f (.load t x) ty v w':=by
 obtain⟨b,c,u,i,y,o,l⟩:=h;have e:u.cells=#[u]:=by obtain⟨⟨q,d,r,rfl⟩,_⟩:=i;rfl
 refine⟨u,i,λw' s p n z A=>?_⟩;have k:Dn w' ⟨b,c,δ⟩ u:=⟨rfl,λj m=>by rw[<-y.2 j m];exact cell?_of_heap (a:=⟨b,c+j,δ⟩) (s.BX b o)⟩
 simp [execOp,Instr.loadAt,l,Instr.sureAddr,O9 (agg:=ψ) w k (by grind) e]
def V6(c:Cf Y)(o:Op)(K:AV Y->Cf Y->Prop):Prop:=let k:AV Y->Prop:=λa=>K a c;match o with
 | .move x | .assign x=>match E9 c x with
  |some a=>k a
  |none=>False
 | .pick z x y=>match (E9 c z).bind asB with
  |some (.kn φ)=>onA (E9 c x) k
  |some (.kn ψ)=>onA (E9 c y) k
  |some (.pr p _)=>(p->onA (E9 (kno c z φ) x) λa=>K a (kno c z φ))/\(¬p->onA (E9 (kno c z ψ) y) λa=>K a (kno c z ψ))
  |none=>False
 | .nilCheck x=>match E9 c x with
  |some a=>adA c 0 δ K a
  |none=>False
 | .fieldAddr t x i=>match A2x Y.P t i,E9 c x with
  |some off,ν a=>Fx (flB Y.P t i off) (adA c off (Y.ok t) K a)
  |_,_=>False
 | .indexAddr t x y=>A0f c t x y k
 | .load t x=>match E9 c x with
  |some (.del T d o)=>ldD t T d o k
  |some (.fbx aE rs F)=>Fx (Q5 Y.P t ψ 1) (k (.fn aE rs F))
  |_=>False
 | .binOp op t x y _=>A1g c op t x y k
 | .unOp op _ x=>unX c op x k
 | .convert s d x=>A02 c s d x k
 | .extract x i=>match E9 c x with
  |some (.own j)=>match IT c.sg j with
   |some (.tp l)=>match l[i]? with
    |some a=>k a
    |none=>False
   |_=>False
  |_=>False
 | .index t x y=>match E9 c x with
  |some (.dat (.u n) d)=>A1j c t y n d k
  |_=>A09 c t x y k
 | .field t x i=>A0n c t x i k
 | .build t ps=>match (Y.ty t).isSome with
  |true=>Avt c t ps k
  |false=>A1e c t ps K
 | .makeInterface t x=>match E9 c x with
  |some (.dat T d)=>Fx (GG Y.P t Ae1) (k (.ifc t T d))
  |_=>False
 | .call ⟨.builtin .len,aE,at_⟩=>Azv c aE at_ k
 | .call ⟨.builtin .min,aE,_⟩=>Aub c ψ aE k
 | .call ⟨.builtin .max,aE,_⟩=>Aub c φ aE k
 |_=>False
theorem Ww(h:RG g0 T c f g AH A){o:Op}{K:AV Y->Cf Y->Prop}(i:V6 c o K):∃v a c' g',K a c'/\g'.w=g.w/\Le g g'/\RG g0 T c' f g' AH A/\AR g' a v/\∀w',Sx g w'->LQ Y.P f o ty v w':=by
 have m:∀{o:Op},(∃v a,K a c/\AR g a v/\∀w',LQ Y.P f o ty v w')->∃v a c' g',K a c'/\g'.w=g.w/\Le g g'/\RG g0 T c' f g' AH A/\AR g' a v/\∀w',Sx g w'->LQ Y.P f o ty v w':=λ⟨v,a,s,q,D⟩=>⟨v,a,c,g,s,rfl,Le.refl _,h,q,λw' _=>D w'⟩
 have w:∀{o:Op}{v:Value}{a:AV Y},K a c->AR g a v->(∀w',Sx g w'->LQ Y.P f o ty v w')->∃v a c' g',K a c'/\g'.w=g.w/\Le g g'/\RG g0 T c' f g' AH A/\AR g' a v/\∀w',Sx g w'->LQ Y.P f o ty v w':=λs q D=>⟨_,_,c,g,s,rfl,Le.refl _,h,q,D⟩
 unfold V6 at i;split at i
 .split at i
  .rename_i a B;exact w i (h.ev B) λw' _ N r G W=>rfl
  grind
 .split at i
  .rename_i a B;exact w i (h.ev B) λw' _ N r G W=>rfl
  grind
 .rename_i z x y;have R:∀{p:BV},(E9 c z).bind asB=ν p->ev f z=.bool p.val:=λ{p}E=>by
   cases P:E9 c z with
   |none=>grind
   |some a=>rw[P]at E;exact O4 E (h.ev P)
  split at i
  .rename_i s;obtain⟨a,q,i⟩:=Aa9 i;exact w i (h.ev q) λw' _=>Az λr G J C=>Aix _ (R s) rfl C
  .rename_i s;obtain⟨a,q,i⟩:=Aa9 i;exact w i (h.ev q) λw' _=>Az λr G J C=>Aiy _ (R s) rfl C
  .rename_i p O s;have H:=R s;by_cases E:p
   .have H:ev f z=.bool φ:=by rw[H];show Value.bool (@decide p O)=_;rw[@decide_eq_true p O E]
    have M:=Abo h H;obtain⟨a,q,i⟩:=Aa9 (i.1 E);exact⟨_,_,_,g,i,rfl,Le.refl _,M,M.ev q,λw' _=>Az λr G J C=>Aix _ H rfl C⟩
   .have H:ev f z=.bool ψ:=by rw[H];show Value.bool (@decide p O)=_;rw[@decide_eq_false p O E]
    have M:=Abo h H;obtain⟨a,q,i⟩:=Aa9 (i.2 E);exact⟨_,_,_,g,i,rfl,Le.refl _,M,M.ev q,λw' _=>Az λr G J C=>Aiy _ H rfl C⟩
  grind
 .split at i
  .rename_i a B;obtain⟨b,o,d,c',s,q,D,I⟩:=Ahq h i (h.ev B);exact⟨_,_,c',g,q,rfl,Le.refl _,I,D,λw' _=>Az λr G J C=>Sj s C⟩
  grind
 .split at i
  .rename_i Q a s q;obtain⟨hf,i⟩:=AJ i;obtain⟨b,o,d,c',s,q,D,I⟩:=Ahq h i (h.ev q);exact⟨_,_,c',g,q,rfl,Le.refl _,I,D,λw' _=>Az λr G J C=>Xc hf s C⟩
  grind
 .exact m (Auq h i)
 .split at i
  .rename_i T d o B;obtain⟨b,Q,u,s,q,D,I⟩:=h.ev B;obtain⟨v,a,V,S,U⟩:=Ag2 (k:=λa=>K a c) i s q D I;exact w V S U
  .rename_i aE rs F B;obtain⟨L,i⟩:=AJ i;obtain⟨v,s,q⟩:=Ap0 (ty:=ty) L (h.ev B);exact w i s q
  grind
 .exact m (Avv h i)
 .exact m (Axp h i)
 .exact m (Avc h i)
 .split at i
  .rename_i j B;split at i
   .rename_i l hl;obtain⟨A1,A2,_,_,D,_⟩:=h.sg.take hl;obtain⟨_,vs,I,V⟩:=D;split at i
    .rename_i a X;obtain⟨v,S,U⟩:=V.get' X;exact w i U λw' _=>Az λr G J C=>Alv ((h.ev B).2.trans I) (by simpa using S) C
    .exact i.elim
   .exact i.elim
  .exact i.elim
 .split at i
  .rename_i n d Z;exact m (Avx h Z i)
  .exact m (Avl h i)
 .exact m (Auz h i)
 .rename_i t ps;split at i
  .exact m (Aka h i)
  .exact Avu h i
 .split at i
  .rename_i T d B;obtain⟨L,i⟩:=AJ i;obtain⟨e,L⟩:=Aku L;exact w (v:=.iface _ (ev f _)) i ⟨_,rfl,h.ev B⟩ λw' _ N r G W=>by simp [execOp,Instr.makeInterface,run_underlying L]
  .exact i.elim
 .exact m (Auh h i)
 .exact m (Ai6 h (mx:=ψ) i)
 .exact m (Ai6 h (mx:=φ) i)
 grind
end
end
section
section
variable {Y:Sys}
variable {g0 g:B3} {T AH A:Bi} {c:Cf Y} {f:Fr}
theorem RG.DO(h:RG g0 T c f g AH A){i:Nat}{s:CU Y}(hi:IT c.sg i=ν s):∃A1 A2,SR g i s A1/\i<g.n/\St g.I g.w (A1++(AH++(A2++T)))/\∀(k:CU Y)(d:Bi)(g':B3),Le g g'->g'.n=g.n->SR g' i k d->St g'.I g'.w (d++(AH++(A2++T)))->RG g0 T {c with sg:=(i,k)::G4 c.sg i} f g' AH (d++A2):=by obtain⟨A1,A2,n,r,o,p⟩:=h.sg.take hi;refine⟨A1,A2,o,r,h.st.perm (FU n AH),λk d g' b l q e=>?_⟩;exact⟨l.trans h.n,h.le.trans b.ext,e.perm (FU (aa _) AH).symm,h.hr.mono b,⟨d,A2,rfl,by omega,q,p.mono b⟩,h.hs.mono b,b.pt h.pt,λj a m=>(h.fr j a m).mono b⟩
theorem RG.name(h:RG g0 T c f g AH A)(v:Value):RG g0 T {c with nx:=c.nx+1} f (g.new g.w v) AH A:=by have b:=Le.new (g:=g) (v:=v) (Ext.refl _ _);exact⟨by show g.n+1=c.nx+1;rw[h.n],h.le.trans b.ext,h.st,h.hr.mono b,h.sg.mono b,h.hs.mono b,b.pt h.pt,λj a d=>(h.fr j a d).mono b⟩
def Cf.put(c:Cf Y)(N:Nat)(dst:Option Tmp)(a:AV Y)(k:Cf Y->Prop):Prop:=match dst with
 |none=>k c
 |some d=>Fx (bt d N&&!N0 d c.pt) (match a with
  | .dat .ptr p=>k ({c with nx:=c.nx+1}.set d (.ptr c.nx p))
  |a=>k (c.set d a))
variable {v:Value}
theorem RG.put{N:Nat}{dst:Option Tmp}{a:AV Y}{k:Cf Y->Prop}(h:RG g0 T c f g AH A)(i:AR g a v)(b:c.put N dst a k):∃c' g',k c'/\g'.w=g.w/\g'.I=g.I/\Le g g'/\RG g0 T c' (X.put N f dst v) g' AH A:=by
 unfold Cf.put at b;split at b
 .exact⟨_,g,b,rfl,rfl,Le.refl _,h⟩
 .rename_i d;obtain⟨e,b⟩:=AJ b;split at b
  .rename_i p;refine⟨_,g.new g.w v,b,rfl,rfl,Le.new (Ext.refl _ _),(h.name v).set e ?_⟩;rw[<-h.n];exact⟨a4 _,g.BA _ _,Mf.1 i⟩
  .exact⟨_,g,b,rfl,rfl,Le.refl _,h.set e i⟩
def Aqo(i:Nat)(t:Ty)(xs:List (den Y.D t)):AV Y->AV Y
 | .own j=>if j=i then .dat (.sl t) xs else .own j
 | .sub j T lo=>if j=i then (match Ty.dec T t with | .isTrue _=>.dat (.sl t) (xs.drop lo) | .isFalse _=>.sub j T lo) else .sub j T lo
 |a=>a
def Aqm(i:Nat)(t:Ty)(xs:List (den Y.D t)):List (Nat×AV Y)->List (Nat×AV Y)
 | []=>[]
 |p::l=>(p.1,Aqo i t xs p.2)::Aqm i t xs l
theorem Ajp{i:Nat}{t:Ty}{xs:List (den Y.D t)}{j:Nat}{a:AV Y}:∀{l:List (Nat×AV Y)},Iz (Aqm i t xs l) j=ν a->∃b,Iz l j=ν b/\a=Aqo i t xs b
 | [],h=>by grind[Aqm,Iz]
 |p::l,h=>by unfold Aqm Iz at h;unfold Iz;by_cases c:p.1=j;all_goals simp_all[Ajp]
def Al9(i:Nat)(t:Ty)(xs:List (den Y.D t)):List (AV Y)->List (AV Y)
 | []=>[]
 |a::l=>Aqo i t xs a::Al9 i t xs l
def A32(i:Nat)(t:Ty)(xs:List (den Y.D t)):CU Y->CU Y
 | .blk cs=>.blk (Al9 i t xs cs)
 | .tp l=>.tp (Al9 i t xs l)
 | .ag l=>.ag (Al9 i t xs l)
 |s=>s
def A0l(i:Nat)(t:Ty)(xs:List (den Y.D t)):List (Nat×CU Y)->List (Nat×CU Y)
 | []=>[]
 |p::l=>(p.1,A32 i t xs p.2)::A0l i t xs l
def Cf.frz(c:Cf Y)(i:Nat):Cf Y:=match IT c.sg i with
 |some (.sl t xs)=>{c with fr:=Aqm i t xs c.fr,sg:=A0l i t xs (G4 c.sg i)}
 |_=>c
variable {t:Ty}
theorem Sa{I:Cb}{w:World}{xs:List (den Y.D t)}(h:@Afk _ (RT Y.toUS t) I w v xs):rp Y.toUS (.sl t) I w v xs:=by obtain⟨a,b,c,f,d,e⟩:=@Afk.ex _ (RT Y.toUS t) _ _ _ _ h;exact Te.2 ⟨a,b,c,f,d,e⟩
theorem Sr{I:Cb}{w:World}{xs:List (den Y.D t)}(h:rp Y.toUS (.sl t) I w v xs):@Afk _ (RT Y.toUS t) I w v xs:=by obtain⟨a,b,c,f,d,e⟩:=Te.1 h;exact @Afk.mk _ (RT Y.toUS t) _ _ _ _ ⟨a,b,c,f,d,e⟩
theorem Abv{i:Nat}{xs:List (den Y.D t)}(d:rp Y.toUS (.sl t) g.I g.w (g.μ i) xs){a:AV Y}(b:AR g a v):AR g (Aqo i t xs a) v:=by
 unfold Aqo;split
 .split
  .rename_i h;subst h;have:=b.2;subst this;exact d
  omega
 .split
  .rename_i h;subst h;split
   .rename_i e _;subst e;obtain⟨_,n,r,j,f,c,o⟩:=b;letI:AT (den Y.D _):=RT Y.toUS ‹Ty›
    obtain⟨a,m,k,p,q,l⟩:=Adf (Sr d);rw[k]at c;cases c;have:=l _ _ _ o (a3 _) p (a3 _);rw[List.take_of_length_le (by simp)]at this;rw[n,k];exact Sa this
   omega
  omega
 omega
theorem Ajm{g:B3}{i:Nat}{t:Ty}{xs:List (den Y.D t)}(a:rp Y.toUS (.sl t) g.I g.w (g.μ i) xs):∀{l:List (AV Y)}{vs:List Value},F2 (AR g) l vs->F2 (AR g) (Al9 i t xs l) vs
 | [],_,.nil=>.nil
 |_::_,_,.cons b c=>.cons (Abv a b) (Ajm a c)
theorem X2{g:B3}{i:Nat}{t:Ty}{xs:List (den Y.D t)}(c:rp Y.toUS (.sl t) g.I g.w (g.μ i) xs):∀{l:List (AV Y)}{vs:List Value},F2 (λa v=>AR g a v/\v.oneCell'=φ) l vs->F2 (λa v=>AR g a v/\v.oneCell'=φ) (Al9 i t xs l) vs
 | [],_,.nil=>.nil
 |_::_,_,.cons b d=>.cons ⟨Abv c b.1,b.2⟩ (X2 c d)
theorem Ajo{g:B3}{i:Nat}{t:Ty}{xs:List (den Y.D t)}(n:rp Y.toUS (.sl t) g.I g.w (g.μ i) xs):∀{l:List (Nat×CU Y)}{A:Bi},F3 g l A->F3 g (A0l i t xs l) A
 | [],_,h=>h
 |p::l,A,⟨r,v,w,x,a,u⟩=>by
  refine⟨r,v,w,x,?_,Ajo n u⟩;show SR g p.1 (A32 i t xs p.2) r;generalize p.2=s at a;cases s with
  |blk y=>obtain⟨b,o,e,j,c,d⟩:=a;exact⟨b,o,e,j,c,X2 n d⟩
  |sl t xs|mp k e m=>exact a
  |tp l=>obtain⟨j,q,c,d⟩:=a;exact⟨j,q,c,Ajm n d⟩
  |ag l=>obtain⟨j,q,c,d⟩:=a;exact⟨j,q,c,X2 n d⟩
  |clo f l m=>exact a
theorem RG.frz(h:RG g0 T c f g AH A)(i:Nat):∃g' A',g'.w=g.w/\g'.n=g.n/\Le g g'/\RG g0 T (c.frz i) f g' AH A':=by
 unfold Cf.frz;split
 .rename_i t s q;obtain⟨z,x,r,y,u,o⟩:=h.sg.take q;have m:=h.st.perm (FU r AH);obtain⟨k,v,e,l⟩:=@Bw.freeze _ (RT Y.toUS t) _ _ _ _ _ _ u m;have d:Le g {g with I:=k}:=⟨v,a3 _,λ_ _=>rfl,rfl⟩
  have n:rp Y.toUS (.sl t) k g.w (g.μ i) s:=Sa l;refine⟨{g with I:=k},x,rfl,rfl,d,⟨h.n,h.le.trans d.ext,e,h.hr.mono d,Ajo (g:={g with I:=k}) n (o.mono d),h.hs.mono d,d.pt h.pt,λj a p=>?_⟩⟩;obtain⟨b,w,rfl⟩:=Ajp p;exact Abv (g:={g with I:=k}) n ((h.fr j b w).mono d)
 .exact⟨g,A,rfl,rfl,Le.refl _,h⟩
end
end
section
section
variable {Y:Sys}
def Amm:List Ty->List (AV Y)->Option (List (Lf Y.D))
 | [],_=>ν []
 |t::ts,a::l=>match t.leaf,VS t a,Amm ts l with
  |true,ν x,ν m=>ν (⟨t,x⟩::m)
  |_,_,_=>δ
 |_::_,[]=>δ
theorem Akc{g:B3}{q:AV Y->Value->Prop}(b:∀a v,q a v->AR g a v):∀{ts:List Ty}{l:List (AV Y)}{vs:List Value}{m:List (Lf Y.D)},Amm ts l=ν m->F2 q l vs->F2 (λc(l:Lf Y.D)=>rp Y.toUS l.t g.I g.w c l.x) (vs.take (τ ts)) m
 | [],_,_,_,h,_=>by cases h;simp;exact .nil
 |t::ts,a::l,_::vs,m,h,.cons f i=>by
  unfold Amm at h;split at h
  .rename_i x j k e d;cases h;exact .cons (Dm e (b _ _ f)) (Akc b d i)
  grind
 |_::_,[],_,_,h,_=>by grind[Amm]
def Tg(t:TypeId)(cs:List (AV Y))(o:Nat)(k:AV Y->Prop):Prop:=match Y.ty t with
 |some (.u n)=>Fx (Q5 Y.P t φ (τ (Y.sig n))) (match (Amm (Y.sig n) (cs.drop o)).bind (Y.Akr n) with
  |some x=>k (.dat (.u n) x)
  |none=>False)
 |_=>Fx (Q5 Y.P t ψ 1) (match cs[o]? with
  |some a=>k a
  |none=>False)
variable {g:B3} {o b:Nat} {t ty:TypeId} {f:Fr} {x:Operand} {k:AV Y->Prop}
theorem Aat{A1:Bi}{i:Nat}{cs:List (AV Y)}(h:Tg t cs o k)(hs:SR g i (.blk cs) A1)(hi:g.μ i=.pointer (ν ⟨b,0,δ⟩))(A:ev f x=.pointer (ν ⟨b,o,δ⟩)):∃v a,k a/\AR g a v/\∀w':World,(∀p∈A1,w'.heap[p.1]?=ν p.2)->LQ Y.P f (.load t x) ty v w':=by
 obtain⟨K,c,e,rfl,C,w⟩:=hs;rw[hi]at C;cases C;have B:∀{w':World},(∀p∈[(b,Obj.cells c e (0,0))],w'.heap[p.1]?=ν p.2)->St (λ_=>False) w' ([(b,Obj.cells c e (0,0))]++[]):=λd=>⟨λ_ h=>h.elim,λp E=>⟨d p (by grind),λh=>h⟩,by simp⟩
 unfold Tg at h;split at h
 .rename_i n L;obtain⟨s,h⟩:=AJ h;cases q:Amm (Y.sig n) (cs.drop o) with
  |none=>grind
  |some l=>
   rw[q]at h;simp only[ae]at h;split at h
   .rename_i y D;have z:=Akc (g:=g) (λa v h=>h.1) q (w.drop o);have j:=Y.SN n _ _ D;have m:τ ((c.toList.drop o).take (τ (Y.sig n)))=τ (Y.sig n):=by rw[z.len,<-j,<-Y.TJ n y,List.length_map]
    refine⟨.agg ⟨_⟩,_,h,HO.2 ⟨_,rfl,by grind⟩,λw' d=>Az λr F H u=>Tq s (B d) A rfl m u⟩
   grind
 .obtain⟨s,h⟩:=AJ h;split at h
  .rename_i a G;obtain⟨v,I,J⟩:=w.get' G;exact⟨v,a,h,J.1,λw' d=>Az λr F H u=>Wd s (B d) A (by grind) u⟩
  grind
theorem Aof{A1 T1:Bi}{i:Nat}{cs:List (AV Y)}(h:Tg t cs o k)(hs:SR g i (.blk cs) A1)(c:St g.I g.w (A1++T1))(hi:g.μ i=.pointer (ν ⟨b,0,δ⟩))(e:ev f x=.pointer (ν ⟨b,o,δ⟩)):∃v a,k a/\AR g a v/\LQ Y.P f (.load t x) ty v g.w:=by obtain⟨v,a,m,l,j⟩:=Aat (ty:=ty) h hs hi e;exact⟨v,a,m,l,j g.w λp d=>(c.own p (a6 _ d)).1⟩
def rdD(t:TypeId)(T:Ty)(d:den Y.D T)(o:Nat)(k:AV Y->Prop):Prop:=ldD t T d o k
theorem Ayk{T:Ty}{d:den Y.D T}{off:Nat}{u:Value}(h:rdD t T d o k)(r:rp Y.toUS T g.I g.w u d)(s:Dn g.w ⟨b,off,δ⟩ u)(j:ev f x=.pointer (ν ⟨b,off+o,δ⟩)):∃v a,k a/\AR g a v/\LQ Y.P f (.load t x) ty v g.w:=by
 unfold rdD ldD at h;have c:∀{i:Ty}{o:Nat}{y:den Y.D i},Q5 Y.P t (isU i) (sz Y.toUS i)=φ->ev f x=.pointer (ν ⟨b,off+o,δ⟩)->Za i (((Aer T d).drop o).take (sz Y.toUS i))=ν y->∃v,rp Y.toUS i g.I g.w v y/\LQ Y.P f (.load t x) ty v g.w:=λ{i o y}n j l=>by have z:=((Aeq r).drop o).take (sz Y.toUS i);obtain⟨v,w,m,_⟩:=Acr l z;exact⟨v,m,S9 n (WU s (by rw[w])) m j⟩
 split at h
 .rename_i i A;obtain⟨n,h⟩:=AJ h;split at h
  .split at h
   .rename_i e _;subst e;exact⟨u,_,h,r,S9 n s r j⟩
   .split at h
    .rename_i y l;obtain⟨v,p,q⟩:=c (o:=0) n j l;exact⟨v,_,h,p,q⟩
    grind
  .split at h
   .rename_i y l;obtain⟨v,p,q⟩:=c n j l;exact⟨v,_,h,p,q⟩
   grind
 grind
def rdX(c:Cf Y)(t:TypeId)(a:AV Y)(k:AV Y->Prop):Prop:=match a with
 | .adr i o=>match IT c.sg i with
  |some (.blk cs)=>Tg t cs o k
  |_=>False
 | .el i T j o=>match IT c.sg i with
  |some (.sl T' xs)=>match Ty.dec T T' with
   | .isTrue _=>∃h:j<τ xs,rdD t T' xs[j] o k
   | .isFalse _=>False
  |_=>False
 | .hp w _ o=>match IT c.sg w with
  |some (.blk cs)=>Tg t cs o k
  |_=>False
 |_=>False
theorem WR{g0:B3}{T AH A:Bi}{c:Cf Y}(h:RG g0 T c f g AH A){a:AV Y}(d:rdX c t a k)(q:AR g a (ev f x)):∃v a,k a/\AR g a v/\LQ Y.P f (.load t x) ty v g.w:=by
 unfold rdX at d;split at d
 .split at d
  .rename_i i o O l;obtain⟨D,E,p,w,m,_⟩:=h.DO l;obtain⟨_,b,r,s⟩:=q;exact Aof d p m r s
  grind
 .split at d
  .rename_i N j o _ S W l;split at d
   .rename_i e _;subst e;obtain⟨z,d⟩:=d;obtain⟨D,E,p,w,m,_⟩:=h.DO l;obtain⟨_,b,K,G,J,r,s⟩:=q;rcases @Bw.ex _ (RT Y.toUS N) _ _ _ _ _ p with ⟨_,C,_⟩|⟨U,F,y,Z,B,rfl,n,C,X,V,M⟩
    .grind
    rw[r]at n;cases n;obtain⟨u,P,Q⟩:=M j z;refine Ayk d P ⟨rfl,λi I=>?_⟩ s;rw[Bz m.heap,ar];grind
   grind
  grind
 .rename_i i b o;obtain⟨p,w,m⟩:=q;split at d
  .rename_i O l;obtain⟨D,E,H,R,L,_⟩:=h.DO l;exact Aof d H L w m
  grind
 grind
end
end
section
section
variable {Y:Sys}
def Y9:List (OL Y.D)->Nat->List (AV Y)×List (Nat×CU Y)×Nat
 | [],n=>([],[],n)
 | .dat l::ls,n=>(.dat l.t l.x::(Y9 ls n).1,(Y9 ls n).2.1,(Y9 ls n).2.2)
 | .own t xs::ls,n=>(.own n::(Y9 ls (n+1)).1,(n,.sl t xs)::(Y9 ls (n+1)).2.1,(Y9 ls (n+1)).2.2)
 | .map k e m::ls,n=>(.own n::(Y9 ls (n+1)).1,(n,.mp k e m)::(Y9 ls (n+1)).2.1,(Y9 ls (n+1)).2.2)
 | .ownO _ δ::ls,n=>(.val (.slice δ 0 0)::(Y9 ls n).1,(Y9 ls n).2.1,(Y9 ls n).2.2)
 | .ownO t (ν xs)::ls,n=>(.own n::(Y9 ls (n+1)).1,(n,.sl t xs)::(Y9 ls (n+1)).2.1,(Y9 ls (n+1)).2.2)
def spl:List (OL Y.D)->(List (OL Y.D)->Prop)->Prop
 | [],k=>k []
 | .ownO t o::ls,k=>(o=δ->spl ls λl=>k (.ownO t δ::l))/\∀xs,o=ν xs->spl ls λl=>k (.ownO t (ν xs)::l)
 | .dat l::ls,k=>spl ls λm=>k (.dat l::m)
 | .own t xs::ls,k=>spl ls λm=>k (.own t xs::m)
 | .map a b c::ls,k=>spl ls λm=>k (.map a b c::m)
theorem Aaf:∀{ls:List (OL Y.D)}{k:List (OL Y.D)->Prop},spl ls k->k ls
 | [],_,h=>h
 |.dat _::ls,_,h|.own _ _::ls,_,h|.map _ _ _::ls,_,h=>Aaf (ls:=ls) h
 | .ownO _ δ::ls,_,h=>Aaf (ls:=ls) (h.1 rfl)
 | .ownO _ (ν a)::ls,_,h=>Aaf (ls:=ls) (h.2 a rfl)
theorem U8:∀{ls:List (OL Y.D)}{vs:List Value}{A:Bi}{g:B3},OR Y g.I g.w vs ls A->∃g',g'.w=g.w/\g'.I=g.I/\Le g g'/\g'.n=(Y9 ls g.n).2.2/\F2 (λa v=>AR g' a v/\v.oneCell'=φ) (Y9 ls g.n).1 vs/\F3 g' (Y9 ls g.n).2.1 A
 | [],[],A,g,h=>⟨g,rfl,rfl,Le.refl _,rfl,.nil,h⟩
 | .dat l::ls,v::vs,A,g,⟨f,s,D⟩=>by obtain⟨g',j,i,d,p,q,o⟩:=U8 D;exact⟨g',j,i,d,p,.cons ⟨(show AR g (.dat l.t l.x) v from f).mono d,s⟩ q,o⟩
 | .own t B::ls,v::vs,A,g,⟨u,y,z,f,s⟩=>by have n:Le g (g.new g.w v):=Le.new (Ext.refl _ _);obtain⟨g',j,i,d,p,q,o⟩:=U8 (g:=g.new g.w v) s;have c:g.n<g'.n:=d.n;have w:g'.μ g.n=v:=(d.μ g.n (a4 _)).trans (g.BA _ _);obtain⟨a,C,x,_⟩:=@Bw.len _ (RT Y.toUS t) _ _ _ _ _ f;refine⟨g',j,i,n.trans d,p,.cons ⟨⟨c,w.symm⟩,by rw[x];rfl⟩ q,u,y,z,c,?_,o⟩;show OO Y t g'.I g'.w u (g'.μ g.n) B;rw[w,j,i];exact f
 | .map k e m::ls,v::vs,A,g,⟨u,y,z,f,s⟩=>by have n:Le g (g.new g.w v):=Le.new (Ext.refl _ _);obtain⟨g',j,i,d,p,q,o⟩:=U8 (g:=g.new g.w v) s;have c:g.n<g'.n:=d.n;have w:g'.μ g.n=v:=(d.μ g.n (a4 _)).trans (g.BA _ _);obtain⟨b,F,E,_,x,_⟩:=@C3.ex _ _ (RT Y.toUS k) (RT Y.toUS e) _ _ _ _ _ f;refine⟨g',j,i,n.trans d,p,.cons ⟨⟨c,w.symm⟩,by rw[x];rfl⟩ q,u,y,z,c,?_,o⟩;show Yo Y k e g'.I g'.w u (g'.μ g.n) m;rw[w,j,i];exact f
 | .ownO t δ::ls,v::vs,A,g,⟨f,s⟩=>by obtain⟨g',j,i,d,p,q,o⟩:=U8 s;exact⟨g',j,i,d,p,.cons ⟨f,by rw[f];rfl⟩ q,o⟩
 | .ownO t (ν B)::ls,v::vs,A,g,⟨u,y,z,f,s⟩=>by have n:Le g (g.new g.w v):=Le.new (Ext.refl _ _);obtain⟨g',j,i,d,p,q,o⟩:=U8 (g:=g.new g.w v) s;have c:g.n<g'.n:=d.n;have w:g'.μ g.n=v:=(d.μ g.n (a4 _)).trans (g.BA _ _);obtain⟨a,C,x,_⟩:=@Bw.len _ (RT Y.toUS t) _ _ _ _ _ f;refine⟨g',j,i,n.trans d,p,.cons ⟨⟨c,w.symm⟩,by rw[x];rfl⟩ q,u,y,z,c,?_,o⟩;show OO Y t g'.I g'.w u (g'.μ g.n) B;rw[w,j,i];exact f
 |.ownO _ _::_,[],_,_,r|.dat _::_,[],_,_,r|.own _ _::_,[],_,_,r|.map _ _ _::_,[],_,_,r|[],_::_,_,_,r=>r.elim
variable {g:B3}
theorem F3.app:∀{l l':List (Nat×CU Y)}{A A':Bi},F3 g l A->F3 g l' A'->F3 g (l++l') (A++A')
 | [],_,_,_,h,a=>by rw[show _=[] from h];exact a
 |_::_,_,_,_,⟨c,d,e,b,f,i⟩,a=>⟨c,d++_,by rw[e,a2],b,f,i.app a⟩
def opn(c:Cf Y)(w b n:Nat)(k:Cf Y->Prop):Prop:=
 ∃x,c.H b=ν (.st n x)/\spl (Y.ocl n x) λls=>k {c with sg:=(w,.blk (Y9 ls c.nx).1)::((Y9 ls c.nx).2.1++c.sg),nx:=(Y9 ls c.nx).2.2,op:=ν ⟨w,b,n,ν x⟩}
variable {g0:B3} {T AH A:Bi} {c:Cf Y} {f:Fr} {b:Nat} {k:Cf Y->Prop}
theorem Ayv(h:RG g0 T c f g AH A)(p:c.op=δ){w n:Nat}(l:opn c w b n k)(o:w<g.n)(C:g.μ w=.pointer (ν ⟨b,0,δ⟩)):∃c' g' AH' A',k c'/\g'.w=g.w/\Le g g'/\RG g0 T c' f g' AH' A':=by
 obtain⟨x,t,l⟩:=l;replace l:=Aaf l;have u:=h.hr;rw[p]at u;obtain⟨I,m,E,H,r⟩:=Ip.take u t h.st;obtain⟨j,e,A',rfl,q⟩:=E;obtain⟨g',v,D,d,z,s,B⟩:=U8 q;rw[h.n]at z s B;refine⟨_,g',m,[(b,.cells j e (0,0))]++(A'++A),l,v,d,z,h.le.trans d.ext,?_,⟨H.mono d.ext,λy G=>?_,a5 o d.n,by show g'.μ w=_;rw[d.μ w o];exact C⟩,⟨_,_,rfl,a5 o d.n,⟨b,j,e,rfl,by rw[d.μ w o];exact C,s⟩,B.app (h.sg.mono d)⟩,h.hs.mono d,d.pt h.pt,λi a F=>(h.fr i a F).mono d⟩
 .rw[v,D];refine r.perm ?_;have:((b,Obj.cells j e (0,0))::A')++(m++(A++T))=([(b,.cells j e (0,0))]++A')++(m++(A++T)):=rfl;rw[this,<-a2 _ m,<-a2 m];refine(be.append_right _).trans ?_;simp
 grind
def At1:AV Y->Bool
 | .val (.slice δ 0 0)=>φ
 |_=>ψ
variable {a:AV Y} {v:Value}
theorem Ai4(h:At1 a=φ)(b:AR g a v):v=.slice δ 0 0:=by
 unfold At1 at h;split at h
 .exact b
 grind
def clO(T:Ty)(a:AV Y)(sg:List (Nat×CU Y)):Option (OL Y.D×List (Nat×CU Y)):=match a with
 | .own j=>match IT sg j with
  |some (.sl t xs)=>match Ty.dec t T with
   | .isTrue _=>ν (.ownO t (ν xs),G4 sg j)
   | .isFalse _=>δ
  |_=>δ
 |a=>match At1 a with
  |true=>ν (.ownO T δ,sg)
  |false=>δ
variable {sg:List (Nat×CU Y)} {r:OL Y.D×List (Nat×CU Y)}
theorem A06{T:Ty}(h:clO T a sg=ν r)(c:AR g a v)(hs:F3 g sg A):∃A1 A2,A.Perm (A1++A2)/\(∀vs ls A',OR Y g.I g.w vs ls A'->OR Y g.I g.w (v::vs) (r.1::ls) (A1++A'))/\F3 g r.2 A2:=by
 unfold clO at h;split at h
 .rename_i j;split at h
  .rename_i t m k;split at h
   .cases h;obtain⟨A1,A2,f,l,i,e⟩:=hs.take k;exact⟨A1,A2,f,λvs ls A' b=>⟨A1,A',rfl,by rw[c.2];exact i,b⟩,e⟩
   grind
  grind
 .split at h
  .rename_i d;cases h;exact⟨[],A,aa _,λvs ls A' b=>⟨Ai4 d c,b⟩,hs⟩
  grind
def clD(k:RK)(a:AV Y)(sg:List (Nat×CU Y)):Option (OL Y.D×List (Nat×CU Y)):=match a with
 | .own j=>match IT sg j with
  |some (.sl t xs)=>ν (.own t xs,G4 sg j)
  |some (.mp k e m)=>ν (.map k e m,G4 sg j)
  |_=>δ
 | .sub j T lo=>match k,IT sg j with
  | .own _,ν (.sl t xs)=>match Ty.dec T t with
   | .isTrue _=>ν (.own t (xs.drop lo),G4 sg j)
   | .isFalse _=>δ
  |_,_=>δ
 |a=>match k with
  | .dat t=>match t.leaf,VS t a with
   |true,ν x=>ν (.dat ⟨t,x⟩,sg)
   |_,_=>δ
  | .own t=>match At1 a with
   |true=>ν (.own t [],sg)
   |false=>δ
  | .map _ _ | .ownO _=>δ
theorem A07{k:RK}(h:clD k a sg=ν r)(i:AR g a v)(y:v.oneCell'=φ)(hs:F3 g sg A):∃A1 A2,A.Perm (A1++A2)/\(∀vs ls A',OR Y g.I g.w vs ls A'->OR Y g.I g.w (v::vs) (r.1::ls) (A1++A'))/\F3 g r.2 A2:=by
 unfold clD at h;split at h
 .rename_i j;split at h
  .rename_i t F d;cases h;obtain⟨A1,A2,l,q,c,f⟩:=hs.take d;exact⟨A1,A2,l,λvs ls A' b=>⟨A1,A',rfl,by rw[i.2];exact c,b⟩,f⟩
  .rename_i E e m d;cases h;obtain⟨A1,A2,l,q,c,f⟩:=hs.take d;exact⟨A1,A2,l,λvs ls A' b=>⟨A1,A',rfl,by rw[i.2];exact c,b⟩,f⟩
  grind
 .split at h
  .rename_i d;split at h
   .rename_i e _;subst e;cases h;obtain⟨A1,A2,l,q,c,f⟩:=hs.take d;obtain⟨_,z,a,u,B,n,p⟩:=i;refine⟨A1,A2,l,λvs ls A' b=>⟨A1,A',rfl,?_,b⟩,f⟩;obtain⟨D,o,s,_⟩:=@Bw.len _ (RT Y.toUS _) _ _ _ _ _ c;rw[z];refine @Bw.sub _ _ _ _ (RT Y.toUS _) _ _ _ c ?_;grind
   grind
  grind
 .split at h
  .split at h
   .rename_i x p w;cases h;exact⟨[],A,aa _,λvs ls A' b=>⟨Dm w i,y,b⟩,hs⟩
   grind
  .split at h
   .rename_i C;cases h;refine⟨[],A,aa _,λvs ls A' b=>⟨[],A',rfl,?_,b⟩,hs⟩;rw[Ai4 C i];simp[Bw.nil]
   grind
  all_goals grind
def clC(k:RK)(a:AV Y)(sg:List (Nat×CU Y)):Option (OL Y.D×List (Nat×CU Y)):=match k with
 | .ownO T=>clO T a sg
 |k=>clD k a sg
theorem A08{k:RK}(h:clC k a sg=ν r)(b:AR g a v)(c:v.oneCell'=φ)(hs:F3 g sg A):∃A1 A2,A.Perm (A1++A2)/\(∀vs ls A',OR Y g.I g.w vs ls A'->OR Y g.I g.w (v::vs) (r.1::ls) (A1++A'))/\F3 g r.2 A2:=by unfold clC at h;grind[A06,A07]
def clL:List RK->List (AV Y)->List (Nat×CU Y)->Option (List (OL Y.D)×List (Nat×CU Y))
 | [],[],sg=>ν ([],sg)
 |k::ks,a::l,sg=>match clC k a sg with
  |some r=>match clL ks l r.2 with
   |some q=>ν (r.1::q.1,q.2)
   |none=>δ
  |none=>δ
 |_,_,_=>δ
theorem Arc{g:B3}:∀{ks:List RK}{l:List (AV Y)}{vs:List Value}{sg:List (Nat×CU Y)}{A:Bi}{r:List (OL Y.D)×List (Nat×CU Y)},clL ks l sg=ν r->F2 (λa v=>AR g a v/\v.oneCell'=φ) l vs->F3 g sg A->∃A1 A2,A.Perm (A1++A2)/\OR Y g.I g.w vs r.1 A1/\F3 g r.2 A2
 | [],[],vs,sg,A,r,h,j,b=>by cases h;cases j;exact⟨[],A,aa _,rfl,b⟩
 |k::ks,a::l,_,sg,A,r,h,.cons d e,b=>by
  unfold clL at h;split at h
  .rename_i w c;split at h
   .rename_i q f;cases h;obtain⟨A1,A2,u,n,m⟩:=A08 c d.1 d.2 b;obtain⟨s,t,p,o,i⟩:=Arc f e m;refine⟨A1++s,t,?_,n _ _ _ o,i⟩;rw[a2];exact u.trans (p.append_left A1)
   grind
  grind
 |[],_::_,_,_,_,_,h,_,_|_::_,[],_,_,_,_,h,_,_=>by grind[clL]
def Ag9(c:Cf Y):List RK->List (AV Y)->Cf Y
 |.dat _::ks,.own i::l|.dat _::ks,.sub i _ _::l=>Ag9 (c.frz i) ks l
 |_::ks,_::l=>Ag9 c ks l
 |_,_=>c
theorem Aux:∀(ks:List RK)(l:List (AV Y)){g:B3}{A:Bi}{c:Cf Y},RG g0 T c f g AH A->∃g' A',g'.w=g.w/\Le g g'/\RG g0 T (Ag9 c ks l) f g' AH A':=by
 intro ks;induction ks with
 |nil=>intro l g A c h;refine⟨g,A,rfl,Le.refl _,?_⟩;cases l<;>exact h
 |cons k ks j=>
  intro l g A c h;cases l with
  |nil=>refine⟨g,A,rfl,Le.refl _,?_⟩;cases k<;>exact h
  |cons a l=>
   have b:∀i,∃g' A',g'.w=g.w/\Le g g'/\RG g0 T (Ag9 (c.frz i) ks l) f g' AH A':=λi=>by obtain⟨v,u,p,_,t,r⟩:=h.frz i;obtain⟨n,o,s,m,q⟩:=j l r;exact⟨n,o,s.trans p,t.trans m,q⟩
   unfold Ag9;split
   .simp_all
   .simp_all
   .rename_i e d;cases e;cases d;exact j _ h
   grind
def cls(c:Cf Y)(k:Cf Y->Prop):Prop:=match c.op with
 |none=>k c
 |some o=>match IT c.sg o.i with
  |some (.blk cs)=>(λc2:Cf Y=>match c2.op with
   |none=>False
   |some o2=>match IT c2.sg o2.i with
    |some (.blk cs2)=>match clL (Y.Aot o2.n) cs2 (G4 c2.sg o2.i) with
     |some r=>match Y.oun o2.n r.1 with
      |some x'=>match o2.x with
       |some x=>x'=x/\k {c2 with sg:=r.2,op:=δ}
       |none=>k {c2 with sg:=r.2,op:=δ,H:=Ac c2.H o2.b (.st o2.n x')}
      |none=>False
     |none=>False
    |_=>False) (Ag9 c (Y.Aot o.n) cs)
  |_=>False
theorem DA(h:RG g0 T c f g AH A)(a:cls c k):∃c' g' AH' A',k c'/\g'.w=g.w/\Le g g'/\RG g0 T c' f g' AH' A'/\(c.op=δ->c'=c)/\c'.op=δ:=by
 unfold cls at a;split at a
 .rename_i d;exact⟨c,g,AH,A,a,rfl,Le.refl _,h,λ_=>rfl,d⟩
 .rename_i o d;split at a
  .rename_i E W;obtain⟨l,S,s,i,b⟩:=Aux (Y.Aot o.n) E h;generalize Ag9 c (Y.Aot o.n) E=X at a b;split at a
   .grind
   .rename_i v n;split at a
    .rename_i N B;split at a
     .rename_i r O;split at a
      .rename_i I z;have C:=b.hr;rw[n]at C;obtain⟨F,m,Z,w⟩:=C;obtain⟨Q,R,P,U,⟨V,j,e,rfl,q,H⟩,J⟩:=b.sg.take B;rw[w]at q;cases q;obtain⟨u,y,G,K,D⟩:=Arc O H J;have p:obR Y (.st v.n I) l.I l.w ((v.b,.cells j e (0,0))::u) v.b:=⟨j,e,u,rfl,by rw[Y.Aos _ _ _ z];exact K⟩
       have t:St l.I l.w ((((v.b,.cells j e (0,0))::u)++AH)++(y++T)):=by refine b.st.perm ?_;refine(((P.trans (G.append_left _)).append_right T).append_left AH).trans ?_;simp only[a2,b4,bb];refine b5.trans (List.Perm.cons _ ?_);rw[<-a2,<-a2 u];exact be.append_right _
       split at a
       .rename_i x M;obtain⟨L,a⟩:=a;subst L;exact⟨_,l,_,y,a,s,i,⟨b.n,b.le,t,HpX.back F (m _ M) p,D,b.hs,b.pt,b.fr⟩,(λe=>by grind),rfl⟩
       .exact⟨_,l,_,y,a,s,i,⟨b.n,b.le,t,HpX.lay F p,D,b.hs,b.pt,b.fr⟩,(λe=>by grind),rfl⟩
      grind
     grind
    grind
  grind
def kdO(c:Cf Y)(t:TypeId)(w:Nat):Option Nat:=match lkH c.hs w with
 |some ⟨_,_,ν n⟩=>ν n
 |_=>Y.ok t
def opA(c:Cf Y)(t:TypeId)(w b:Nat)(k:Cf Y->Prop):Prop:=match IT c.sg w with
 |some (.blk _)=>k c
 |_=>match kdO c t w with
  |some n=>cls c λc=>opn c w b n k
  |none=>False
theorem Ao0(h:RG g0 T c f g AH A){t:TypeId}{w:Nat}(a:opA c t w b k)(i:w<g.n)(z:g.μ w=.pointer (ν ⟨b,0,δ⟩)):∃c' g' AH' A',k c'/\g'.w=g.w/\Le g g'/\RG g0 T c' f g' AH' A':=by
 unfold opA at a;split at a
 .exact⟨c,g,AH,A,a,rfl,Le.refl _,h⟩
 .split at a
  .rename_i n B;obtain⟨C,D,x,E,y,s,e,l,_,o⟩:=DA h a;obtain⟨j,q,d,r,v,u,m,p⟩:=Ayv l o y (a5 i e.n) (by rw[e.μ w i];exact z);exact⟨j,q,d,r,v,u.trans s,e.trans m,p⟩
  grind
def Adj(c:Cf Y)(t:TypeId)(a:AV Y)(k:AV Y->Cf Y->Prop):Prop:=match a with
 | .hp w b o=>opA c t w b (k (.hp w b o))
 | .ptr _ _=>adA c 0 (Y.ok t) (λa c=>match a with
  | .hp w b o=>opA c t w b (k (.hp w b o))
  |_=>False) a
 |a=>k a c
theorem QJ(h:RG g0 T c f g AH A){t:TypeId}{k:AV Y->Cf Y->Prop}(i:Adj c t a k)(l:AR g a v):∃a' c' g' AH' A',k a' c'/\g'.w=g.w/\Le g g'/\RG g0 T c' f g' AH' A'/\AR g' a' v:=by
 unfold Adj at i;split at i
 .obtain⟨u,B,e,q,r,m,j,p⟩:=Ao0 h i l.1 l.2.1;exact⟨_,u,B,e,q,r,m,j,p,l.mono j⟩
 .obtain⟨b,o,d,u,z,s,n,y⟩:=Ahq h i l;split at s
  .obtain⟨x,w,e,q,r,m,j,p⟩:=Ao0 y s n.1 n.2.1;refine⟨_,x,w,e,q,r,m,j,p,?_⟩;rw[z];exact n.mono j
  grind
 .exact⟨a,c,g,AH,A,i,rfl,Le.refl _,h,l⟩
theorem TG{I:Cb}{w:World}{H:HH Y}{x:Obj}(h:Ip (Ra Y) I w H AH)(s:St I w ((b,x)::(AH++T))):H b=δ:=by obtain⟨L,f,d⟩:=h.ex;rw[<-f b];refine d.fresh λp c e=>?_;have a:=s.nodup;grind
def Aph(c:Cf Y)(n:Nat)(cs:List (AV Y))(k:AV Y->Cf Y->Prop):Prop:=match c.op with
 |none=>∀b,c.H b=δ->k (.hp c.nx b 0) {c with sg:=(c.nx,.blk cs)::c.sg,nx:=c.nx+1,op:=ν ⟨c.nx,b,n,δ⟩,hs:=⟨c.nx,b,ν n⟩::c.hs}
 |some _=>False
theorem At2(h:RG g0 T c f g AH A){n:Nat}{cs:List (AV Y)}{vs:Array Value}{e:TypeId}{k:AV Y->Cf Y->Prop}(l:Aph c n cs k)(w:F2 (λa v=>AR g a v/\v.oneCell'=φ) cs vs.toList):∃a c' g' A',k a c'/\Le g g'/\g'.w=g.w.alloc (.cells vs e)/\RG g0 T c' f g' AH A'/\AR g' a (.pointer (ν ⟨g.w.heap.size,0,δ⟩)):=by
 unfold Aph at l;split at l
 .rename_i m;obtain⟨p,q⟩:=h.st.alloc (.cells vs e);have i:=Le.new (g:=g) (v:=.pointer (ν ⟨g.w.heap.size,0,δ⟩)) p;have t:=h.hr;rw[m]at t;have j:=Ip.mono t p;have o:c.H g.w.heap.size=δ:=TG j q;have b:=h.new (s:=.blk cs) (v:=.pointer (ν ⟨g.w.heap.size,0,δ⟩)) p ⟨_,vs,e,rfl,g.BA _ _,w.mono λ_ _ r=>⟨r.1.mono i,r.2⟩⟩ q;obtain⟨L,u,y⟩:=j.ex;refine⟨_,_,g.new (g.w.alloc (.cells vs e)) (.pointer (ν ⟨g.w.heap.size,0,δ⟩)),_,l _ o,i,rfl,⟨b.n,b.le,b.st,⟨⟨L,λc _=>u c,y⟩,λx d=>(by cases d),?_,?_⟩,b.sg,?_,b.pt,b.fr⟩,?_⟩
  .rw[<-h.n];exact a4 _
  .rw[<-h.n];exact g.BA _ _
  .intro x d;rcases al.1 d with rfl|d
   .rw[<-h.n];exact⟨a4 _,g.BA _ _⟩
   .exact b.hs x d
  .rw[<-h.n];exact⟨a4 _,g.BA _ _,rfl⟩
 grind
end
end
section
section
variable {Y:Sys}
def Qz(g0:B3)(T:Bi)(f:Fr)(w:World)(op:Op)(k:AV Y->Cf Y->Prop)(g:B3):Prop:=∀(N:Nat)(ops:Array Oper)(R:List PanicEntry->World->Prop)(K:Fr->World->Prop)(os:List Oper)(dst:Option Tmp)(ty:TypeId)(pos:String)(af:Array Edge),(∀v a c' g' AH' A',Le g g'->RG g0 T c' f g' AH' A'->AR g' a v->k a c'->WL Y.P N ops R ψ K os (X.put N f dst v) g'.w)->WL Y.P N ops R ψ K (⟨dst,op,ty,pos,af,δ⟩::os) f w
def Cf.EC(c:Cf Y):Cf Y:={c with op:=match c.op with|none=>δ|some o=>ν ⟨o.i,o.b,o.n,δ⟩}
variable {g0 g:B3} {T AH A:Bi} {c:Cf Y} {f:Fr}
theorem RG.EC(h:RG g0 T c f g AH A):RG g0 T c.EC f g AH A:=by
 refine⟨h.n,h.le,h.st,?_,h.sg,h.hs,h.pt,h.fr⟩;have:=h.hr;show HR g c.H c.sg AH (match c.op with|none=>δ|some o=>ν ⟨o.i,o.b,o.n,δ⟩);cases a:c.op with
 |none=>grind
 |some o=>rw[a]at this;exact⟨this.1,(λx b=>by cases b),this.2.2⟩
variable {b n:Nat} {e t:TypeId}
theorem storeCells{P:Program}{I:Cb}{w:World}{o:Nat}{cs:Array Value}{y:Value}{agg:Bool}(i:Q5 P t agg n=φ)(hs:St I w ([(b,.cells cs e (0,0))]++T))(f:y.cells.size=n)(h:∀v∈y.cells.toList,v.oneCell'=φ)(l:o+n<=cs.size):∃w' row,(Instr.storeAt t (.pointer (ν ⟨b,o,δ⟩)) y).run P w=.ok () w'/\Ext I w I w'/\St I w' ([(b,.cells row e (0,0))]++T)/\row.toList=cs.toList.take o++(y.cells.toList++cs.toList.drop (o+n)):=by
 have a:=run_storeCells_at P b o e y.cells.toList 0 cs w hs.heap (by grind) h;simp only[ao]at a;generalize d:(bg o cs.toList++y.cells.toList++bp (o+τ y.cells.toList) cs.toList).toArray=row at a;obtain⟨k,g⟩:=hs.write (w':=w.setRow b row) rfl rfl rfl (by simp) (setRow_heap w b cs _ e _ hs.heap) (λc j=>setRow_other w b c _ j);refine⟨_,row,?_,k,g,?_⟩
 .simp [Instr.storeAt,Instr.sureAddr,storeVar,(HB (w:=w) i).2,f,a]
 grind
def stB(c:Cf Y)(i:Nat)(cs:List (AV Y))(o:Nat)(t:TypeId)(a:AV Y)(k:Cf Y->Prop):Prop:=match Y.ty t with
 |some (.u n)=>match Wf a (Y.sig n) with
  |some l=>Fx (Q5 Y.P t φ (τ (Y.sig n))&&an (τ l) (τ (Y.sig n))&&bk (o+τ (Y.sig n)) (τ cs)&&l.all λx=>x.t.leaf)
   (k {c.EC with sg:=(i,.blk (cs.take o++(l.map (λx=>AV.dat x.t x.x)++cs.drop (o+τ (Y.sig n)))))::G4 c.sg i})
  |none=>False
 |_=>Fx (Q5 Y.P t ψ 1&&Alu c a&&bt o (τ cs)) (k {c.EC with sg:=(i,.blk (cs.take o++([a]++cs.drop (o+1))))::G4 c.sg i})
variable {cs:List (AV Y)} {a:AV Y} {x y:Operand} {kk:AV Y->Cf Y->Prop}
theorem An1(h:RG g0 T c f g AH A){i o:Nat}(hs:IT c.sg i=ν (.blk cs))(m:stB c i cs o t a λc'=>kk (.val undef) c')(hi:g.μ i=.pointer (ν ⟨b,0,δ⟩))(hx:ev f x=.pointer (ν ⟨b,o,δ⟩))(W:AR g a (ev f y)):Qz g0 T f g.w (.store t x y) kk g:=by
 intro N V R K os dst ty pos af H;obtain⟨A1,A2,⟨b',Q,e,rfl,I,D⟩,hin,E,P⟩:=h.EC.DO (s:=.blk cs) hs;rw[hi]at I;cases I;have F:∀{u:World}{j:Array Value}{q:List (AV Y)},(Instr.storeAt t (.pointer (ν ⟨b,o,δ⟩)) (ev f y)).run Y.P g.w=.ok () u->Ext g.I g.w g.I u->St g.I u ([(b,.cells j e (0,0))]++(AH++(A2++T)))->
   (∀S,Le g S->F2 (λa v=>AR S a v/\v.oneCell'=φ) q j.toList)->kk (.val undef) {c.EC with sg:=(i,.blk q)::G4 c.sg i}->WL Y.P N V R ψ K (⟨dst,.store t x y,ty,pos,af,δ⟩::os) f g.w:=λ{u j q}L M O J h5=>by
  have p:Le g {g with w:=u}:=⟨M,a3 _,λ_ _=>rfl,rfl⟩
  have:=H undef (.val undef) _ {g with w:=u} AH ([(b,.cells j e (0,0))]++A2) p (P (.blk q) [(b,.cells j e (0,0))] {g with w:=u} p rfl ⟨b,j,e,rfl,hi,J _ p⟩ O) rfl h5
  simp_all[NW,execOp]
 unfold stB at m;split at m
 .rename_i n hn;split at m
  .rename_i l hl;obtain⟨G,m⟩:=AJ m;simp only[a1,bj,aw]at G;obtain⟨⟨⟨X,hlen⟩,p⟩,B⟩:=G;have z:=Xr hl W;have d:=Aed z B;have U:(ev f y).cells.size=τ (Y.sig n):=by have:=z.len;grind
   have Z:τ cs=Q.size:=by have:=D.len;omega
   obtain⟨u,j,L,M,O,J⟩:=storeCells (o:=o) X E U d (by omega);refine F L M O (λS k=>?_) m;rw[J];refine((D.take o).mono λ_ _ r=>⟨r.1.mono k,r.2⟩).app (.app ?_ ((D.drop _).mono λ_ _ r=>⟨r.1.mono k,r.2⟩));refine Asa (Asc (Akk z) λv hv a r=>⟨?_,d v hv⟩);exact(show AR g (.dat a.t a.x) v from r).mono k
  grind
 .obtain⟨G,m⟩:=AJ m;simp only[a1,Nat.blt_eq]at G;obtain⟨⟨X,d⟩,hlt⟩:=G;have d:=Aiu h d W;have Z:τ cs=Q.size:=by have:=D.len;omega
  have C:(ev f y).cells=#[ev f y]:=by generalize ev f y=v at d;cases v<;>first|rfl|grind[Value.oneCell']
  obtain⟨u,j,L,M,O,J⟩:=storeCells (o:=o) (n:=1) X E (by rw[C];rfl) (by grind) (by omega);refine F L M O (λS k=>?_) m;rw[J,C];exact((D.take o).mono λ_ _ r=>⟨r.1.mono k,r.2⟩).app (.app (.cons ⟨W.mono k,d⟩ .nil) ((D.drop _).mono λ_ _ r=>⟨r.1.mono k,r.2⟩))
def stE(c:Cf Y)(i:Nat)(T:Ty)(j:Nat)(T':Ty)(xs:List (den Y.D T'))(t:TypeId)(a:AV Y)(k:Cf Y->Prop):Prop:=match Ty.dec T T' with
 | .isTrue _=>match VS T' a with
  |some d=>Fx (Q5 Y.P t (isU T') (sz Y.toUS T')) (j<τ xs/\k {c.EC with sg:=(i,.sl T' (xs.set j d))::G4 c.sg i})
  |none=>False
 | .isFalse _=>False
theorem Ax4{T0:Bi}(h:RG g0 T0 c f g AH A){i j off len cap:Nat}{T T':Ty}{xs:List (den Y.D T')}(hs:IT c.sg i=ν (.sl T' xs))(k:stE c i T j T' xs t a λc'=>kk (.val undef) c')(hi:g.μ i=.slice (ν ⟨b,off,δ⟩) len cap)(J:ev f x=.pointer (ν ⟨b,off+j*sz Y.toUS T+0,δ⟩))(z:AR g a (ev f y)):Qz g0 T0 f g.w (.store t x y) kk g:=by
 intro N L R K Q D P v U m;obtain⟨S,F,C,G,o,n⟩:=h.EC.DO (s:=.sl T' xs) hs;unfold stE at k;split at k
 .rename_i e _;subst e;split at k
  .rename_i d O;obtain⟨H,E,k⟩:=AJ k;have q:At (g.μ i) (sz Y.toUS T) j ⟨b,off+j*sz Y.toUS T+0,δ⟩:=⟨b,off,_,_,hi,rfl⟩
   letI:AT (den Y.D T):=RT Y.toUS T
   obtain⟨u,p,r,M,I,B⟩:=Akw (α:=den Y.D T) C o q E (Dm O z) H;have l:Le g {g with w:=p}:=⟨M,a3 _,λ_ _=>rfl,rfl⟩
   have:=m undef (.val undef) _ {g with w:=p} AH (u++F) l (n (.sl T (xs.set j d)) u {g with w:=p} l rfl B I) rfl k;simp_all[ao,NW,execOp]
  grind
 grind
def stX(c:Cf Y)(t:TypeId)(p a:AV Y)(k:Cf Y->Prop):Prop:=match p with
 | .adr i o=>match IT c.sg i with
  |some (.blk cs)=>stB c i cs o t a k
  |_=>False
 | .hp i _ o=>match IT c.sg i with
  |some (.blk cs)=>stB c i cs o t a k
  |_=>False
 | .el i T j 0=>match IT c.sg i with
  |some (.sl T' xs)=>stE c i T j T' xs t a k
  |_=>False
 |_=>False
theorem An0(h:RG g0 T c f g AH A){p:AV Y}(d:stX c t p a λc'=>kk (.val undef) c')(i:AR g p (ev f x))(l:AR g a (ev f y)):Qz g0 T f g.w (.store t x y) kk g:=by
 unfold stX at d;split at d
 .split at d
  .rename_i m e;obtain⟨_,b,j,k⟩:=i;grind[An1]
  grind
 .split at d
  .rename_i m e;exact An1 h e d i.2.1 i.2.2 l
  grind
 .split at d
  .rename_i s r e;obtain⟨_,b,o,n,q,j,k⟩:=i;grind[Ax4]
  grind
 grind
variable {k:AV Y->Cf Y->Prop}
theorem Api(h:RG g0 T c f g AH A){op:Op}{vs:Array Value}(q:F2 (λa v=>AR g a v/\v.oneCell'=φ) cs vs.toList)(o:∀(dst:Option Tmp)(ty:TypeId)(b:String)(j:Array Edge),(execOp (ev f) ⟨dst,op,ty,b,j,δ⟩).run Y.P g.w=.ok (.value (.pointer (ν ⟨g.w.heap.size,0,δ⟩))) (g.w.alloc (.cells vs e)))(p:k (.adr c.nx 0) {c with sg:=(c.nx,.blk cs)::c.sg,nx:=c.nx+1}):Qz g0 T f g.w op k g:=by
 intro N m R K s dst ty b j i;obtain⟨l,n⟩:=h.st.alloc (.cells vs e);have d:=Le.new (g:=g) (v:=.pointer (ν ⟨g.w.heap.size,0,δ⟩)) l;refine Ao (o dst ty b j) (i _ (.adr c.nx 0) _ (g.new (g.w.alloc (.cells vs e)) (.pointer (ν ⟨g.w.heap.size,0,δ⟩))) AH _ d (h.new l ?_ n) ?_ p)
 .exact⟨_,vs,e,rfl,g.BA _ _,q.mono λ_ _ r=>⟨r.1.mono d,r.2⟩⟩
 .rw[<-h.n];exact⟨a4 _,_,g.BA _ _,rfl⟩
theorem Aik(dst:Option Tmp)(ty:TypeId)(a:String)(b:Array Edge):(execOp (ev f) ⟨dst,.box e x,ty,a,b,δ⟩).run Y.P g.w=.ok (.value (.pointer (ν ⟨g.w.heap.size,0,δ⟩))) (g.w.alloc (.cells (ev f x).cells e)):=by rfl
def A1d(c:Cf Y)(pr:Option Nat)(a:AV Y)(k:AV Y->Cf Y->Prop):Prop:=match Ab7 c a with
 |some cs=>match pr with
  |none=>k (.adr c.nx 0) {c with sg:=(c.nx,.blk cs)::c.sg,nx:=c.nx+1}
  |some n=>Aph c n cs k
 |none=>False
theorem newObj(h:RG g0 T c f g AH A){op:Op}{vs:Array Value}(w:F2 (λa v=>AR g a v/\v.oneCell'=φ) cs vs.toList)(r:∀(dst:Option Tmp)(ty:TypeId)(b:String)(i:Array Edge),(execOp (ev f) ⟨dst,op,ty,b,i,δ⟩).run Y.P g.w=.ok (.value (.pointer (ν ⟨g.w.heap.size,0,δ⟩))) (g.w.alloc (.cells vs e)))(s:Aph c n cs k):Qz g0 T f g.w op k g:=by intro N o R K y dst ty b i d;obtain⟨a,l,x,m,j,p,q,u,t⟩:=At2 (e:=e) h s w;grind[Ao]
variable {pr:Option Nat}
theorem Avs(h:RG g0 T c f g AH A)(b:A1d c pr a k)(j:AR g a (ev f x)):Qz g0 T f g.w (.box e x) k g:=by
 unfold A1d at b;split at b
 .rename_i l d;have i:=ZM h d j;split at b
  .exact Api h i Aik b
  .exact newObj h i Aik b
 grind
def zro(P:Program)(t:TypeId):Option Value:=(P.info? t).bind (·.zero)
def A2d(x:Lf Y.D)(v:Value):AV Y:=match x with
 |⟨.sl _,_⟩=>.val v
 |x=>.dat x.t x.x
def Axg:List (Lf Y.D)->List Value->List (AV Y)
 |x::l,v::vs=>A2d x v::Axg l vs
 |_,_=>[]
theorem Ahz{g:B3}:∀{l:List (Lf Y.D)}{vs:List Value},F2 (λc(l:Lf Y.D)=>rp Y.toUS l.t g.I g.w c l.x) vs l->vs.all (·.oneCell')=φ->F2 (λa v=>AR g a v/\v.oneCell'=φ) (Axg l vs) vs
 | [],[],_,_=>.nil
 |x::l,v::vs,.cons d e,b=>by
  simp only[bm,a1]at b;refine .cons ⟨?_,b.1⟩ (Ahz e b.2);unfold A2d;split
  .rfl
  .exact d
def Axf(e:TypeId)(z:Value):Option (List (AV Y)):=match z.cells.toList.all (·.oneCell') with
 |true=>match Y.ty e with
  |some (.u n)=>match LJ (Y:=Y) (Y.sig n) z.cells.toList with
   |some l=>ν (Axg l z.cells.toList)
   |none=>δ
  |_=>ν (As0 z.cells.toList)
 |false=>δ
theorem Ahy{z:Value}(h:Axf e z=ν cs):F2 (λa v=>AR g a v/\v.oneCell'=φ) cs z.cells.toList:=by
 unfold Axf at h;split at h
 .rename_i b;split at h
  .split at h
   .rename_i l c;cases h;exact Ahz (MB (I:=g.I) (w:=g.w) c) b
   grind
  .cases h;exact VZ b
 grind
def Av0(c:Cf Y)(pr:Option Nat)(e:TypeId)(k:AV Y->Cf Y->Prop):Prop:=match zro Y.P e with
 |some z=>match Axf (Y:=Y) e z with
  |some cs=>match pr with
   |none=>k (.adr c.nx 0) {c with sg:=(c.nx,.blk cs)::c.sg,nx:=c.nx+1}
   |some n=>Aph c n cs k
  |none=>False
 |none=>False
theorem Ake(h:RG g0 T c f g AH A)(a:Av0 c pr e k):Qz g0 T f g.w (.alloc e) k g:=by
 unfold Av0 at a;split at a
 .rename_i z m;have run:∀(d:Option Tmp)(p:TypeId)(b:String)(o:Array Edge),(execOp (ev f) ⟨d,.alloc e,p,b,o,δ⟩).run Y.P g.w=.ok (.value (.pointer (ν ⟨g.w.heap.size,0,δ⟩))) (g.w.alloc (.cells z.cells e)):=λd p b o=>by
   unfold zro at m;cases n:Y.P.info? e with
   |none=>grind
   |some i=>
    simp only[n,ae]at m;simp_all[execOp,Instr.alloc,newVar,newRow,zeroValue,typeInfo]
  split at a
  .rename_i q j;split at a
   .exact Api h (Ahy j) run a
   .exact newObj h (Ahy j) run a
  grind
 grind
def Qy:List Value->Bool
 | []=>φ
 | .bool ψ::l=>Qy l
 |_::_=>ψ
theorem V4:∀{l:List Value},Qy l=φ->∀j(h:j<τ l),l[j]=.bool ψ
 | [],_,j,h=>qG h (Nat.not_lt_zero _)
 |v::l,a,0,_=>by grind[Qy]
 |v::l,a,j+1,h=>by
  unfold Qy at a;split at a
  .rename_i e;cases e
  .rename_i e;cases e;exact V4 a j (Nat.lt_of_succ_lt_succ h)
  .cases a
def arX(P:Program)(e:TypeId):Option (Nat×Value):=match P.underlying e with
 |some (.array n _)=>match zro P e with
  |some z=>match Qy z.cells.toList&&an z.cells.size n&&bk n 1000 with
   |true=>ν (n,z)
   |false=>δ
  |none=>δ
 |_=>δ
theorem A1k{P:Program}{z:Value}(h:arX P e=ν (n,z)):zro P e=ν z/\z.cells.size=n/\n<=1000/\∀j(h:j<τ z.cells.toList),z.cells.toList[j]=.bool ψ:=by
 unfold arX at h;split at h
 .split at h
  .rename_i z' hz;split at h
   .rename_i hb;cases h;simp only[a1]at hb;exact⟨hz,a7 hb.1.2,bc hb.2,V4 hb.1.1⟩
   grind
  grind
 grind
def A1n(c:Cf Y)(pr:Option Nat)(e:TypeId)(k:AV Y->Cf Y->Prop):Prop:=match pr with
 |none=>match arX Y.P e with
  |some (n,_)=>k (.el c.nx .bool 0 0) {c with sg:=(c.nx,.sl .bool (ax n ψ))::c.sg,nx:=c.nx+1}
  |none=>Av0 c δ e k
 |some n=>Av0 c (ν n) e k
theorem Avz(h:RG g0 T c f g AH A)(l:A1n c pr e k):Qz g0 T f g.w (.alloc e) k g:=by
 unfold A1n at l;split at l
 .split at l
  .rename_i n z m;obtain⟨m,D,B,q⟩:=A1k m;have run:∀(b:Option Tmp)(s:TypeId)(a:String)(t:Array Edge),(execOp (ev f) ⟨b,.alloc e,s,a,t,δ⟩).run Y.P g.w=.ok (.value (.pointer (ν ⟨g.w.heap.size,0,δ⟩))) (g.w.alloc (.cells z.cells e)):=λb s a t=>by
    unfold zro at m;cases d:Y.P.info? e with
    |none=>grind
    |some i=>
     simp only[d,ae]at m;simp_all[execOp,Instr.alloc,newVar,newRow,zeroValue,typeInfo]
   intro N y R K E b s a t p;obtain⟨x,C⟩:=h.st.alloc (.cells z.cells e);have r:=Le.new (g:=g) (v:=.slice (ν ⟨g.w.heap.size,0,δ⟩) n n) x;refine Ao (run b s a t) (p _ (.el c.nx .bool 0 0) _ (g.new (g.w.alloc (.cells z.cells e)) (.slice (ν ⟨g.w.heap.size,0,δ⟩) n n)) AH _ r (h.new x ?_ C) ?_ l)
   .show OO Y .bool _ _ _ _ _;rw[g.BA];letI:AT (den Y.D .bool):=RT Y.toUS .bool
    refine Bw.UB (α:=den Y.D .bool) (by simp) (by simp) (by grind[maxLen]) ?_ ?_
    .show n*1<=_;omega
    .intro j w;rw[bf]at w;refine⟨.bool ψ,?_,λi d=>?_⟩
     .rw[List.getElem_replicate];exact HQ.2 rfl
     .have d:i<1:=d;have o:j<τ z.cells.toList:=by grind
      show z.cells[j*1+i]?=_;rw[show j*1+i=j by omega,<-a9,List.getElem?_eq_getElem o,q j o,show i=0 by omega];rfl
   .rw[<-h.n];exact⟨a4 _,_,0,_,_,g.BA _ _,by simp⟩
  grind[Ake]
 grind[Ake]
end
end
section
section
variable {Y:Sys}
def Sp(P:Program)(t:TypeId):Option (TypeId×TypeId):=match P.underlying t with
 |some (.map k e)=>ν (k,e)
 |_=>δ
variable {t:TypeId}
theorem Abh{P:Program}{p:TypeId×TypeId}(h:Sp P t=ν p):P.underlying t=ν (.map p.1 p.2):=by grind[Sp]
theorem Abg{kt et:TypeId}{k e:Ty}(h:Sp Y.P t=ν (kt,et))(a:Y.km kt k=φ):@Afn Y.P t kt et (den Y.D k) (den Y.D e) (RT Y.toUS k) (RT Y.toUS e) (I4 Y k):=@Afn.mk Y.P t kt et (den Y.D k) (den Y.D e) (RT Y.toUS k) (RT Y.toUS e) (I4 Y k) (Abh h) (Y.Ap3 kt k a)
def Asq(t:TypeId)(T:Ty):Option (den Y.D T):=match zro Y.P t with
 |some z=>UX T z
 |none=>δ
theorem Ah0{T:Ty}{x:den Y.D T}(h:Asq t T=ν x)(I:Cb)(w:World):∃z,(zeroValue t).run Y.P w=.ok z w/\rp Y.toUS T I w z x:=by
 unfold Asq at h;split at h
 .rename_i z a;refine⟨z,?_,QX h⟩;unfold zro at a;cases b:Y.P.info? t with
  |none=>grind
  |some i=>
   simp_all[ae,zeroValue,typeInfo]
 grind
def luX(c:Cf Y)(t:TypeId)(x y:Operand)(ok:Bool)(K:AV Y->Cf Y->Prop):Prop:=match Sp Y.P t,E9 c x,E9 c y with
 |some (kt,et),ν (.own i),ν b=>match IT c.sg i with
  |some (.mp k e m)=>match VS k b,Asq (Y:=Y) et e with
   |some kd,ν zd=>Fx (Y.km kt k) (match ok with
    |false=>K (.dat e ((@Ag _ _ (I4 Y k) m kd).getD zd)) c
    |true=>K (.own c.nx) {c with sg:=(c.nx,.tp [.dat e ((@Ag _ _ (I4 Y k) m kd).getD zd),.prp ((@Ag _ _ (I4 Y k) m kd).isSome=φ) inferInstance])::c.sg,nx:=c.nx+1})
   |_,_=>False
  |_=>False
 |_,_,_=>False
variable {g0 g:B3} {T AH A:Bi} {c:Cf Y} {f:Fr} {x y:Operand} {K:AV Y->Cf Y->Prop}
theorem Azq(h:RG g0 T c f g AH A){ok:Bool}(a:luX c t x y ok K):Qz g0 T f g.w (.lookup t x y ok) K g:=by
 intro N S R X V P U I af d;unfold luX at a;split at a
 .rename_i W Z i b J Q E;split at a
  .rename_i k e m H;split at a
   .rename_i j G C M;obtain⟨v,a⟩:=AJ a;have F:=Abg (e:=e) J v;obtain⟨A1,A2,D,O,l,_⟩:=h.DO H;obtain⟨z,n,o⟩:=Ah0 M g.I g.w;have B:=(h.ev Q).2;letI:AT (den Y.D k):=RT Y.toUS k
    letI:AT (den Y.D e):=RT Y.toUS e
    letI:DecidableEq (den Y.D k):=I4 Y k
    split at a
    .exact Xb F D l B rfl (Dm C (h.ev E)) n o λu r=>d u (.dat e ((Ag m j).getD G)) c g AH A (Le.refl _) h r a
    .refine Xa F D l B rfl (Dm C (h.ev E)) n o λu r=>?_;generalize w:Value.tuple #[u,.bool (Ag m j).isSome]=q;have p:Le g (g.new g.w q):=Le.new (Ext.refl _ _);refine d q (.own c.nx) _ (g.new g.w q) AH A p (h.new (A1:=[]) (s:=.tp [.dat e ((Ag m j).getD G),.prp ((Ag m j).isSome=φ) inferInstance]) (Ext.refl _ _) ⟨rfl,[u,.bool (Ag m j).isSome],(g.BA _ _).trans w.symm,.cons (show rp Y.toUS e _ _ u _ from Ff p.ext r) (.cons ?_ .nil)⟩ (by simpa using h.st)) ?_ a
     .show Value.bool _=Value.bool _;cases L:(Ag m j).isSome<;>simp
     .rw[<-h.n];exact⟨a4 _,(g.BA _ _).symm⟩
   grind
  grind
 grind
def mkM(c:Cf Y)(t:TypeId)(K:AV Y->Cf Y->Prop):Prop:=match Sp Y.P t with
 |some (kt,et)=>match Y.ty kt,Y.ty et with
  |some k,ν e=>K (.own c.nx) {c with sg:=(c.nx,.mp k e [])::c.sg,nx:=c.nx+1}
  |_,_=>False
 |none=>False
theorem Azn(h:RG g0 T c f g AH A)(a:mkM c t K):Qz g0 T f g.w (.makeMap t δ) K g:=by
 intro N n R z y p u q w b;unfold mkM at a;split at a
 .split at a
  .rename_i k e r x;letI:AT (den Y.D k):=RT Y.toUS k
   letI:AT (den Y.D e):=RT Y.toUS e
   refine Zt (den Y.D k) (den Y.D e) h.st λv l d j m o=>?_;have i:Le g (g.new d v):=Le.new j;refine b v (.own c.nx) _ (g.new d v) AH (l++A) i (h.new (s:=.mp k e []) j ?_ m) ?_ a
   .show Yo Y k e _ _ l ((g.new d v).μ g.n) [];rw[g.BA];exact o
   .rw[<-h.n];exact⟨a4 _,(g.BA _ _).symm⟩
  grind
 grind
def upM(c:Cf Y)(t:TypeId)(x y z:Operand)(K:AV Y->Cf Y->Prop):Prop:=match Sp Y.P t,E9 c x,E9 c y,E9 c z with
 |some (kt,_),ν (.own i),ν b,ν d=>match IT c.sg i with
  |some (.mp k e m)=>match VS k b,VS e d with
   |some kd,ν ed=>Fx (Y.km kt k) (K (.val undef) {c.EC with sg:=(i,.mp k e (@C4 _ _ (I4 Y k) m kd ed))::G4 c.sg i})
   |_,_=>False
  |_=>False
 |_,_,_,_=>False
theorem Anj(h:RG g0 T c f g AH A){z:Operand}(a:upM c t x y z K):Qz g0 T f g.w (.mapUpdate t x y z) K g:=by
 intro N B R Kw os O Z W af j;unfold upM at a;split at a
 .rename_i kt X i b d J G H F;split at a
  .rename_i k e m E;split at a
   .rename_i L I U V;obtain⟨r,a⟩:=AJ a;have S:=Abg (e:=e) J r;obtain⟨A1,P,C,Q,o,n⟩:=h.EC.DO (s:=.mp k e m) E;have D:=(h.ev G).2;letI:AT (den Y.D k):=RT Y.toUS k
    letI:AT (den Y.D e):=RT Y.toUS e
    letI:DecidableEq (den Y.D k):=I4 Y k
    refine Ads S C o D rfl rfl (Dm U (h.ev H)) (Dm V (h.ev F)) λu p M v q=>?_;have l:Le g {g with w:=p}:=⟨M,a3 _,λ_ _=>rfl,rfl⟩
    exact j undef (.val undef) _ {g with w:=p} AH (u++P) l (n (.mp k e (C4 m L I)) u {g with w:=p} l rfl q v) rfl a
   grind
  grind
 grind
def dlM(c:Cf Y)(t:TypeId)(x y:Operand)(K:AV Y->Cf Y->Prop):Prop:=match Sp Y.P t,E9 c x,E9 c y with
 |some (kt,_),ν (.own i),ν b=>match IT c.sg i with
  |some (.mp k e m)=>match VS k b with
   |some kd=>Fx (Y.km kt k) (K (.val (.tuple #[])) {c.EC with sg:=(i,.mp k e (@Dl _ _ (I4 Y k) m kd))::G4 c.sg i})
   |_=>False
  |_=>False
 |_,_,_=>False
theorem A0v(h:RG g0 T c f g AH A){at_:Array TypeId}(o:at_[0]?=ν t)(a:dlM c t x y K):Qz g0 T f g.w (.call ⟨.builtin .delete,#[x,y],at_⟩) K g:=by
 intro N H R Z os z U O V j;unfold dlM at a;split at a
 .rename_i W S i b F D E;split at a
  .rename_i k e m C;split at a
   .rename_i G I;obtain⟨q,a⟩:=AJ a;have P:=Abg (e:=e) F q;obtain⟨X,J,Q,L,r,l⟩:=h.EC.DO (s:=.mp k e m) C;have B:=(h.ev D).2;letI:AT (den Y.D k):=RT Y.toUS k
    letI:AT (den Y.D e):=RT Y.toUS e
    letI:DecidableEq (den Y.D k):=I4 Y k
    refine Adt P Q r B rfl (Dm I (h.ev E)) o λu p M v n=>?_;have d:Le g {g with w:=p}:=⟨M,a3 _,λ_ _=>rfl,rfl⟩
    exact j _ (.val (.tuple #[])) _ {g with w:=p} AH (u++J) d (l (.mp k e (Dl m G)) u {g with w:=p} d rfl n v) rfl a
   grind
  grind
 grind
def A68(c:Cf Y)(x:Operand):Bool:=match E9 c x with
 |some (.own i)=>match IT c.sg i with
  |some (.mp _ _ _)=>φ
  |_=>ψ
 |_=>ψ
def lnM(c:Cf Y)(t:TypeId)(x:Operand)(K:AV Y->Cf Y->Prop):Prop:=match Sp Y.P t,E9 c x with
 |some (kt,_),ν (.own i)=>match IT c.sg i with
  |some (.mp k _ m)=>Fx (Y.km kt k) (τ m<=9223372036854775807/\K (.nat (τ m)) c)
  |_=>False
 |_,_=>False
theorem Azt(h:RG g0 T c f g AH A){at_:Array TypeId}(l:at_[0]?=ν t)(a:lnM c t x K):Qz g0 T f g.w (.call ⟨.builtin .len,#[x],at_⟩) K g:=by
 intro N o R C B u F q E b;unfold lnM at a;split at a
 .rename_i D I i p r;split at a
  .rename_i k e m v;obtain⟨d,w,a⟩:=AJ a;have s:=Abg (e:=e) p d;obtain⟨H,G,n,z,j,_⟩:=h.DO v;have y:=(h.ev r).2;letI:AT (den Y.D k):=RT Y.toUS k
   letI:AT (den Y.D e):=RT Y.toUS e
   letI:DecidableEq (den Y.D k):=I4 Y k
   exact Apa n j y s l (b _ (.nat (τ m)) c g AH A (Le.refl _) h ⟨rfl,w⟩ a)
  grind
 grind
theorem Qz.ins{w:World}{z:Operand}{k:AV Y->Cf Y->Prop}(h:Qz g0 T f w (.mapUpdate t x y z) k g):Qz g0 T f w (.insert t x y z) k g:=λN b R K e c i d j a=>h N b R K e c i d j a
end
end
section
section
variable {Y:Sys}
variable {g0 g:B3} {AH A:Bi} {c:Cf Y} {f:Fr} {v:Value}
theorem RG.Ade{T A2:Bi}(h:RG g0 T c f g AH A){sg':List (Nat×CU Y)}(e:F3 g sg' A2){w':World}{s:CU Y}{A1:Bi}(i:Ext g.I g.w g.I w')(hs:SR (g.new w' v) g.n s A1)(d:St g.I w' (A1++(AH++(A2++T)))):RG g0 T {c with sg:=(c.nx,s)::sg',nx:=c.nx+1} f (g.new w' v) AH (A1++A2):=by have b:=Le.new (v:=v) i;refine⟨by show g.n+1=c.nx+1;rw[h.n],h.le.trans b.ext,d.perm (FU (aa _) AH).symm,h.hr.mono b,⟨A1,A2,rfl,by show c.nx<g.n+1;rw[h.n];omega,by rw[<-h.n];exact hs,e.mono b⟩,h.hs.mono b,b.pt h.pt,λj a k=>(h.fr j a k).mono b⟩
theorem Gy{w:World}{n:Nat}(a:g.n=n):AR (Y:=Y) (g.new w v) (.own n) v:=by subst a;exact⟨a4 _,(g.BA _ _).symm⟩
def nwA(c:Cf Y)(T:Ty)(b:AV Y):Option (List (den Y.D T)):=match b with
 | .own j=>match IT c.sg j with
  |some (.sl T' xs)=>match Ty.dec T' T with
   | .isTrue h=>ν (h▸xs)
   | .isFalse _=>δ
  |_=>δ
 |b=>VS (.sl T) b
variable {T0:Bi}
theorem Ape(h:RG g0 T0 c f g AH A){T:Ty}{b:AV Y}{ys:List (den Y.D T)}(a:nwA c T b=ν ys)(i:AR g b v):@Nws _ (RT Y.toUS T) g.I g.w v ys:=by
 unfold nwA at a;split at a
 .split at a
  .rename_i m n k;split at a
   .rename_i e _;subst e;cases a;obtain⟨p,o,j,l,d,_⟩:=h.DO k;rw[i.2];exact @Nws.Ayz _ (RT Y.toUS m) _ _ _ _ _ _ j d
   grind
  grind
 .exact @Nws.Ayy _ (RT Y.toUS T) _ _ _ _ (Sr (Dm a i))
def A1m(c:Cf Y)(t:TypeId)(x y:Operand)(k:AV Y->Cf Y->Prop):Prop:=match slI Y.P t,Y.ty t,E9 c x,E9 c y with
 |some (e,nb),ν (.sl T),ν a,ν b=>match nwA c T b with
  |some ys=>Fx (Yl Y.P t e (sz Y.toUS T) nb&&bk 1 nb) (match a with
   | .own i=>match IT c.sg i with
    |some (.sl T' xs)=>match Ty.dec T' T with
     | .isTrue h=>((τ xs+τ ys)*nb<=140737488355328/\k (.own c.nx) {c.EC with sg:=(c.nx,.sl T ((h▸xs:List (den Y.D T))++ys))::G4 c.sg i,nx:=c.nx+1})
     | .isFalse _=>False
    |_=>False
   | .val (.slice δ 0 0)=>(τ ys*nb<=140737488355328/\k (.own c.nx) {c.EC with sg:=(c.nx,.sl T ys)::c.sg,nx:=c.nx+1})
   |_=>False)
  |none=>False
 |_,_,_,_=>False
variable {t:TypeId} {k:AV Y->Cf Y->Prop}
theorem Avy(h:RG g0 T0 c f g AH A){x y:Operand}(d:A1m c t x y k):Qz g0 T0 f g.w (.call ⟨.builtin .append,#[x,y],#[t,t]⟩) k g:=by
 intro N J R K V L Z I af j;unfold A1m at d;split at d
 .rename_i e F T a b h1 h2 D Q;split at d
  .rename_i G u;obtain⟨q,d⟩:=AJ d;simp only[a1,aw]at q;have m:@Nws _ (RT Y.toUS T) g.I g.w (ev f y) G:=Ape h u (h.ev Q);letI:AT (den Y.D T):=RT Y.toUS T
   have E:∀n,n*F<=140737488355328->n<=9223372036854775807:=λn W=>by have:=bi n q.2;omega
   split at d
   .rename_i i;split at d
    .rename_i C xs P;split at d
     .rename_i e _;subst e;obtain⟨p,d⟩:=d;obtain⟨A1,M,H,O,S,v⟩:=h.EC.sg.take P;have z:=h.st.perm (FU H AH);refine Zv (α:=den Y.D C) q.1 z S m (h.ev D).2 rfl p (E _ p) λl w s o r B=>?_;refine j l (.own c.nx) _ (g.new s l) AH (w++M) (Le.new o) (h.EC.Ade v o ?_ r) (Gy h.n) d;show OO Y C _ _ _ _ _;rw[g.BA];exact B
     grind
    grind
   .obtain⟨p,d⟩:=d;have U:ev f x=.slice δ 0 0:=h.ev D;refine Zv (α:=den Y.D T) (A:=[]) (xs:=[]) q.1 (by simpa using h.st) Bw.nil m U rfl (by grind) (by grind) λl w s o r B=>?_;refine j l (.own c.nx) _ (g.new s l) AH (w++A) (Le.new o) (h.EC.Ade h.sg o ?_ r) (Gy h.n) d;show OO Y T _ _ _ _ _;rw[g.BA];exact B
   grind
  grind
 grind
def mkX(c:Cf Y)(t:TypeId)(x y:Operand)(k:AV Y->Cf Y->Prop):Prop:=match slI Y.P t,Y.ty t,E9 c x,E9 c y with
 |some (e,nb),ν (.sl T),ν a,ν b=>match asInt a,asInt b,zro Y.P e with
  |some (.i64,n),ν (.i64,m),ν z=>match UX (Y:=Y) T z with
   |some zd=>Fx (Yl Y.P t e (sz Y.toUS T) nb&&bk 1 nb) (Lq x a (Lq y b (match x with
    | .const (.int .i64 0)=>0<=m/\nb*m.toNat<=281474976710656/\k (.own c.nx) {c with sg:=(c.nx,.sl T [])::c.sg,nx:=c.nx+1}
    |_=>0<=n/\m=n/\n.toNat*nb<=281474976710656/\k (.own c.nx) {c with sg:=(c.nx,.sl T (ax n.toNat zd))::c.sg,nx:=c.nx+1})))
   |none=>False
  |_,_,_=>False
 |_,_,_,_=>False
theorem Azl(h:RG g0 T0 c f g AH A){x y:Operand}(d:mkX c t x y k):Qz g0 T0 f g.w (.makeSlice t x y) k g:=by
 intro N Q R K W L ty P X i;unfold mkX at d;split at d
 .rename_i e nb T a b V Z H G;split at d
  .rename_i n m z O M J;split at d
   .rename_i zd r;obtain⟨o,d⟩:=AJ d;simp only[a1,aw]at o;have d:=Fi (h.ev G) (Fi (h.ev H) d);letI:AT (den Y.D T):=RT Y.toUS T
    have S:=Ge O (h.ev H);have F:=Ge M (h.ev G);split at d
    .obtain⟨q,u,d⟩:=d;have j:m.toNat<=9223372036854775807:=by have:=a8 m.toNat o.2;omega
     refine Atx (α:=den Y.D T) (n:=m.toNat) o.1 h.st rfl F (aj q).symm j u λv D s l B E=>?_;refine i v (.own c.nx) _ (g.new s v) AH (D++A) (Le.new l) (h.Ade h.sg l ?_ B) (Gy h.n) d;show OO Y T _ _ _ _ _;rw[g.BA];exact E
    .obtain⟨p,C,u,d⟩:=d;have j:n.toNat<=9223372036854775807:=by have:=bi n.toNat o.2;omega
     refine Atw (α:=den Y.D T) (n:=n.toNat) (zd:=zd) o.1 h.st S F (aj p).symm (C.trans (aj p).symm) J (λI w=>QX r) u j λv D s l B E=>?_;refine i v (.own c.nx) _ (g.new s v) AH (D++A) (Le.new l) (h.Ade h.sg l ?_ B) (Gy h.n) d;show OO Y T _ _ _ _ _;rw[g.BA];exact E
   grind
  grind
 grind
def Au2(c:Cf Y)(T:Ty):Nat->List (Nat×Operand)->Option (List (den Y.D T))
 |_,[]=>ν []
 |n,(i,x)::l=>match an i n,(E9 c x).bind (VS T),Au2 c T (n+1) l with
  |true,ν d,ν m=>ν (d::m)
  |_,_,_=>δ
theorem Ajt{g0 g:B3}{T0 AH A:Bi}{c:Cf Y}{f:Fr}(h:RG g0 T0 c f g AH A){T:Ty}:∀{l:List (Nat×Operand)}{n:Nat}{m:List (den Y.D T)},Au2 c T n l=ν m->∃vs,(l.map λp=>(p.1,ev f p.2))=enum n vs/\@Afj _ (RT Y.toUS T) g.I g.w vs m
 | [],n,m,b=>by cases b;exact⟨[],rfl,trivial⟩
 |(i,x)::l,n,m,b=>by
  unfold Au2 at b;split at b
  .rename_i d s q e k;cases b;obtain⟨vs,o,r⟩:=Ajt h k;obtain rfl:i=n:=by simp_all
   cases j:E9 c x with
   |none=>grind
   |some a=>
    rw[j]at e;exact⟨ev f x::vs,by rw[b3,o];rfl,Dm e (h.ev j),r⟩
  grind
def A1c(c:Cf Y)(t:TypeId)(n:Nat)(ps:Array (Nat×Operand))(k:AV Y->Cf Y->Prop):Prop:=match slI Y.P t,Y.ty t with
 |some (e,nb),ν (.sl T)=>match Au2 c T 0 ps.toList with
  |some xs=>Fx (Yl Y.P t e (sz Y.toUS T) nb&&bk (τ ps.toList*sz Y.toUS T) 16777216&&an (τ ps.toList) n) (k (.own c.nx) {c with sg:=(c.nx,.sl T xs)::c.sg,nx:=c.nx+1})
  |none=>False
 |_,_=>False
theorem Avr(h:RG g0 T0 c f g AH A){n:Nat}{ps:Array (Nat×Operand)}(a:A1c c t n ps k):Qz g0 T0 f g.w (.buildSlice t n ps) k g:=by
 intro N x R K F C D z G d;unfold A1c at a;split at a
 .rename_i e J T E I;split at a
  .rename_i H l;obtain⟨j,a⟩:=AJ a;simp only[a1,aw,bj]at j;obtain⟨b,p,o⟩:=Ajt h l;letI:AT (den Y.D T):=RT Y.toUS T
   have m:=(Afj.get (α:=den Y.D T) o).1;have i:τ ps.toList=τ b:=by
    have:=congrArg τ p;have r:∀(b:List Value)n,τ (enum n b)=τ b:=by
     intro b;induction b with
     |nil=>intro n;rfl
     |cons v b s=>grind[enum]
    grind
   refine Apd (α:=den Y.D T) j.1.1 h.st p o (by rw[aw,<-m,<-i];exact j.1.2) (by omega) λv u y q w B=>?_;refine d v (.own c.nx) _ (g.new y v) AH (u++A) (Le.new q) (h.Ade h.sg q ?_ w) (Gy h.n) a;show OO Y T _ _ _ _ _;rw[g.BA];exact B
  grind
 grind
end
end
section
section
variable {Y:Sys}
def Sf(f:Fr)(o:Option Operand)(n d:Nat):Prop:=match o with
 |none=>n=d
 |some y=>∃kd,ev f y=.int kd (n:Int)
variable {P:Program} {w:World}
theorem GL{kd:IntKind}{n y:Nat}{code:BoundsCode}(h:n<=y):(Instr.sliceBound (.int kd (n:Int)) y code).run P w=.ok n w:=by simp_all[Instr.sliceBound,asIntOf]
variable {f:Fr}
theorem VA{b:Bool}{len cap lo hi mx:Nat}{low high max:Option Operand}(h1:Sf f low lo 0)(h2:Sf f high hi len)(h3:Sf f max mx cap)(h4:lo<=hi)(h5:hi<=mx)(h6:mx<=cap)(h7:high=δ->max=δ):(Instr.sliceBounds b len cap (low.map (ev f)) (high.map (ev f)) (max.map (ev f))).run P w=.ok (lo,hi,mx) w:=by
 cases max with
 |none=>
  have hm:mx=cap:=h3;subst hm;cases high with
  |none=>
   have hh:hi=len:=h2;subst hh;cases low with
   |none=>have hl:lo=0:=h1;subst hl;rfl
   |some y=>obtain⟨kd,hy⟩:=h1;simp_all[Instr.sliceBounds,GL]
  |some z=>
   obtain⟨kz,hz⟩:=h2;cases low with
   |none=>have hl:lo=0:=h1;simp_all[Instr.sliceBounds,GL]
   |some y=>obtain⟨kd,hy⟩:=h1;simp_all[Instr.sliceBounds,GL]
 |some u=>
  obtain⟨ku,hu⟩:=h3;cases high with
  |none=>grind
  |some z=>
   obtain⟨kz,hz⟩:=h2;cases low with
   |none=>have hl:lo=0:=h1;simp_all[Instr.sliceBounds,GL]
   |some y=>obtain⟨kd,hy⟩:=h1;simp_all[Instr.sliceBounds,GL]
variable {x:Operand} {t:TypeId}
theorem Q4{e ty:TypeId}{sz nb:Nat}{a:Option Addr}{len cap lo hi mx:Nat}{low high max:Option Operand}(i:Yl P t e sz nb=φ)(m:ev f x=.slice a len cap)(k:Sf f low lo 0)(n:Sf f high hi len)(o:Sf f max mx cap)(j:lo<=hi)(g:hi<=mx)(h:mx<=cap)(q:high=δ->max=δ):LQ P f (.slice t x low high max) ty (.slice (if mx=lo then a else a.map (·.add (lo*sz))) (hi-lo) (mx-lo)) w:=λp l s r=>by
 have c:=EZ i;have:=VA (P:=P) (w:=w) (b:=φ) k n o j g h q;have d:(Instr.slice t (.slice a len cap) (low.map (ev f)) (high.map (ev f)) (max.map (ev f))).run P w=.ok (.slice (if mx=lo then a else a.map (·.add (lo*sz))) (hi-lo) (mx-lo)) w:=by simp only[Instr.slice,Sem.run_bind,run_underlying c.under,Result.andThen_ok,this,c.size,Sem.run_pure]
 simp only[execOp,Instr.sliceAt,m,Sem.run_bind,run_underlying c.under,Result.andThen_ok,d,Sem.run_pure]
def At6(mx:Option Operand)(a b:Nat):Nat:=match mx with
 |none=>a
 |some _=>b
def Ae7(c:Cf Y)(o:Option Operand)(d:Nat)(k:Nat->Prop):Prop:=match o with
 |none=>k d
 |some y=>match E9 c y with
  |some (.nat j)=>k j
  |some a=>match asInt a with
   |some (_,n)=>Lq y a (0<=n/\k n.toNat)
   |none=>False
  |none=>False
variable {g0 g:B3} {AH A:Bi} {c:Cf Y}
theorem QZ{T:Bi}(h:RG g0 T c f g AH A){o:Option Operand}{d:Nat}{k:Nat->Prop}(b:Ae7 c o d k):∃n,Sf f o n d/\k n:=by
 unfold Ae7 at b;split at b
 .exact⟨d,rfl,b⟩
 .split at b
  .rename_i y j e;exact⟨j,⟨_,(h.ev e).1⟩,b⟩
  .rename_i y _ a _ e;split at b
   .rename_i i n l;obtain⟨m,b⟩:=Fi (h.ev e) b;exact⟨n.toNat,⟨i,by rw[Ge l (h.ev e),aj m]⟩,b⟩
   grind
  grind
def glo(x:Operand)(lo hi mx:Option Operand):Option Nat:=match x,lo,hi,mx with
 | .global g,δ,δ,δ=>ν g
 |_,_,_,_=>δ
variable {lo hi mx:Option Operand}
theorem A0i{g:Nat}(h:glo x lo hi mx=ν g):x=.global g/\lo=δ/\hi=δ/\mx=δ:=by unfold glo at h;grind
def arG(P:Program)(t:TypeId)(n:Nat):Bool:=match P.underlying t with
 |some (.array m e)=>an m n&&(P.info? e).isSome
 |_=>ψ
theorem Ast{ty:TypeId}{g n:Nat}(h:arG P t n=φ):LQ P f (.slice t (.global g) δ δ δ) ty (.slice (ν ⟨g,0,δ⟩) n n) w:=λdst pos af gd=>by
 unfold arG at h;split at h
 .rename_i m e hu;rw[a1]at h;obtain rfl:=a7 h.1;obtain⟨i,hi⟩:=Option.isSome_iff_exists.1 h.2;simp [execOp,Instr.sliceAt,run_underlying hu,ev,Instr.sureAddr,Instr.sliceBounds,sizeOf,typeInfo,hi,Addr.add]
 grind
def glX(c:Cf Y)(t:TypeId)(g:Nat)(k:AV Y->Cf Y->Prop):Prop:=match Y.gls g with
 |some q=>Fx (arG Y.P t (τ q.2)) (k (.dat (.sl q.1) q.2) c)
 |none=>False
variable {T0:Bi} {k:AV Y->Cf Y->Prop}
theorem A0k(h:RG g0 T0 c f g AH A){v:Nat}(a:glX c t v k):Qz g0 T0 f g.w (.slice t (.global v) δ δ δ) k g:=by
 intro N l R K r j s i o b;unfold glX at a;split at a
 .rename_i q n;obtain⟨m,a⟩:=AJ a;have p:(Ra Y).gl g.I g.w:=by
   have d:=h.hr;unfold HR at d;split at d
   .obtain⟨L,_,e⟩:=d.ex;exact e.gl
   .obtain⟨L,_,e⟩:=d.1.ex;exact e.gl
  exact Ao (Ast m j i o δ) (b _ (.dat (.sl q.1) q.2) c g AH A (Le.refl _) h (p v q n) a)
 grind
def Ax7(c:Cf Y)(t:TypeId)(x:Operand)(lo hi mx:Option Operand)(k:AV Y->Cf Y->Prop):Prop:=match slI Y.P t,E9 c x with
 |some (e,nb),ν (.dat (.sl T) xs)=>Fx (Yl Y.P t e (sz Y.toUS T) nb&&(hi.isSome ||mx.isNone)) (Ae7 c lo 0 λl=>Ae7 c hi (τ xs) λh=>match mx with
  |none=>l<=h/\h<=τ xs/\k (.dat (.sl T) ((xs.drop l).take (h-l))) c
  |some _=>Ae7 c mx 0 λm=>l<=h/\h<=m/\m<=τ xs/\k (.dat (.sl T) ((xs.drop l).take (h-l))) c)
 |some (e,nb),ν (.own i)=>match IT c.sg i with
  |some (.sl T xs)=>Fx (Yl Y.P t e (sz Y.toUS T) nb&&(hi.isSome ||mx.isNone)) (match lo,hi with
   |none,ν _=>Ae7 c hi 0 λh=>match mx with
    |none=>h<=τ xs/\k (.own c.nx) {c.EC with sg:=(c.nx,.sl T (xs.take h))::G4 c.sg i,nx:=c.nx+1}
    |some _=>Ae7 c mx 0 λm=>h<=m/\m<=τ xs/\k (.own c.nx) {c.EC with sg:=(c.nx,.sl T (xs.take h))::G4 c.sg i,nx:=c.nx+1}
   |some _,δ=>Ae7 c lo 0 λl=>l<=τ xs/\k (.sub i T l) c
   |none,δ=>k (.own i) c
   |_,_=>False)
  |_=>False
 |_,_=>False
theorem O5{T:Ty}{I:Cb}{v:Value}{xs:List (den Y.D T)}(l:OO Y T I w A v xs){h m:Nat}(y:h<=τ xs)(t:h<=m):∃a cap,v=.slice a (τ xs) cap/\τ xs<=cap/\(m<=cap->OO Y T I w A (.slice (if m=0 then a else a.map (·.add (0*sz Y.toUS T))) (h-0) (m-0)) (xs.take h)):=by
 letI:AT (den Y.D T):=RT Y.toUS T
 have c:∀(a:Option Addr),a.map (λx:Addr=>x.add (0*sz Y.toUS T))=a:=λa=>by cases a<;>simp [Addr.add]
 rcases Bw.ex (α:=den Y.D T) l with ⟨rfl,rfl,rfl⟩|⟨b,d,cap,i,e,rfl,rfl,o,z,s,n⟩
 .grind
 .refine⟨_,cap,rfl,o,λg=>⟨.inr ⟨b,d,m,i,e,rfl,?_,?_,by omega,?_,?_⟩⟩⟩
  .have k:τ (xs.take h)=h:=by grind
   rw[k,c];split<;>simp
  .grind
  .exact b8 (av (a8 _ g) _) s
  .intro j p;have f:j<τ xs:=by grind
   obtain⟨u,r,q⟩:=n j f;exact⟨u,by simp_all,q⟩
theorem As8(h:RG g0 T0 c f g AH A)(d:Ax7 c t x lo hi mx k):Qz g0 T0 f g.w (.slice t x lo hi mx) k g:=by
 intro N M R K os q ty n F j;unfold Ax7 at d;split at d
 .rename_i e nb T p h1 X;replace d:=AJ d;obtain⟨w,d⟩:=d;simp only[a1,ba,az,ah]at w;have D:hi=δ->mx=δ:=λh=>w.2.elim (λQ=>qG h Q) id;letI:AT (den Y.D T):=RT Y.toUS T
  obtain⟨a,b,I,hl1,hl2,H⟩:=Adf (Sr (h.ev X));obtain⟨l,V,d⟩:=QZ h d;obtain⟨r,C,d⟩:=QZ h d;have u:∀m,Sf f mx m b->l<=r->r<=m->r<=τ p->m<=b->k (.dat (.sl T) ((p.drop l).take (r-l))) c->WL Y.P N M R ψ K (⟨q,.slice t x lo hi mx,ty,n,F,δ⟩::os) f g.w:=λm L o z B h6 d=>by refine Ao (Q4 w.1 I V C L o z h6 D q n F δ) ?_;exact j _ (.dat (.sl T) ((p.drop l).take (r-l))) c g AH A (Le.refl _) h (Sa (H l r m o B z h6)) d
  split at d
  .obtain⟨o,z,d⟩:=d;exact u b rfl o (by omega) z (a3 _) d
  .obtain⟨m,L,o,z,B,d⟩:=QZ h d;exact u m (by exact L) o z (by omega) (by omega) d
 .rename_i e nb i h1 X;split at d
  .rename_i T p S;replace d:=AJ d;obtain⟨w,d⟩:=d;simp only[a1,ba,az,ah]at w;have D:hi=δ->mx=δ:=λh=>w.2.elim (λQ=>qG h Q) id;have I:=(h.ev X).2;split at d
   .rename_i _ _;obtain⟨r,C,d⟩:=QZ h d;obtain⟨Z,W,H,y,G,E⟩:=h.EC.sg.take S;have hst:=h.st.perm (FU H AH);have u:∀m,r<=m->r<=τ p->(∀b,τ p<=b->Sf f mx (At6 mx b m) b/\At6 mx b m<=b/\r<=At6 mx b m)->k (.own c.nx) {c.EC with sg:=(c.nx,.sl T (p.take r))::G4 c.sg i,nx:=c.nx+1}->WL Y.P N M R ψ K (⟨q,.slice t x δ (ν _) mx,ty,n,F,δ⟩::os) f g.w:=λm o z B d=>by obtain⟨a,b,v,J,_⟩:=O5 (h:=0) (m:=0) G (b0 _) (a3 _);obtain⟨h8,s,O⟩:=B b J;obtain⟨a',cap',P,e2',U⟩:=O5 (m:=At6 mx b m) G z O;rw[v]at P;cases P;refine Ao (Q4 w.1 (I.trans v) (show Sf f δ 0 0 from rfl) C h8 (b0 _) O s D q n F δ) ?_;refine j _ (.own c.nx) _ (g.new g.w _) AH (Z++W) (Le.new (Ext.refl _ _)) (h.EC.Ade E (Ext.refl _ _) ?_ hst) (Gy h.n) d;show OO Y T _ _ _ _ _;rw[g.BA];exact U s
    split at d
    .exact u r (a3 _) d.1 (λb B=>⟨rfl,a3 _,b8 d.1 B⟩) d.2
    .obtain⟨m,L,o,z,d⟩:=QZ h d;exact u m o (by omega) (λb B=>⟨L,by show m<=b;omega,o⟩) d
   .obtain⟨l,V,o,d⟩:=QZ h d;obtain⟨Z,W,H,y,G,E⟩:=h.sg.take S;obtain⟨a,b,v,J,_⟩:=O5 (h:=0) (m:=0) G (b0 _) (a3 _);obtain rfl:mx=δ:=D rfl;refine Ao (Q4 (lo:=l) (hi:=τ p) (mx:=b) w.1 (I.trans v) V (show Sf f δ (τ p) (τ p) from rfl) (show Sf f δ b b from rfl) o J (a3 _) D q n F δ) ?_;exact j _ (.sub i T l) c g AH A (Le.refl _) h ⟨y,by rw[v];rfl,a,_,b,v,o⟩ d
   .obtain rfl:mx=δ:=D rfl;obtain⟨Z,W,H,y,G,E⟩:=h.sg.take S;obtain⟨a,b,v,J,_⟩:=O5 (h:=0) (m:=0) G (b0 _) (a3 _);refine Ao (Q4 (lo:=0) (hi:=τ p) (mx:=b) w.1 (I.trans v) (show Sf f δ 0 0 from rfl) (show Sf f δ (τ p) (τ p) from rfl) (show Sf f δ b b from rfl) (b0 _) J (a3 _) D q n F δ) ?_;refine j _ (.own i) c g AH A (Le.refl _) h ⟨y,?_⟩ d;rw[v];cases a<;>simp [Addr.add]
   grind
  grind
 grind
def slX(c:Cf Y)(t:TypeId)(x:Operand)(lo hi mx:Option Operand)(k:AV Y->Cf Y->Prop):Prop:=match glo x lo hi mx with
 |some g=>glX c t g k
 |none=>Ax7 c t x lo hi mx k
theorem Ax6(h:RG g0 T0 c f g AH A)(a:slX c t x lo hi mx k):Qz g0 T0 f g.w (.slice t x lo hi mx) k g:=by
 unfold slX at a;split at a
 .rename_i v b;obtain⟨rfl,rfl,rfl,rfl⟩:=A0i b;grind[A0k]
 grind[As8]
def evL(c:Cf Y):List Operand->Option (List (AV Y))
 | []=>ν []
 |x::l=>match E9 c x,evL c l with
  |some a,ν m=>ν (a::m)
  |_,_=>δ
theorem PY{g0 g:B3}{T AH A:Bi}{c:Cf Y}{f:Fr}(h:RG g0 T c f g AH A):∀{l:List Operand}{m:List (AV Y)},evL c l=ν m->F2 (AR g) m (l.map (ev f))
 | [],m,b=>by cases b;exact .nil
 |x::l,m,b=>by
  unfold evL at b;split at b
  .rename_i a i e d;cases b;exact .cons (h.ev e) (PY h d)
  grind
def mfX(c:Cf Y)(q:Fn)(fs cs:Array Operand)(k:AV Y->Cf Y->Prop):Prop:=match q,evL c fs.toList,evL c cs.toList with
 | .func g,ν l,ν m=>k (.own c.nx) {c with sg:=(c.nx,.clo g l m)::c.sg,nx:=c.nx+1}
 |_,_,_=>False
theorem Azp(h:RG g0 T0 c f g AH A){q:Fn}{fs cs:Array Operand}(d:mfX c q fs cs k):Qz g0 T0 f g.w (.makeFunc q fs cs) k g:=by
 intro N j R K p i s n t b;unfold mfX at d;split at d
 .rename_i q l m o e;refine WZ rfl rfl ?_;have a:=Le.new (g:=g) (v:=.func (.func q) ⟨fs.toList.map (ev f)⟩ ⟨cs.toList.map (ev f)⟩) (Ext.refl g.I g.w);refine b _ (.own c.nx) _ (g.new g.w _) AH ([]++A) a (h.Ade (A1:=[]) h.sg (Ext.refl _ _) ?_ h.st) (Gy h.n) d;exact⟨rfl,_,_,g.BA _ _,(PY h o).mono λ_ _ r=>r.mono a,(PY h e).mono λ_ _ r=>r.mono a⟩
 grind
end
end
end Go.Y
namespace Go.X
open Go Go.RowKit
section
section
variable {α:Type} [AT α] {P:Program} {I:Cb} {w:World} {T A:Bi} {t u e:TypeId} {nb:Nat}
theorem Aq5{v yv:Value}{xs ys:List α}{lo:Nat}{ty:TypeId}(N:Bw I w A v xs)(hs:St I w (A++T))(Y:Nws I w yv ys)(hlo:lo<=τ xs)(ht:Yl P t e (AT.size α) nb=φ):∃A' w',(Builtin.copy_ #[t,u] ty #[Yv v lo (AT.size α),yv]).run P w=.ok (goInt ((min (τ ys) (τ xs-lo):Nat):Int)) w'/\Ext I w I w'/\St I w' (A'++T)/\Bw I w' A' v (xs.take lo++(ys.take (min (τ ys) (τ xs-lo))++xs.drop (lo+min (τ ys) (τ xs-lo)))):=by
 have i:=EZ ht;obtain⟨U,V,x⟩:=Y.sh;have m:∀a b:Nat,Nat.min a b=min a b:=λ_ _=>rfl;generalize B:min (τ ys) (τ xs-lo)=n;have s:min (τ ys:Int) ((τ xs:Int)-(lo:Int))=(n:Int):=by omega
 by_cases M:n=0
 .have D:∀(a:Option Addr)(l c:Nat),(Builtin.firstCells (AT.size α) 0 (.slice a l c)).run P w=.ok #[] w:=λa l c=>by cases a<;>simp [Builtin.firstCells,loadCells,loadCellsFrom]
  have Q:xs.take lo++(ys.take n++xs.drop (lo+n))=xs:=by rw[M];simp
  refine⟨A,w,?_,Ext.refl _ _,hs,Bw.cast Q.symm N⟩;obtain⟨a,q,hv,_⟩:=N.len;rw[hv,x];by_cases z:q=lo
  .cases a<;>simp [Builtin.copy_,run_underlying i.under,Builtin.lenOf,Yv,m,B,M,i.size,D,z,storeCells]
  .cases a<;>simp [Builtin.copy_,run_underlying i.under,Builtin.lenOf,Yv,m,B,M,i.size,D,z,storeCells]
 have E:ys≠[]:=λe=>by subst e;simp at B;omega
 obtain⟨U,V,x,f,n1,n2,n3,n4⟩:=Y.ne E;rcases N.ex with ⟨_,rfl,_⟩|⟨b,d,q,R,g,rfl,rfl,X,h4,h5,Z⟩
 .simp at B;omega
 have S:n<=τ ys:=by omega
 have L:lo+n<=τ xs:=by omega
 have z:¬q=lo:=by omega
 have hb:=(hs.own (b,.cells d R (0,0)) (by simp)).1;have W:g+τ xs*AT.size α<=d.size:=b8 (av (a8 _ X) _) h5;have hfn:lo*AT.size α+n*AT.size α<=τ xs*AT.size α:=by rw[<-Nat.add_mul];exact a8 _ L
 have p:τ (f.take (n*AT.size α))=n*AT.size α:=by rw[b6,n1];exact Nat.min_eq_left (a8 _ S)
 have hf:=run_firstCells_some (P:=P) w (AT.size α) n U (τ ys) V (f.take (n*AT.size α)) p (λj u C=>by
  have hj:j<n*AT.size α:=by have:=(List.getElem?_eq_some_iff.1 C).1;omega
  rw[am hj]at C;exact n2 j u C)
 have r:=run_storeCells_at P b (g+lo*AT.size α) R (f.take (n*AT.size α)) 0 d w hb (by rw[p];omega) (λu C=>n3 u (List.mem_of_mem_take C));simp only[ao]at r;generalize H:(bg (g+lo*AT.size α) d.toList++f.take (n*AT.size α)++bp (g+lo*AT.size α+τ (f.take (n*AT.size α))) d.toList).toArray=O at r;obtain⟨K,s1⟩:=hs.write (w':=w.setRow b O) rfl rfl rfl (by simp [World.setRow]) (setRow_heap w b d _ R _ hb) (λc z=>setRow_other w b c _ z);have o:τ (xs.take lo++(ys.take n++xs.drop (lo+n)))=τ xs:=by simp;omega
 refine⟨_,_,?_,K,s1,⟨.inr ⟨b,_,q,_,g,rfl,by rw[o],by rw[o];exact X,h4,?_,?_⟩⟩⟩
 .rw[x];simp [Builtin.copy_,run_underlying i.under,Builtin.lenOf,Yv,m,B,i.size,z,DZ,hf,r]
 all_goals subst H
 .simp only[List.size_toArray,List.length_append,p,b6,List.length_drop,bh];omega
 .have J:τ (bg (g+lo*AT.size α) d.toList)=g+lo*AT.size α:=by rw[b6,show τ d.toList=d.size from rfl];omega
  have G:τ (xs.take lo)=lo:=by simp;omega
  have F:τ (ys.take n)=n:=by simp;omega
  refine DB.append ((Z.take lo).mono K) (g2:=λk=>if k<n*AT.size α then f[k]? else d[g+(lo*AT.size α+k)]?) (DB.append ((n4.take n).mono K) (g2:=λk=>d[g+((lo+n)*AT.size α+k)]?) ((Z.drop (lo+n)).mono K) ?_ ?_) ?_ ?_
  .intro k y;rw[F]at y;simp only[y,if_true]
  .intro k y;rw[F];simp only[show ¬n*AT.size α+k<n*AT.size α by omega,if_false];rw[Nat.add_mul,ar]
  .intro k y;rw[G]at y;simp only[aq,a2];rw[ai (by omega),am (by omega),a9]
  .intro k y;rw[G];simp only[aq,a2];rw[<-ar,ad (by omega),J,b7];by_cases h:k<n*AT.size α
   .rw[ai (by omega),am h,UV h]
   .rw[ad (by omega),GT h,p,List.getElem?_drop,a9];congr 1;omega
end
end
end Go.X
namespace Go.Y
open Go Go.RowKit Go.X
section
section
variable {Y:Sys}
def cpS(c:Cf Y)(t e:TypeId)(nb i lo:Nat)(T:Ty)(xs:List (den Y.D T))(b:AV Y)(k:AV Y->Cf Y->Prop):Prop:=match nwA c T b with
 |some ys=>Fx (Yl Y.P t e (sz Y.toUS T) nb) (lo<=τ xs/\k (.nat (min (τ ys) (τ xs-lo))) {c.EC with sg:=(i,.sl T (xs.take lo++(ys.take (min (τ ys) (τ xs-lo))++xs.drop (lo+min (τ ys) (τ xs-lo)))))::G4 c.sg i})
 |none=>False
def cpX(c:Cf Y)(t:TypeId)(x y:Operand)(k:AV Y->Cf Y->Prop):Prop:=match slI Y.P t,E9 c x,E9 c y with
 |some (e,nb),ν (.own i),ν b=>match IT c.sg i with
  |some (.sl T xs)=>cpS c t e nb i 0 T xs b k
  |_=>False
 |some (e,nb),ν (.sub i T' lo),ν b=>match IT c.sg i with
  |some (.sl T xs)=>match Ty.dec T' T with
   | .isTrue _=>cpS c t e nb i lo T xs b k
   | .isFalse _=>False
  |_=>False
 |_,_,_=>False
variable {g0 g:B3} {T0 AH A:Bi} {c:Cf Y} {f:Fr} {t:TypeId} {x:Operand} {k:AV Y->Cf Y->Prop}
theorem Aq4(h:RG g0 T0 c f g AH A){u e:TypeId}{nb i lo:Nat}{T:Ty}{xs:List (den Y.D T)}{b:AV Y}{y:Operand}(hs:IT c.sg i=ν (.sl T xs))(a:cpS c t e nb i lo T xs b k)(Q:ev f x=Yv (g.μ i) lo (sz Y.toUS T))(E:AR g b (ev f y)):Qz g0 T0 f g.w (.call ⟨.builtin .copy,#[x,y],#[t,u]⟩) k g:=by
 intro N S R K X I ty D W j;unfold cpS at a;split at a
 .rename_i z q;obtain⟨M,r,a⟩:=AJ a;letI:AT (den Y.D T):=RT Y.toUS T
  have p:@Nws _ (RT Y.toUS T) g.I g.w (ev f y) z:=Ape h q E;obtain⟨O,J,V,L,o,m⟩:=h.EC.DO (s:=.sl T xs) hs;have d:OO Y T g.I g.w O (g.μ i) xs:=V;have G:=@Bw.bd _ (RT Y.toUS T) _ _ _ _ _ d;obtain⟨B,n,H,U,P,F⟩:=Aq5 (α:=den Y.D T) (u:=u) (ty:=ty) d o p r M;have l:Le g {g with w:=n}:=⟨U,a3 _,λ_ _=>rfl,rfl⟩
  have:=j _ (.nat (min (τ z) (τ xs-lo))) _ {g with w:=n} AH (B++J) l (m (.sl T _) B {g with w:=n} l rfl F P) ⟨rfl,by omega⟩ a;have v:(Builtin.copy_ #[t,u] ty #[ev f x,ev f y]).run Y.P g.w=.ok (goInt ((min (τ z) (τ xs-lo):Nat):Int)) n:=by rw[Q];exact H
  refine Ao ?_ this;simp_all[execOp,resolve,invoke,builtin,goInt]
 grind
theorem A0z(h:RG g0 T0 c f g AH A){u:TypeId}{y:Operand}(d:cpX c t x y k):Qz g0 T0 f g.w (.call ⟨.builtin .copy,#[x,y],#[t,u]⟩) k g:=by
 unfold cpX at d;split at d
 .rename_i e q i b n m l;split at d
  .rename_i T o j;refine Aq4 h j d ?_ (h.ev l);obtain⟨z,w,_,_,r,_⟩:=h.sg.take j;obtain⟨a,p,s,_⟩:=@Bw.len _ (RT Y.toUS T) _ _ _ _ _ r;rw[(h.ev m).2,s];cases a<;>simp [Yv,Addr.add]
  grind
 .rename_i e q i B v b n m l;split at d
  .rename_i T o j;split at d
   .rename_i e _;subst e;exact Aq4 h j d (h.ev m).2.1 (h.ev l)
   grind
  grind
 grind
theorem Ami{α:Type}[AT α]{P:Program}{I:Cb}{w:World}{T:Bi}{e:TypeId}{nb:Nat}{v:Value}{xs:List α}{ty:TypeId}{z:Value}{zd:α}(ho:Bw I w A v xs)(hs:St I w (A++T))(ht:Yl P t e (AT.size α) nb=φ)(hzv:zrB P e z)(hzr:rep I w z zd):∃A' w',(Builtin.clear_ #[t] ty #[v]).run P w=.ok (.tuple #[]) w'/\Ext I w I w'/\St I w' (A'++T)/\Bw I w' A' v (ax (τ xs) zd):=by
 obtain⟨i,z',hi,hsz,hbt,hz,hzs⟩:=(EZ ht).info;have hu:=(EZ ht).under;obtain rfl:z'=z:=by unfold zrB at hzv;grind
 rcases ho.ex with ⟨rfl,rfl,rfl⟩|⟨b,arr,cap,e0,off,rfl,rfl,h3,h4,h5,h6⟩
 .exact⟨[],w,by simp [Builtin.clear_,run_underlying hu],Ext.refl _ _,hs,Bw.nil⟩
 by_cases hn:τ xs=0
 .refine⟨_,w,?_,Ext.refl _ _,hs,?_⟩
  .simp_all[Builtin.clear_,run_underlying]
  grind
 have hb:=(hs.own (b,.cells arr e0 (0,0)) (by simp)).1;have hfit:off+τ xs*AT.size α<=arr.size:=b8 (av (a8 _ h3) _) h5;have hzc:z'.cells.size=AT.size α:=AT.cells hzr;generalize hnews:(Builtin.zeroCells z'.cells (τ xs)).toList=news;have hnews':news=((Array.range (τ xs*AT.size α)).map λk=>z'.cells[k%z'.cells.size]!).toList:=by rw[<-hnews];unfold Builtin.zeroCells;rw[hzc]
 have hnl:τ news=τ xs*AT.size α:=by grind
 have hone:∀u∈news,u.oneCell'=φ:=λu hu=>by rw[hnews']at hu;simp only[Array.mem_toList_iff,Array.mem_map,Array.mem_range]at hu;obtain⟨k,hk,rfl⟩:=hu;have hlt:k%z'.cells.size<z'.cells.size:=Nat.mod_lt _ (by rw[hzc];exact AT.pos);rw[getElem!_pos z'.cells _ hlt];exact AT.one hzr _ (by simp)
 have hst:=run_storeCells_at P b off e0 news 0 arr w hb (by omega) hone;simp only[ao]at hst;generalize hrow:(bg off arr.toList++news++bp (off+τ news) arr.toList).toArray=row at hst;obtain⟨e1,s1⟩:=hs.write (w':=w.setRow b row) rfl rfl rfl (by simp) (setRow_heap w b arr _ e0 _ hb) (λc hc=>setRow_other w b c _ hc);refine⟨_,_,?_,e1,s1,⟨.inr ⟨b,_,cap,_,off,rfl,by simp,by grind,h4,?_,?_⟩⟩⟩
 .simp_all[Builtin.clear_,run_underlying,zeroValue,typeInfo]
 all_goals subst hrow
 .grind
 .have hlen:τ (bg off arr.toList)=off:=by grind
  refine DB.congr ((RM (n:=τ xs) hzr).mono e1) λk hk=>?_;rw[bf]at hk;simp only[aq,a2];rw[ad (by omega),hlen,b7,ai (by omega),hnews',a9]
def A05(c:Cf Y)(t:TypeId)(x:Operand)(k:AV Y->Cf Y->Prop):Prop:=match slI Y.P t,E9 c x with
 |some (e,nb),ν (.own i)=>match IT c.sg i,zro Y.P e with
  |some (.sl T xs),ν z=>match UX (Y:=Y) T z with
   |some zd=>Fx (Yl Y.P t e (sz Y.toUS T) nb) (k (.val (.tuple #[])) {c.EC with sg:=(i,.sl T (ax (τ xs) zd))::G4 c.sg i})
   |none=>False
  |_,_=>False
 |some (_,_),ν (.val (.slice δ 0 0))=>Fx (GG Y.P t dSl) (k (.val (.tuple #[])) c)
 |_,_=>False
theorem Avj(h:RG g0 T0 c f g AH A)(a:A05 c t x k):Qz g0 T0 f g.w (.call ⟨.builtin .clear,#[x],#[t]⟩) k g:=by
 intro N D R K V U ty H W b;unfold A05 at a;split at a
 .rename_i e S i r u;split at a
  .rename_i T C z J E;split at a
   .rename_i zd p;obtain⟨d,a⟩:=AJ a;letI:AT (den Y.D T):=RT Y.toUS T
    obtain⟨L,F,O,G,v,j⟩:=h.EC.DO (s:=.sl T C) J;have q:OO Y T g.I g.w L (g.μ i) C:=O;obtain⟨y,m,r,n,P,I⟩:=Ami (α:=den Y.D T) (ty:=ty) (zd:=zd) q v d E (QX p);have l:Le g {g with w:=m}:=⟨n,a3 _,λ_ _=>rfl,rfl⟩
    have:=b _ (.val (.tuple #[])) _ {g with w:=m} AH (y++F) l (j (.sl T _) y {g with w:=m} l rfl I P) rfl a;have o:(Builtin.clear_ #[t] ty #[ev f x]).run Y.P g.w=.ok (.tuple #[]) m:=by rw[(h.ev u).2];exact r
    refine Ao ?_ this;simp_all[execOp,resolve,invoke,builtin]
   grind
  grind
 .rename_i e S r u;obtain⟨d,a⟩:=AJ a;obtain⟨X,d⟩:=MM d;have M:ev f x=.slice δ 0 0:=h.ev u;refine Ao ?_ (b _ (.val (.tuple #[])) c g AH A (Le.refl _) h rfl a);simp [execOp,resolve,invoke,builtin,Builtin.clear_,M,run_underlying d]
 grind
end
end
section
section
variable {Y:Sys}
def RP:(a b:List Ty)->Decidable (a=b)
 | [],[]=>.isTrue rfl
 |[],_::_|_::_,[]=>.isFalse (by simp)
 |a::aE,b::bs=>match Ty.dec a b,RP aE bs with
  | .isTrue h,.isTrue h'=>.isTrue (by rw[h,h'])
  | .isFalse h,_=>.isFalse (λe=>h (bn e).1)
  |_,.isFalse h=>.isFalse (λe=>h (bn e).2)
def Rf:(ts:List Ty)->Jl Y ts->List (AV Y)
 | [],_=>[]
 |t::ts,x=>.dat t x.1::Rf ts x.2
theorem Q6{g:B3}:∀{ts:List Ty}{x:Jl Y ts}{vs:List Value},Ye Y g.I g.w ts x vs->F2 (AR g) (Rf ts x) vs
 | [],_,_,h=>by cases h;exact .nil
 |_::_,_,_,⟨v,c,a,d,b⟩=>by subst a;exact .cons d (Q6 b)
def rT:(l:List RK)->(ts:List Ty)->MF Y l->Option (Jl Y ts)
 | [],[],_=>ν ()
 | .dat t::l,t'::ts,x=>match Ty.dec t t',rT l ts x.2 with
  | .isTrue h,ν r=>ν (h▸x.1,r)
  |_,_=>δ
 |_,_,_=>δ
theorem Awj{I:Cb}{w:World}:∀{l:List RK}{ts:List Ty}{x:MF Y l}{r:Jl Y ts}{vs:List Value}{A:Bi},rT l ts x=ν r->ReR Y I w l x vs A->Ye Y I w ts r vs/\A=[]
 | [],[],_,_,_,_,_,⟨f,a⟩=>⟨f,a⟩
 | .dat t::l,m::ts,x,r,vs,A,h,j=>by
  unfold rT at h;split at h
  .rename_i e n _ a;subst e;cases h;obtain⟨v,b,i,d,c⟩:=j;obtain⟨g,k⟩:=Awj a c;exact⟨⟨v,b,i,d,g⟩,k⟩
  grind
 |[],_::_,_,_,_,_,h,_|.dat _::_,[],_,_,_,_,h,_|.own _::_,_,_,_,_,_,h,_|.map _ _::_,_,_,_,_,_,h,_|.ownO _::_,_,_,_,_,_,h,_=>by grind[rT]
def asF(sigs:FuncId->Option Bd)(mk:(ks:List AK)->List (AV Y)->Option (JK Y ks))(sg:List (Nat×CU Y))(aE rs:List Ty):AV Y->Option (FT Y aE rs)
 | .fn as' rs' F=>match RP as' aE,RP rs' rs with
  | .isTrue h,.isTrue h'=>ν (h▸h'▸F)
  |_,_=>δ
 | .own j=>match IT sg j with
  |some (.clo q fs cs)=>match sigs q,CS Y.P q with
   |some σ,φ=>ν λa H Q X=>match mk σ.args (fs++(Rf aE a++cs)) with
    |some tup=>Wp Y q σ tup H (λb _ H'=>match rT σ.res rs b with
     |some r=>Q r H'
     |none=>False) X
    |none=>False
   |_,_=>δ
  |_=>δ
 | .val (.func (.func q) ⟨[]⟩ ⟨[]⟩)=>match sigs q,CS Y.P q with
  |some σ,φ=>ν λa H Q X=>match mk σ.args (Rf aE a) with
   |some tup=>Wp Y q σ tup H (λb _ H'=>match rT σ.res rs b with
    |some r=>Q r H'
    |none=>False) X
   |none=>False
  |_,_=>δ
 |_=>δ
def dlA(t:Ty):AV Y->Option (den Y.D t)
 | .del T x 0=>match Ty.dec T t with
  | .isTrue h=>ν (h▸x)
  | .isFalse _=>δ
 |_=>δ
variable {g:B3} {a:AV Y} {v:Value}
theorem Aqz{t:Ty}{x:den Y.D t}(h:dlA t a=ν x)(b:AR g a v):A4q Y t g.I g.w x v:=by
 unfold dlA at h;split at h
 .split at h
  .rename_i e _;subst e;cases h;exact b
  grind
 grind
def fbA(aE rs:List Ty):AV Y->Option (FT Y aE rs)
 | .fbx as' rs' F=>match RP as' aE,RP rs' rs with
  | .isTrue h,.isTrue h'=>ν (h▸h'▸F)
  |_,_=>δ
 |_=>δ
variable {aE rs:List Ty}
theorem Aqt{F:FT Y aE rs}(h:fbA aE rs a=ν F)(b:AR g a v):FbR Y aE rs F g.I g.w v:=by
 unfold fbA at h;split at h
 .split at h
  .rename_i e c _ _;subst e c;cases h;exact b
  grind
 grind
def UB:(ks:List AK)->List (AV Y)->Option (JK Y ks)
 | [],[]=>ν ()
 | .dat t::ks,a::aE=>match VS t a,UB ks aE with
  |some x,ν r=>ν (x,r)
  |_,_=>δ
 | .mob::ks,.mob b::aE=>match UB ks aE with
  |some r=>ν (b,r)
  |none=>δ
 | .fn ts rs::ks,.fn ts' rs' F::aE=>match RP ts' ts,RP rs' rs,UB ks aE with
  | .isTrue h,.isTrue h',ν r=>ν (h▸h'▸F,r)
  |_,_,_=>δ
 | .del t::ks,a::aE=>match dlA t a,UB ks aE with
  |some x,ν r=>ν (x,r)
  |_,_=>δ
 | .fbx ts rs::ks,a::aE=>match fbA ts rs a,UB ks aE with
  |some x,ν r=>ν (x,r)
  |_,_=>δ
 |_,_=>δ
theorem UA{g:B3}:∀{ks:List AK}{aE:List (AV Y)}{r:JK Y ks}{vs:List Value},UB ks aE=ν r->F2 (AR g) aE vs->ArR Y g.I g.w ks r vs []/\∀I w io us A,IoR Y I w ks io us A->A=[]
 | [],[],_,_,_,.nil=>⟨⟨rfl,rfl⟩,λ_ _ _ _ _ h=>h⟩
 | .dat t::ks,a::aE,r,v::vs,h,.cons c j=>by
  unfold UB at h;split at h
  .rename_i x l k i;cases h;obtain⟨d,f⟩:=UA i j;exact⟨⟨v,vs,rfl,Dm k c,d⟩,λI w io us A h=>f _ _ _ _ _ h⟩
  grind
 | .mob::ks,.mob b::aE,r,v::vs,h,.cons c j=>by
  unfold UB at h;split at h
  .rename_i l i;cases h;obtain⟨d,f⟩:=UA i j;exact⟨⟨v,vs,rfl,c,d⟩,λI w io us A h=>f _ _ _ _ _ h⟩
  grind
 | .fn n q::ks,.fn o p F::aE,r,v::vs,h,.cons c j=>by
  unfold UB at h;split at h
  .rename_i e m l _ _ i;subst e m;cases h;obtain⟨d,f⟩:=UA i j;exact⟨⟨v,vs,rfl,c,d⟩,λI w io us A h=>f _ _ _ _ _ h⟩
  grind
 | .del t::ks,a::aE,r,v::vs,h,.cons c j=>by
  unfold UB at h;split at h
  .rename_i x l k i;cases h;obtain⟨d,f⟩:=UA i j;exact⟨⟨v,vs,rfl,Aqz k c,d⟩,λI w io us A h=>f _ _ _ _ _ h⟩
  grind
 | .fbx n q::ks,a::aE,r,v::vs,h,.cons c j=>by
  unfold UB at h;split at h
  .rename_i x l k i;cases h;obtain⟨d,f⟩:=UA i j;exact⟨⟨v,vs,rfl,Aqt k c,d⟩,λI w io us A h=>f _ _ _ _ _ h⟩
  grind
 |.fbx _ _::_,[],_,_,h,_|.del _::_,[],_,_,h,_|[],_::_,_,_,h,_|.dat _::_,[],_,_,h,_|.mob::_,[],_,_,h,_|.fn _ _::_,[],_,_,h,_|.own _::_,_,_,_,h,_|.map _ _::_,_,_,_,h,_=>by grind[UB]
 | .mob::_,.dat _ _::_,_,_,h,_ | .mob::_,.nat _::_,_,_,h,_ | .mob::_,.prp _ _::_,_,_,h,_ | .mob::_,.own _::_,_,_,h,_ | .mob::_,.adr _ _::_,_,_,h,_
 | .mob::_,.el _ _ _ _::_,_,_,h,_ | .mob::_,.del _ _ _::_,_,_,h,_ | .mob::_,.ptr _ _::_,_,_,h,_ | .mob::_,.hp _ _ _::_,_,_,h,_ | .mob::_,.sub _ _ _::_,_,_,h,_
 | .mob::_,.val _::_,_,_,h,_ | .mob::_,.ifc _ _ _::_,_,_,h,_ | .mob::_,.fn _ _ _::_,_,_,h,_ | .mob::_,.fbx _ _ _::_,_,_,h,_=>by simp [UB]at h
 | .fn _ _::_,.dat _ _::_,_,_,h,_ | .fn _ _::_,.nat _::_,_,_,h,_ | .fn _ _::_,.prp _ _::_,_,_,h,_ | .fn _ _::_,.own _::_,_,_,h,_ | .fn _ _::_,.adr _ _::_,_,_,h,_
 | .fn _ _::_,.el _ _ _ _::_,_,_,h,_ | .fn _ _::_,.del _ _ _::_,_,_,h,_ | .fn _ _::_,.ptr _ _::_,_,_,h,_ | .fn _ _::_,.hp _ _ _::_,_,_,h,_ | .fn _ _::_,.sub _ _ _::_,_,_,h,_
 | .fn _ _::_,.val _::_,_,_,h,_ | .fn _ _::_,.ifc _ _ _::_,_,_,h,_ | .fn _ _::_,.mob _::_,_,_,h,_ | .fn _ _::_,.fbx _ _ _::_,_,_,h,_=>by simp [UB]at h
theorem Awc{q:FuncId}{σ:Bd}{fs cs:List (AV Y)}{vs us:List Value}(m:CS Y.P q=φ)(J:F2 (AR g) fs vs)(v:F2 (AR g) cs us):FvR Y aE rs (λa H Q X=>match UB σ.args (fs++(Rf aE a++cs)) with
    |some tup=>Wp Y q σ tup H (λb _ H'=>match rT σ.res rs b with
     |some r=>Q r H'
     |none=>False) X
    |none=>False) g.I g.w (.func (.func q) ⟨vs⟩ ⟨us⟩):=by
 refine⟨⟨_,_,_,rfl⟩,λa H Q X f I w e T x B i E l=>.inl ⟨q,_,_,rfl,m,?_⟩⟩
 dsimp only at f
 split at f
 .rename_i tup n
  have c:Le g {g with I:=I,w:=w}:=⟨e,a3 _,λ_ _=>rfl,rfl⟩
  have K:F2 (AR {g with I:=I,w:=w}) (fs++(Rf aE a++cs)) (vs++(B++us)):=(J.mono λ_ _ r=>r.mono c).app ((Q6 (g:={g with I:=I,w:=w}) i).app (v.mono λ_ _ r=>r.mono c))
  obtain⟨C,D⟩:=UA n K
  have:=f I w T [] x _ C E l
  rw[<-a2]at this
  refine YS.mono this (λr P M _⟨k,F,H',y,z,b,O,j,N,L,o,u,A,t,d⟩=>⟨k,F,H',y,z,?_⟩) (λ_ _ _ _ h=>h)
  dsimp only at d
  split at d
  .rename_i G s
   obtain⟨p,rfl⟩:=Awj s A
   grind
  grind
 grind
theorem Ahl{sigs:FuncId->Option Bd}{sg:List (Nat×CU Y)}{A:Bi}{F:FT Y aE rs}(h:asF sigs UB sg aE rs a=ν F)(hs:F3 g sg A)(b:AR g a v):FvR Y aE rs F g.I g.w v:=by
 unfold asF at h;split at h
 .split at h
  .rename_i e l _ _;subst e l;cases h;exact b
  grind
 .split at h
  .rename_i q fs cs i;split at h
   .rename_i σ _ c;cases h;obtain⟨o,m,_,_,⟨_,s,p,j,k,f⟩,_⟩:=hs.take i;have d:=b.2;simp_all[Awc]
   grind
  grind
 .split at h
  .rename_i σ _ c;cases h;obtain rfl:v=_:=b;have:=Awc (Y:=Y) (q:=_) (σ:=σ) (aE:=aE) (rs:=rs) (g:=g) (fs:=[]) (cs:=[]) c .nil .nil;grind
  grind
 grind
def Zz(sigs:FuncId->Option Bd)(all:List (Nat×CU Y)):(ks:List AK)->List (AV Y)->List (Nat×CU Y)->Option (JK Y ks×List (Nat×CU Y))
 | [],[],sg=>ν ((),sg)
 | .dat t::ks,a::aE,sg=>match VS t a,Zz sigs all ks aE sg with
  |some x,ν r=>ν ((x,r.1),r.2)
  |_,_=>δ
 | .own t::ks,.own i::aE,sg=>match IT sg i with
  |some (.sl T xs)=>match Ty.dec T t,Zz sigs all ks aE (G4 sg i) with
   | .isTrue h,ν r=>ν (((h▸xs:List (den Y.D t)),r.1),r.2)
   |_,_=>δ
  |_=>δ
 | .map k e::ks,.own i::aE,sg=>match IT sg i with
  |some (.mp k' e' m)=>match Ty.dec k' k,Ty.dec e' e,Zz sigs all ks aE (G4 sg i) with
   | .isTrue h,.isTrue h',ν r=>ν (((h▸h'▸m:List (den Y.D k×den Y.D e)),r.1),r.2)
   |_,_,_=>δ
  |_=>δ
 | .mob::ks,.mob b::aE,sg=>match Zz sigs all ks aE sg with
  |some r=>ν ((b,r.1),r.2)
  |none=>δ
 | .fn ts rs::ks,a::aE,sg=>match asF sigs UB all ts rs a,Zz sigs all ks aE sg with
  |some F,ν r=>ν ((F,r.1),r.2)
  |_,_=>δ
 | .del t::ks,a::aE,sg=>match dlA t a,Zz sigs all ks aE sg with
  |some x,ν r=>ν ((x,r.1),r.2)
  |_,_=>δ
 | .fbx ts rs::ks,a::aE,sg=>match fbA ts rs a,Zz sigs all ks aE sg with
  |some x,ν r=>ν ((x,r.1),r.2)
  |_,_=>δ
 |_,_,_=>δ
def ioB:(ks:List AK)->List (AV Y)->O6 Y ks->List (Nat×CU Y)
 | .own t::ks,.own i::aE,x=>(i,.sl t x.1)::ioB ks aE x.2
 | .map k e::ks,.own i::aE,x=>(i,.mp k e x.1)::ioB ks aE x.2
 |.dat _::ks,_::aE,x|.mob::ks,_::aE,x|.del _::ks,_::aE,x|.fn _ _::ks,_::aE,x|.fbx _ _::ks,_::aE,x=>ioB ks aE x
 |_,_,_=>[]
theorem perm_cons{A B C D E:Bi}(a:A.Perm (B++C))(b:C.Perm (D++E)):A.Perm ((B++D)++E):=by rw[a2];exact a.trans (b.append_left B)
def MkR(g:B3)(ks:List AK)(aE:List (AV Y))(x:JK Y ks)(vs:List Value)(A1:Bi):Prop:=ArR Y g.I g.w ks x vs A1/\∀g' io A,Le g g'->IoR Y g'.I g'.w ks io vs A->F3 g' (ioB ks aE io) A
theorem PE{sigs:FuncId->Option Bd}{all:List (Nat×CU Y)}{g:B3}{Aall:Bi}(d:F3 g all Aall):∀{ks:List AK}{aE:List (AV Y)}{sg:List (Nat×CU Y)}{r:JK Y ks×List (Nat×CU Y)}{vs:List Value}{A:Bi},Zz sigs all ks aE sg=ν r->F3 g sg A->F2 (AR g) aE vs->∃A1 A2,A.Perm (A1++A2)/\MkR g ks aE r.1 vs A1/\F3 g r.2 A2
 | [],[],sg,r,_,A,h,f,.nil=>by cases h;exact⟨[],A,aa _,⟨⟨rfl,rfl⟩,λl w A _ h=>h⟩,f⟩
 | .dat t::ks,a::aE,sg,r,v::vs,A,h,f,.cons j s=>by
  unfold Zz at h;split at h
  .rename_i x y D q;cases h;obtain⟨A1,A2,u,⟨n,p⟩,o⟩:=PE d q f s;exact⟨A1,A2,u,⟨⟨v,vs,rfl,Dm D j,n⟩,λl w A c h=>p l w A c h⟩,o⟩
  grind
 | .own t::ks,a::aE,sg,r,v::vs,A,h,f,.cons j s=>by
  cases a with
  |own i=>
   simp only[Zz]at h;split at h
   .rename_i T X L;split at h
    .rename_i e y _ q;subst e;cases h;obtain⟨B,W,J,C,E,N⟩:=f.take L;obtain⟨A1,A2,u,⟨n,p⟩,o⟩:=PE d q N s;refine⟨B++A1,A2,perm_cons J u,⟨⟨v,vs,B,A1,rfl,rfl,by rw[j.2];exact E,n⟩,λl w A c h=>?_⟩,o⟩;obtain⟨R,O,K,z,I,M,G,H⟩:=h;cases I;refine⟨K,z,M,a5 C c.n,?_,p l _ z c H⟩;show OO Y T _ _ _ _ _;rw[c.μ i C,<-j.2];exact G
    grind
   grind
  |_=>simp [Zz]at h
 | .map k e::ks,a::aE,sg,r,v::vs,A,h,f,.cons j s=>by
  cases a with
  |own i=>
   simp only[Zz]at h;split at h
   .rename_i k' Z m L;split at h
    .rename_i P S y _ _ q;subst P S;cases h;obtain⟨B,W,J,C,E,N⟩:=f.take L;obtain⟨A1,A2,u,⟨n,p⟩,o⟩:=PE d q N s;refine⟨B++A1,A2,perm_cons J u,⟨⟨v,vs,B,A1,rfl,rfl,by rw[j.2];exact E,n⟩,λl w A c h=>?_⟩,o⟩;obtain⟨R,O,K,z,I,M,G,H⟩:=h;cases I;refine⟨K,z,M,a5 C c.n,?_,p l _ z c H⟩;show Yo Y _ _ _ _ _ _ _;rw[c.μ i C,<-j.2];exact G
    grind
   grind
  |_=>simp [Zz]at h
 | .mob::ks,a::aE,sg,r,v::vs,A,h,f,.cons j s=>by
  cases a with
  |mob b=>
   simp only[Zz]at h;split at h
   .rename_i y q;cases h;obtain⟨A1,A2,u,⟨n,p⟩,o⟩:=PE d q f s;exact⟨A1,A2,u,⟨⟨v,vs,rfl,j,n⟩,λl w A c h=>p l w A c h⟩,o⟩
   grind
  |_=>simp [Zz]at h
 | .del t::ks,a::aE,sg,r,v::vs,A,h,f,.cons j s=>by
  unfold Zz at h;split at h
  .rename_i x y D q;cases h;obtain⟨A1,A2,u,⟨n,p⟩,o⟩:=PE d q f s;exact⟨A1,A2,u,⟨⟨v,vs,rfl,Aqz D j,n⟩,λl w A c h=>p l w A c h⟩,o⟩
  grind
 | .fbx U V::ks,a::aE,sg,r,v::vs,A,h,f,.cons j s=>by
  unfold Zz at h;split at h
  .rename_i x y D q;cases h;obtain⟨A1,A2,u,⟨n,p⟩,o⟩:=PE d q f s;exact⟨A1,A2,u,⟨⟨v,vs,rfl,Aqt D j,n⟩,λl w A c h=>p l w A c h⟩,o⟩
  grind
 | .fn U V::ks,a::aE,sg,r,v::vs,A,h,f,.cons j s=>by
  unfold Zz at h;split at h
  .rename_i F y Q q;cases h;obtain⟨A1,A2,u,⟨n,p⟩,o⟩:=PE d q f s;exact⟨A1,A2,u,⟨⟨v,vs,rfl,Ahl Q d j,n⟩,λl w A c h=>p l w A c h⟩,o⟩
  grind
 |[],_::_,_,_,_,_,h,_,_|_::_,[],_,_,_,_,h,_,_=>by grind[Zz]
end
end
section
section
variable {Y:Sys}
def Hy(g0:B3)(T:Bi)(X:Vg Y)(R:List PanicEntry->World->Prop):Prop:=∀v w' I' AH' H' t l u,Ext g0.I g0.w I' w'->St I' w' (AH'++T)->Ip (Ra Y) I' w' H' AH'->v=.iface t u->rp Y.toUS l.t I' w' u l.x->X t l H'->R [{v,recovered:=ψ}] w'
def Awa(g0:B3)(T:Bi)(X:Vg Y)(f:Fr)(w:World)(op:Op)(k:AV Y->Cf Y->Prop)(g:B3):Prop:=∀(N:Nat)(ops:Array Oper)(R:List PanicEntry->World->Prop)(K:Fr->World->Prop)(os:List Oper)(dst:Option Tmp)(ty:TypeId)(pos:String)(af:Array Edge),Hy g0 T X R->(∀v a c' g' AH' A',Le g g'->RG g0 T c' f g' AH' A'->AR g' a v->k a c'->WL Y.P N ops R ψ K os (Go.X.put N f dst v) g'.w)->WL Y.P N ops R ψ K (⟨dst,op,ty,pos,af,δ⟩::os) f w
def Aal:(l:List RK)->MF Y l->Nat->List (AV Y)×List (Nat×CU Y)×Nat
 | [],_,n=>([],[],n)
 | .dat t::l,x,n=>let r:=Aal l x.2 n;(.dat t x.1::r.1,r.2.1,r.2.2)
 | .own t::l,x,n=>let r:=Aal l x.2 (n+1);(.own n::r.1,(n,.sl t x.1)::r.2.1,r.2.2)
 | .map k e::l,x,n=>let r:=Aal l x.2 (n+1);(.own n::r.1,(n,.mp k e x.1)::r.2.1,r.2.2)
 | .ownO _::_,_,n=>([],[],n)
theorem Wc:∀{l:List RK}{x:MF Y l}{g:B3}{vs:List Value}{A:Bi},ReR Y g.I g.w l x vs A->∃g',Le g g'/\g'.w=g.w/\g'.I=g.I/\g'.n=(Aal l x g.n).2.2/\F2 (AR g') (Aal l x g.n).1 vs/\F3 g' (Aal l x g.n).2.1 A
 | [],x,g,vs,A,⟨b,c⟩=>by subst b c;exact⟨g,Le.refl _,rfl,rfl,rfl,.nil,rfl⟩
 | .dat t::l,x,g,vs,A,⟨v,j,b,c,i⟩=>by subst b;obtain⟨g',f,z,C,D,y,B⟩:=Wc i;exact⟨g',f,z,C,D,.cons ((show AR g (.dat t x.1) v from c).mono f) y,B⟩
 | .own t::l,x,g,vs,A,⟨v,j,u,w,b,c,i,f⟩=>by subst b c;have d:=Le.new (g:=g) (v:=v) (Ext.refl g.I g.w);obtain⟨g',a,s,p,m,q,o⟩:=Wc (g:=g.new g.w v) (x:=x.2) f;have h:g.n<(g.new g.w v).n:=a4 _;refine⟨g',d.trans a,s,p,m,.cons (AR.mono a (Gy rfl)) q,u,w,rfl,a5 h a.n,?_,o⟩;refine SR.mono a h ?_;show OO Y t _ _ _ _ _;rw[g.BA];exact i
 | .ownO _::_,_,_,_,_,r=>r.elim
 | .map k e::l,x,g,vs,A,⟨v,j,u,w,b,c,i,f⟩=>by subst b c;have d:=Le.new (g:=g) (v:=v) (Ext.refl g.I g.w);obtain⟨g',a,s,p,m,q,o⟩:=Wc (g:=g.new g.w v) (x:=x.2) f;have h:g.n<(g.new g.w v).n:=a4 _;refine⟨g',d.trans a,s,p,m,.cons (AR.mono a (Gy rfl)) q,u,w,rfl,a5 h a.n,?_,o⟩;refine SR.mono a h ?_;show Yo Y k e _ _ _ _ _;rw[g.BA];exact i
def Av1(c:Cf Y)(sg:List (Nat×CU Y))(n:Nat)(H':HH Y)(k:AV Y->Cf Y->Prop):List (AV Y)->Prop
 | [a]=>k a {c with sg:=sg,nx:=n,H:=H'}
 |l=>k (.own n) {c with sg:=(n,.tp l)::sg,nx:=n+1,H:=H'}
def A8q(c:Cf Y)(sg:List (Nat×CU Y))(res:List RK)(b:MF Y res)(H':HH Y)(k:AV Y->Cf Y->Prop):Prop:=Av1 c ((Aal res b c.nx).2.1++sg) (Aal res b c.nx).2.2 H' k (Aal res b c.nx).1
variable {g0 g:B3} {T AH A:Bi} {c:Cf Y} {f:Fr} {k:AV Y->Cf Y->Prop}
theorem Akf{g':B3}{AH' A':Bi}(h:RG g0 T c f g AH A)(b:Le g g')(t:c.op=δ){sg:List (Nat×CU Y)}{n:Nat}{H':HH Y}{l:List (AV Y)}{vs:List Value}(m:Av1 c sg n H' k l)(w:g'.n=n)(y:Ip (Ra Y) g'.I g'.w H' AH')(hs:F3 g' sg A')(j:St g'.I g'.w (AH'++(A'++T)))(q:F2 (AR g') l vs):∃a c' g'',k a c'/\Le g' g''/\g''.w=g'.w/\RG g0 T c' f g'' AH' A'/\AR g'' a (LD vs):=by
 have d:RG g0 T {c with sg:=sg,nx:=n,H:=H'} f g' AH' A':=⟨w,h.le.trans b.ext,j,by rw[show ({c with sg:=sg,nx:=n,H:=H'}:Cf Y).op=δ from t];exact y,hs,h.hs.mono b,b.pt h.pt,λi a z=>(h.fr i a z).mono b⟩
 unfold Av1 at m;split at m
 .cases q with
  |cons u p=>cases p;exact⟨_,_,g',m,Le.refl _,rfl,d,u⟩
 .rename_i o;have x:LD vs=.tuple ⟨vs⟩:=by
   cases q with
   |nil=>rfl
   |cons u p=>
    cases p with
    |nil=>exact qG rfl (o _)
    |cons _ _=>rfl
  have e:=Le.new (g:=g') (v:=.tuple ⟨vs⟩) (Ext.refl g'.I g'.w);have:=d.Ade (sg':=sg) (A1:=[]) (s:=.tp l) (v:=.tuple ⟨vs⟩) hs (Ext.refl _ _) ⟨rfl,vs,g'.BA _ _,q.mono λ_ _ r=>r.mono e⟩ j;refine⟨_,_,_,m,e,rfl,this,?_⟩;rw[x];exact Gy w
def XX(sigs:FuncId->Option Bd)(X:Vg Y)(c:Cf Y)(q:FuncId)(aE:List (AV Y))(k:AV Y->Cf Y->Prop):Prop:=match sigs q with
 |some σ=>Fx (CS Y.P q&&c.op.isNone) (match Zz sigs c.sg σ.args aE c.sg with
  |some r=>Wp Y q σ r.1 c.H (λb io H'=>A8q c (ioB σ.args aE io++r.2) σ.res b H' k) X
  |none=>False)
 |none=>False
theorem DQ{I:Cb}{w:World}{B:Bi}(h:St I w (A++(B++T))):St I w (A++T):=by have a:=h.Y2;exact a.drop
theorem Qi{sigs:FuncId->Option Bd}{X:Vg Y}(h:RG g0 T c f g AH A){q:FuncId}{aE:List (AV Y)}{ws:List Value}(j:XX sigs X c q aE k)(ha:F2 (AR g) aE ws):CS Y.P q=φ/\∀(R:List PanicEntry->World->Prop)(K:Value->World->Prop),Hy g0 T X R->(∀v a c' g' AH' A',Le g g'->RG g0 T c' f g' AH' A'->AR g' a v->k a c'->K v g'.w)->YS Y.P q ws g.I g.w (λv _ w'=>K v w') (λv _ w'=>R [{v,recovered:=ψ}] w'):=by
 unfold XX at j;split at j
 .rename_i σ hσ;obtain⟨E,j⟩:=AJ j;simp only[a1,ah]at E;split at j
  .rename_i r hr;obtain⟨U,F,hp,⟨m,o⟩,p⟩:=PE h.sg hr h.sg ha;refine⟨E.1,λR K hR y=>?_⟩;have hH:=h.hr;rw[E.2]at hH;have V:St g.I g.w (AH++(U++(F++T))):=h.st.perm (by have:=(hp.append_right T).append_left AH;rwa [a2 U F T]at this)
   refine YS.mono (j g.I g.w (F++T) U AH ws m hH V) (λv H w' e⟨AH',A',H',P,L,b,io,us,B1,N,O,M,Q,k6,k7⟩=>?_) (λv H w' e⟨AH',H',t,l,u,P,L,O,M,Q⟩=>?_)
   .subst O M;let S:B3:={g with I:=H,w:=w'}
    have s:Le g S:=⟨e,a3 _,λ_ _=>rfl,rfl⟩
    obtain⟨G,C,d,n,z,x,Z⟩:=Wc (g:=S) Q;have i:=s.trans C;have W:F3 G (ioB σ.args aE io) N:=o G io N i (by rw[n,d];exact k6);have D:=Z.app (W.app (p.mono i));have B:St G.I G.w (AH'++((B1++(N++F))++T)):=by rw[n,d];simpa [a2] using P
    have J:S.n=c.nx:=h.n;rw[J]at z x D;obtain⟨a,c',g3,m1,m2,m3,m4,m5⟩:=Akf h i E.2 k7 z (by rw[n,d];exact L) D B x;have:=y _ a c' g3 _ _ (i.trans m2) m4 m5 m1;rw[m3,d]at this;exact this
   .refine hR v w' H AH' H' t l u (h.le.trans e) ?_ L O M Q;exact DQ P
  .exact j.elim
 .exact j.elim
def mkT:(ts:List Ty)->List (AV Y)->Option (Jl Y ts)
 | [],[]=>ν ()
 |t::ts,a::aE=>match VS t a,mkT ts aE with
  |some x,ν r=>ν (x,r)
  |_,_=>δ
 |_,_=>δ
theorem Abd{g:B3}:∀{ts:List Ty}{aE:List (AV Y)}{x:Jl Y ts}{vs:List Value},mkT ts aE=ν x->F2 (AR g) aE vs->Ye Y g.I g.w ts x vs
 | [],[],_,_,_,.nil=>rfl
 |t::ts,a::aE,x,v::vs,h,.cons b e=>by
  unfold mkT at h;split at h
  .rename_i y r c d;cases h;exact⟨v,vs,rfl,Dm c b,Abd d e⟩
  .cases h
 |[],_::_,_,_,h,_|_::_,[],_,_,h,_=>by simp [mkT]at h
def fvX(X:Vg Y)(c:Cf Y)(aE rs:List Ty)(F:FT Y aE rs)(l:List (AV Y))(k:AV Y->Cf Y->Prop):Prop:=match mkT aE l,c.op with
 |some x,δ=>F x c.H (λb H'=>Av1 c c.sg c.nx H' k (Rf rs b)) X
 |_,_=>False
def Arh(sigs:FuncId->Option Bd)(X:Vg Y)(c:Cf Y)(cl:Operand)(aE:Array Operand)(k:AV Y->Cf Y->Prop):Prop:=match evL c aE.toList with
 |some l=>match cl with
  | .func q=>XX sigs X c q l k
  |x=>match E9 c x with
   |some (.own j)=>match IT c.sg j with
    |some (.clo q fs cs)=>XX sigs X c q (fs++(l++cs)) k
    |_=>False
   |some (.val (.func (.func q) ⟨[]⟩ ⟨[]⟩))=>XX sigs X c q l k
   |some (.fn aE rs F)=>fvX X c aE rs F l k
   |_=>False
 |none=>False
theorem Arf{sigs:FuncId->Option Bd}{X:Vg Y}(h:RG g0 T c f g AH A){cl:Operand}{aE:Array Operand}{at_:Array TypeId}(d:Arh sigs X c cl aE k):Awa g0 T X f g.w (.call ⟨.value cl,aE,at_⟩) k g:=by
 intro N ops R K os dst ty Z af C i;unfold Arh at d;split at d
 .rename_i l hl;have D:=PY h hl;split at d
  .rename_i q;obtain⟨B,p⟩:=Qi h d D;exact Ao4 B (p R _ C i) rfl (λv n o _ h=>h) (λv n o _ h=>h)
  .rename_i x hx0;split at d
   .rename_i j y;split at d
    .rename_i q fs cs hs;obtain⟨A1,A2,_,_,⟨_,vs,us,h3,h4,h5⟩,_⟩:=h.sg.take hs;obtain⟨B,p⟩:=Qi h d (h4.app (D.app h5));exact Aiv B (p R _ C i) ((h.ev y).2.trans h3) (by simp) (λv n o _ h=>h) (λv n o _ h=>h)
    .exact d.elim
   .rename_i q y;obtain⟨B,p⟩:=Qi h d D;exact Aiv B (p R _ C i) (h.ev y) (by simp) (λv n o _ h=>h) (λv n o _ h=>h)
   .rename_i as' rs F y;unfold fvX at d;split at d
    .rename_i x p z;obtain⟨_,r⟩:=h.ev y;have P:=h.hr;rw[z]at P;refine A3e (vs:=aE.toList.map (ev f)) rfl (Clb.mono (r x c.H _ X d g.I g.w (Ext.refl _ _) (A++T) AH _ (Abd p D) P h.st) λe o he=>?_);rcases he with ⟨v,n,rfl,e,s,A',M,E,L,H,b,us,G,J,V⟩|⟨v,n,rfl,e,s,M,t,l,u,E,L,H,G,J⟩
     .subst H G;let O:B3:={g with I:=n,w:=o}
      have m:Le g O:=⟨e,a3 _,λ_ _=>rfl,rfl⟩
      obtain⟨a,S,g3,U,m2,W,Q,m5⟩:=Akf (g':=O) h m z V h.n L (h.sg.mono m) (by simpa using E) (Q6 J);have:=i _ a S g3 _ _ (m.trans m2) Q m5 U;rw[W]at this;exact this
     .exact C v o n s M t l u (h.le.trans e) (DQ E) L H G J
    .exact d.elim
   .exact d.elim
 .exact d.elim
end
end
section
section
variable {Y:Sys}
def pl1:Ty->Bool
 | .int _ | .bool | .str | .ptr | .mref=>φ
 |_=>ψ
def vl1:(t:Ty)->den Y.D t->Value
 | .int k,n=>.int k n
 | .bool,b=>.bool b
 | .str,s=>.string s
 | .ptr,p=>.pointer (p.map λb=>⟨b,0,δ⟩)
 | .mref,p=>.map p
 |.sl _,_|.u _,_=>undef
def rg1:(t:Ty)->den Y.D t->Prop
 | .int k,n=>Bl k n
 | .str,s=>s.size<=Pd
 |.bool,_|.ptr,_|.mref,_|.sl _,_|.u _,_=>True
variable {w:World}
theorem Awi{t:Ty}(h:pl1 t=φ){I:Cb}{v:Value}{x:den Y.D t}:rp Y.toUS t I w v x↔v=vl1 t x/\rg1 t x:=by
 cases t with
 |int k=>exact AS
 |bool=>exact HQ.trans ⟨λh=>⟨h,trivial⟩,λh=>h.1⟩
 |str=>exact Nv
 |ptr=>exact Mf.trans ⟨λh=>⟨h,trivial⟩,λh=>h.1⟩
 |mref=>exact LC.trans ⟨λh=>⟨h,trivial⟩,λh=>h.1⟩
 |sl e|u n=>simp [pl1]at h
def plT:List Ty->Bool
 | []=>φ
 |t::ts=>pl1 t&&plT ts
def vlT:(ts:List Ty)->Jl Y ts->List Value
 | [],_=>[]
 |t::ts,x=>vl1 t x.1::vlT ts x.2
def rgT:(ts:List Ty)->Jl Y ts->Prop
 | [],_=>True
 |t::ts,x=>rg1 t x.1/\rgT ts x.2
theorem Uw:∀{ts:List Ty},plT ts=φ->∀{I:Cb}{w:World}{x:Jl Y ts}{vs:List Value},Ye Y I w ts x vs↔vs=vlT ts x/\rgT ts x
 | [],_,I,w,x,vs=>⟨λh=>⟨h,trivial⟩,λh=>h.1⟩
 |t::ts,h,I,w,x,vs=>by
  simp only[plT,a1]at h;constructor
  .rintro⟨v,f,c,a,b⟩;obtain⟨e,d⟩:=(Awi h.1).1 a;obtain⟨i,g⟩:=(Uw h.2).1 b;exact⟨by rw[c,e,i];rfl,d,g⟩
  .rintro⟨c,a,b⟩;exact⟨_,_,c,(Awi h.1).2 ⟨rfl,a⟩,(Uw h.2).2 ⟨rfl,b⟩⟩
def Gw(Y:Sys)(I:Cb)(w:World):Prop:=(∀b,I b->b<w.heap.size)/\(Ra Y).gl I w
variable {f:Fr}
theorem RG.gw{Y:Sys}{g0 g:B3}{T AH A:Bi}{c:Cf Y}(h:RG g0 T c f g AH A)(s:Sx g w):Gw Y g.I w:=by
 refine⟨λb e=>a5 (h.st.imm b e) s.ext.size,(Ra Y).glm s.ext ?_⟩;have a:=h.hr;unfold HR at a;split at a
 .obtain⟨L,_,d⟩:=a.ex;exact d.gl
 .obtain⟨L,_,d⟩:=a.1.ex;exact d.gl
structure PF(Y:Sys)(q:FuncId) where
 ta:List Ty
 tr:List Ty
 N6:Option (Jl Y ta->Prop)
 F:Jl Y ta->Jl Y tr
 pa:plT ta=φ
 pr:plT tr=φ
 can:CS Y.P q=φ
 ok:∀a,rgT ta a->(∀d,N6=ν d->d a)->∀I w,Gw Y I w->Calls Y.P q ⟨vlT ta a⟩ w λe w'=>e=.returned (LD (vlT tr (F a)))/\w'=w/\rgT tr (F a)
def Atj(c:Cf Y)(k:AV Y->Cf Y->Prop):List (AV Y)->Prop
 | [a]=>k a c
 |l=>k (.own c.nx) {c with sg:=(c.nx,.tp l)::c.sg,nx:=c.nx+1}
variable {q:FuncId}
def pfX(p:PF Y q)(c:Cf Y)(l:List (AV Y))(k:AV Y->Cf Y->Prop):Prop:=match mkT p.ta l with
 |some x=>match p.N6 with
  |none=>Atj c k (Rf p.tr (p.F x))
  |some d=>(rgT p.ta x->d x)/\Atj c k (Rf p.tr (p.F x))
 |none=>False
theorem Ayo{p:PF Y q}{g0 g:B3}{T AH A:Bi}{c:Cf Y}(h:RG g0 T c f g AH A){l:List (AV Y)}{vs:List Value}{k:AV Y->Cf Y->Prop}(i:pfX p c l k)(G:F2 (AR g) l vs):∃v a c' g',k a c'/\g'.w=g.w/\Le g g'/\RG g0 T c' f g' AH A/\AR g' a v/\∀w,Sx g w->Calls Y.P q ⟨vs⟩ w λe w'=>e=.returned v/\w'=w:=by
 unfold pfX at i;split at i
 .rename_i x B;obtain⟨C,n⟩:=(Uw p.pa).1 (Abd B G);have t:(∀d,p.N6=ν d->d x)/\Atj c k (Rf p.tr (p.F x)):=by
   split at i
   .rename_i z;exact⟨λd h=>(by rw[z]at h;cases h),i⟩
   .rename_i d z;exact⟨λN h=>(by rw[z]at h;cases h;exact i.1 n),i.2⟩
  obtain⟨t,o⟩:=t;have H:rgT p.tr (p.F x):=by obtain⟨e,w',M,L,_⟩:=p.ok x n t g.I g.w (h.gw (Sx.refl g)) [];exact L.2.2
  have m:F2 (AR g) (Rf p.tr (p.F x)) (vlT p.tr (p.F x)):=Q6 ((Uw p.pr).2 ⟨rfl,H⟩);have u:∀w,Sx g w->Calls Y.P q ⟨vs⟩ w λe w'=>e=.returned (LD (vlT p.tr (p.F x)))/\w'=w:=λw K=>by rw[C];exact Calls.mono (p.ok x n t g.I w (h.gw K)) λe w' D=>⟨D.1,D.2.1⟩
  generalize Rf p.tr (p.F x)=J at o m;generalize vlT p.tr (p.F x)=j at u m;unfold Atj at o;split at o
  .cases m with
   |cons E I=>cases I;exact⟨_,_,c,g,o,rfl,Le.refl _,h,E,u⟩
  .rename_i y;have F:LD j=.tuple ⟨j⟩:=by
    cases m with
    |nil=>rfl
    |cons C n=>
     cases n with
     |nil=>exact qG rfl (y _)
     |cons _ _=>rfl
   rw[F]at u;have b:=Le.new (g:=g) (v:=.tuple ⟨j⟩) (Ext.refl g.I g.w);have:=h.new (s:=.tp J) (v:=.tuple ⟨j⟩) (A1:=[]) (w':=g.w) (Ext.refl _ _) ⟨rfl,j,g.BA _ _,m.mono λ_ _ r=>r.mono b⟩ h.st;exact⟨_,_,_,g.new g.w (.tuple ⟨j⟩),o,rfl,b,this,Gy h.n,u⟩
 .exact i.elim
theorem U3{aE:Array Operand}{at_:Array TypeId}(d:CS Y.P q=φ)(dst:Option Tmp)(ty:TypeId)(a:String)(b:Array Edge)(c:Option (Nat×Bool)):(execOp (ev f) ⟨dst,.call ⟨.value (.func q),aE,at_⟩,ty,a,b,c⟩).run Y.P w=.ok (.enter q ⟨aE.toList.map (ev f)⟩) w:=by simp [execOp,resolve,ev,Deferred.ofValue,invoke,NC d];rw[<-bl]
end
end
section
section
variable {Y:Sys}
structure Vh(Y:Sys)(q:FuncId) where
 tr:Cf Y->List (AV Y)->Vg Y->(AV Y->Cf Y->Prop)->Prop
 can:CS Y.P q=φ
 ok:∀{g0 g:B3}{T AH A:Bi}{c:Cf Y}{f:Fr}{aE:List (AV Y)}{vs:List Value}{X:Vg Y}{k:AV Y->Cf Y->Prop},RG g0 T c f g AH A->F2 (AR g) aE vs->tr c aE X k->
  ∀(R:List PanicEntry->World->Prop)(K:Value->World->Prop),Hy g0 T X R->(∀v a c' g' AH' A',Le g g'->RG g0 T c' f g' AH' A'->AR g' a v->k a c'->K v g'.w)->
   Calls Y.P q ⟨vs⟩ g.w λe w'=>match e with
    | .returned v=>K v w'
    | .panicked ch=>R ch w'
    | .outgrown=>False
def ilC(il:(q:FuncId)->Option (Vh Y q)):Operand->Option ((q:FuncId)×Vh Y q)
 | .func q=>match il q with
  |some p=>ν ⟨q,p⟩
  |none=>δ
 |_=>δ
theorem A0e{il:(q:FuncId)->Option (Vh Y q)}{cl:Operand}{r:(q:FuncId)×Vh Y q}(h:ilC il cl=ν r):cl=.func r.1:=by
 unfold ilC at h;split at h
 .split at h
  .cases h;rfl
  .cases h
 .cases h
def ilX(X:Vg Y)(c:Cf Y)(r:(q:FuncId)×Vh Y q)(aE:Array Operand)(K:AV Y->Cf Y->Prop):Prop:=match evL c aE.toList with
 |some l=>r.2.tr c l X K
 |none=>False
variable {X:Vg Y} {g0 g:B3} {T AH A:Bi} {c:Cf Y} {f:Fr} {aE:Array Operand} {at_:Array TypeId} {k:AV Y->Cf Y->Prop}
theorem A0c(h:RG g0 T c f g AH A){r:(q:FuncId)×Vh Y q}(b:ilX X c r aE k):Awa g0 T X f g.w (.call ⟨.value (.func r.1),aE,at_⟩) k g:=by
 intro N d R K n i t o u m a;unfold ilX at b;split at b
 .rename_i l s;refine Xe r.2.can rfl ?_;exact Calls.mono (r.2.ok h (PY h s) b R (λv j=>WL Y.P N d R ψ K n (Go.X.put N f i v) j) m a) λe j p=>by cases e<;>exact p
 .exact b.elim
def CI{ω:Type}(H:Hp ω)(b:Nat):Hp ω:=λc=>if c=b then δ else H c
def Kj{ω:Type}(H:Hp ω)(b:Nat)(o:Option ω):Hp ω:=λc=>if c=b then o else H c
theorem TE{K:HK (Ob Y)}{I:Cb}{w:World}{H:HH Y}{b:Nat}(h:HpX K I w H b A)(e:∀p∈A,p.1≠b):Ip K I w (CI H b) A:=by
 obtain⟨L,f,d⟩:=h.ex;refine⟨L,λc=>?_,d⟩;unfold CI;by_cases a:c=b
 .subst a;rw[UV rfl];exact d.fresh e
 .rw[GT a];exact f c a
theorem Ajg{K:HK (Ob Y)}{I:Cb}{w:World}{H:HH Y}{b:Nat}{o:Option (Ob Y)}(h:Ip K I w H A):HpX K I w (Kj H b o) b A:=by obtain⟨L,a,e⟩:=h.ex;exact⟨L,λc d=>by rw[a c,Kj,GT d],e⟩
def ilO(X:Vg Y)(c:Cf Y)(o:Opn Y)(r:(q:FuncId)×Vh Y q)(aE:Array Operand)(K:AV Y->Cf Y->Prop):Prop:=match evL c aE.toList,IT c.sg o.i with
 |some l,ν (.blk _)=>r.2.tr {c with H:=CI c.H o.b,op:=δ} l X λa c'=>cls c' λc'=>match IT c'.sg o.i with
  |some (.blk _)=>c'.H o.b=δ->K a {c' with H:=Kj c'.H o.b (c.H o.b),op:=ν o}
  |_=>False
 |_,_=>False
theorem A0d(h:RG g0 T c f g AH A){o:Opn Y}(ho:c.op=ν o){r:(q:FuncId)×Vh Y q}(E:ilO X c o r aE k):Awa g0 T X f g.w (.call ⟨.value (.func r.1),aE,at_⟩) k g:=by
 intro N Q R K os G ty pos af hR u;unfold ilO at E;split at E
 .rename_i l cs hl hs;have hH:=h.hr;rw[ho]at hH;obtain⟨hX,h2,Z,h4⟩:=hH;obtain⟨A1,A2,hp,_,⟨b',P,e,rfl,j,_⟩,_⟩:=h.sg.take hs;rw[h4]at j;have B:b'=o.b:=by injection j with j;injection j with j;injection j with j _;exact j.symm
  subst B;have w:(o.b,Obj.cells P e (0,0))∈A:=hp.symm.mem_iff.1 (by simp);have J:∀p∈AH,p.1≠o.b:=λp I e'=>by have hn:=h.st.nodup;rw[au,ap]at hn;exact hn.2.2 p.1 (ak I) o.b (b9.2 ⟨_,a6 _ w,rfl⟩) e'
  have hr:RG g0 T {c with H:=CI c.H o.b,op:=δ} f g AH A:=⟨h.n,h.le,h.st,TE hX J,h.sg,h.hs,h.pt,h.fr⟩
  refine Xe r.2.can rfl ?_;refine Calls.mono (r.2.ok hr (PY h hl) E R (λv w'=>WL Y.P N Q R ψ K os (Go.X.put N f G v) w') hR λv a c' g' AH' A' O M ha U=>?_) λe w' he=>by cases e<;>exact he
  obtain⟨F,g2,z,L,s,S,m,b,_,y⟩:=DA M U;split at s
  .rename_i cs2 V;have t:=b.hr;rw[y]at t;have i:=O.trans m;have D:g2.μ o.i=.pointer (ν ⟨o.b,0,δ⟩):=by rw[i.μ _ Z];exact h4
   obtain⟨B1,B2,hq,_,⟨b2,C,e2,rfl,d,_⟩,_⟩:=b.sg.take V;rw[D]at d;have W:b2=o.b:=by injection d with d;injection d with d;injection d with d _;exact d.symm
   subst W;have n:F.H o.b=δ:=by refine TG (T:=B2++T) (x:=.cells C e2 (0,0)) t (b.st.perm ?_);refine((hq.append_right T).append_left z).trans ?_;simp only[b4,bb];exact b5
   rw[<-S];refine u v a {F with H:=Kj F.H o.b (c.H o.b),op:=ν o} g2 z L i ⟨b.n,b.le,b.st,⟨Ajg t,λx hx=>?_,a5 Z i.n,D⟩,b.sg,b.hs,b.pt,b.fr⟩ (ha.mono m) (s n);show Kj F.H o.b (c.H o.b) o.b=_;rw[Kj,UV rfl];exact h2 x hx
  .exact s.elim
 .exact E.elim
def Arj(sigs:FuncId->Option Bd)(X:Vg Y)(c:Cf Y)(o:Opn Y)(q:FuncId)(aE:Array Operand)(K:AV Y->Cf Y->Prop):Prop:=match evL c aE.toList,IT c.sg o.i with
 |some l,ν (.blk _)=>XX sigs X {c with H:=CI c.H o.b,op:=δ} q l λa c'=>cls c' λc'=>match IT c'.sg o.i with
  |some (.blk _)=>c'.H o.b=δ->K a {c' with H:=Kj c'.H o.b (c.H o.b),op:=ν o}
  |_=>False
 |_,_=>False
theorem Ari{sigs:FuncId->Option Bd}(h:RG g0 T c f g AH A){o:Opn Y}(ho:c.op=ν o){q:FuncId}(D:Arj sigs X c o q aE k):Awa g0 T X f g.w (.call ⟨.value (.func q),aE,at_⟩) k g:=by
 intro N I R K os F ty pos af hR z;unfold Arj at D;split at D
 .rename_i l cs hl hs;have hH:=h.hr;rw[ho]at hH;obtain⟨hX,h2,h3,h4⟩:=hH;obtain⟨A1,A2,hp,_,⟨b',G,e,rfl,j,_⟩,_⟩:=h.sg.take hs;rw[h4]at j;have t:b'=o.b:=by injection j with j;injection j with j;injection j with j _;exact j.symm
  subst t;have u:(o.b,Obj.cells G e (0,0))∈A:=hp.symm.mem_iff.1 (by simp);have J:∀p∈AH,p.1≠o.b:=λp W e'=>by have hn:=h.st.nodup;rw[au,ap]at hn;exact hn.2.2 p.1 (ak W) o.b (b9.2 ⟨_,a6 _ u,rfl⟩) e'
  have hr:RG g0 T {c with H:=CI c.H o.b,op:=δ} f g AH A:=⟨h.n,h.le,h.st,TE hX J,h.sg,h.hs,h.pt,h.fr⟩
  obtain⟨hc,Q⟩:=Qi hr D (PY h hl);refine Ao4 hc (Q R (λv O=>WL Y.P N I R ψ K os (Go.X.put N f F v) O) hR λv a c' g' AH' A' S M ha Z=>?_) rfl (λv I' O _ h=>h) (λv I' O _ h=>h);obtain⟨E,g2,w,P,s,U,m,b,_,C⟩:=DA M Z;split at s
  .rename_i cs2 V;have r:=b.hr;rw[C]at r;have i:=S.trans m;have y:g2.μ o.i=.pointer (ν ⟨o.b,0,δ⟩):=by rw[i.μ _ h3];exact h4
   obtain⟨B1,B2,hq,_,⟨b2,B,e2,rfl,d,_⟩,_⟩:=b.sg.take V;rw[y]at d;have L:b2=o.b:=by injection d with d;injection d with d;injection d with d _;exact d.symm
   subst L;have n:E.H o.b=δ:=by refine TG (T:=B2++T) (x:=.cells B e2 (0,0)) r (b.st.perm ?_);refine((hq.append_right T).append_left w).trans ?_;simp only[b4,bb];exact b5
   rw[<-U];refine z v a {E with H:=Kj E.H o.b (c.H o.b),op:=ν o} g2 w P i ⟨b.n,b.le,b.st,⟨Ajg r,λx Q=>?_,a5 h3 i.n,y⟩,b.sg,b.hs,b.pt,b.fr⟩ (ha.mono m) (s n);show Kj E.H o.b (c.H o.b) o.b=_;rw[Kj,UV rfl];exact h2 x Q
  .exact s.elim
 .exact D.elim
def wrX(c:Cf Y)(op:BinOp)(x y:Operand)(K:AV Y->Cf Y->Prop):Prop:=match E9 c x,E9 c y with
 |some a,ν b=>match asInt a,asInt b with
  |some (k,m),ν (k2,n)=>match Ty.dec (.int k) (.int k2) with
   | .isTrue _=>arW op k m n λr=>K (.dat (.int k) r) c
   | .isFalse _=>False
  |_,_=>False
 |_,_=>False
theorem Axl(h:RG g0 T c f g AH A){op:BinOp}{x y:Operand}{t u:TypeId}{K:AV Y->Cf Y->Prop}(d:wrX c op x y K):∃v a,K a c/\AR g a v/\∀ty,LQ Y.P f (.binOp op t x y u) ty v g.w:=by
 unfold wrX at d;split at d
 .rename_i a b E F;split at d
  .rename_i k m G n s D;split at d
   .rename_i e _;cases e;have B:=Ge s (h.ev E);have q:=Ge D (h.ev F);have:∀ty:TypeId,∃r,K (.dat (.int k) r) c/\Bl k r/\∀w,LQ Y.P f (.binOp op t x y u) ty (.int k r) w:=λty=>Arq (t:=t) (u:=u) (ty:=ty) d B q;obtain⟨r,l,p,i⟩:=this 0;refine⟨_,_,l,AS.2 ⟨rfl,p⟩,λty j o z C=>?_⟩;have:=i g.w j o z C;simpa [execOp] using this
   .exact d.elim
  .exact d.elim
 .exact d.elim
end
end
section
section
variable {Y:Sys}
def Ap6(c:Cf Y)(x:Operand):Bool:=match E9 c x with
 |some (.dat .mref _)=>φ
 |_=>ψ
variable {g0 g:B3} {T AH A:Bi} {c:Cf Y} {f:Fr}
theorem RG.mr(h:RG g0 T c f g AH A)(j:c.op=δ){r:Nat}{k e:Ty}{m:List (den Y.D k×den Y.D e)}(t:c.H r=ν (.mp k e m)):∃A1 A2,Yo Y k e g.I g.w A1 (.map (ν r)) m/\St g.I g.w (A1++(A2++(A++T)))/\∀(d:Bi)(g':B3)(l:List (den Y.D k×den Y.D e)),Le g g'->g'.n=g.n->Yo Y k e g'.I g'.w d (.map (ν r)) l->St g'.I g'.w (d++(A2++(A++T)))->RG g0 T {c with H:=Ac c.H r (.mp k e l)} f g' (d++A2) A:=by have n:=h.hr;rw[j]at n;obtain⟨A1,A2,p,w,s⟩:=Ip.take n t h.st;refine⟨A1,A2,p,s,λd g' l b o q u=>⟨o.trans h.n,h.le.trans b.ext,by grind,?_,h.sg.mono b,h.hs.mono b,b.pt h.pt,λi a v=>(h.fr i a v).mono b⟩⟩;show HR _ _ _ _ c.op;rw[j];exact HpX.lay (w.mono b.ext) q
def luR(c:Cf Y)(t:TypeId)(x y:Operand)(ok:Bool)(K:AV Y->Cf Y->Prop):Prop:=cls c λc=>match Sp Y.P t,E9 c x,E9 c y with
 |some (kt,et),ν (.dat .mref p),ν b=>match Y.ty kt,Y.ty et with
  |some k,ν e=>match VS k b,Asq (Y:=Y) et e with
   |some kd,ν zd=>Fx (Y.km kt k) (∃r,p=ν r/\∃m,c.H r=ν (.mp k e m)/\(match ok with
    |false=>K (.dat e ((@Ag _ _ (I4 Y k) m kd).getD zd)) c
    |true=>K (.own c.nx) {c with sg:=(c.nx,.tp [.dat e ((@Ag _ _ (I4 Y k) m kd).getD zd),.prp ((@Ag _ _ (I4 Y k) m kd).isSome=φ) inferInstance])::c.sg,nx:=c.nx+1}))
   |_,_=>False
  |_,_=>False
 |_,_,_=>False
variable {t:TypeId} {x y:Operand} {K:AV Y->Cf Y->Prop}
theorem Azr(h:RG g0 T c f g AH A){ok:Bool}(a:luR c t x y ok K):Qz g0 T f g.w (.lookup t x y ok) K g:=by
 intro N ops R Kw os Z ty pos af j;obtain⟨J,d,o,A1,a,W,i,l,_,F⟩:=DA h a;rw[<-W];split at a
 .rename_i kt et p b hm ha U;split at a
  .rename_i k e V X;split at a
   .rename_i n Q L hz;obtain⟨C,r,hp,m,E,a⟩:=AJ a;have P:=Abg (e:=e) hm C;obtain⟨B1,B2,S,B,M⟩:=l.mr F E;obtain⟨z,v,w⟩:=Ah0 hz d.I d.w;have I:ev f x=.map (ν r):=by have:=LC.1 (l.ev ha);rw[this,hp]
    letI:AT (den Y.D k):=RT Y.toUS k
    letI:AT (den Y.D e):=RT Y.toUS e
    letI:DecidableEq (den Y.D k):=I4 Y k
    split at a
    .exact Xb P S B I rfl (Dm L (l.ev U)) v w λu D=>j u (.dat e ((Ag m n).getD Q)) J d o A1 i l D a
    .refine Xa P S B I rfl (Dm L (l.ev U)) v w λu D=>?_;generalize H:Value.tuple #[u,.bool (Ag m n).isSome]=G;have q:Le d (d.new d.w G):=Le.new (Ext.refl _ _);refine j G (.own J.nx) _ (d.new d.w G) o A1 (i.trans q) (l.new (A1:=[]) (s:=.tp [.dat e ((Ag m n).getD Q),.prp ((Ag m n).isSome=φ) inferInstance]) (Ext.refl _ _) ⟨rfl,[u,.bool (Ag m n).isSome],(d.BA _ _).trans H.symm,.cons (show rp Y.toUS e _ _ u _ from Ff q.ext D) (.cons ?_ .nil)⟩ l.st) ?_ a
     .show Value.bool _=Value.bool _;cases hms:(Ag m n).isSome<;>simp
     .rw[<-l.n];exact⟨a4 _,(d.BA _ _).symm⟩
   grind
  grind
 grind
def A3r(c:Cf Y)(t:TypeId)(K:AV Y->Cf Y->Prop):Prop:=cls c λc=>match Sp Y.P t with
 |some (kt,et)=>match Y.ty kt,Y.ty et with
  |some k,ν e=>∀r,c.H r=δ->K (.dat .mref (ν r)) {c with H:=Ac c.H r (.mp k e [])}
  |_,_=>False
 |none=>False
theorem Aua(h:RG g0 T c f g AH A)(l:A3r c t K):Qz g0 T f g.w (.makeMap t δ) K g:=by
 intro N M R P Q I X L V n;obtain⟨u,s,m,O,l,G,p,j,_,o⟩:=DA h l;rw[<-G];split at l
 .split at l
  .rename_i k e U W;letI:AT (den Y.D k):=RT Y.toUS k
   letI:AT (den Y.D e):=RT Y.toUS e
   have E:=j.hr;rw[o]at E;refine Zt (den Y.D k) (den Y.D e) j.st λv S y x D B=>?_;obtain⟨b,z,F,rfl,rfl,_⟩:=@C3.ex _ _ (RT Y.toUS k) (RT Y.toUS e) _ _ _ _ _ B;let C:B3:={s with w:=y}
   have d:Le s C:=⟨x,a3 _,λ_ _=>rfl,rfl⟩
   have r:Ip (Ra Y) s.I y u.H m:=Ip.mono E x;have q:(Ra Y).ob (.mp k e []) s.I y [(b,.map z F)] b:=B;refine n _ (.dat .mref (ν b)) {u with H:=Ac u.H b (.mp k e [])} C ([(b,.map z F)]++m) O (p.trans d) ⟨j.n,j.le.trans x,by grind,?_,j.sg.mono d,j.hs.mono d,d.pt j.pt,λi a J=>(j.fr i a J).mono d⟩ (LC.2 rfl) (l b (Ip.fresh r q D));show HR _ _ _ _ u.op;rw[o];exact Ip.new r q
  grind
 grind
def upR(c:Cf Y)(t:TypeId)(x y z:Operand)(K:AV Y->Cf Y->Prop):Prop:=cls c λc=>match Sp Y.P t,E9 c x,E9 c y,E9 c z with
 |some (kt,et),ν (.dat .mref p),ν b,ν d=>match Y.ty kt,Y.ty et with
  |some k,ν e=>match VS k b,VS e d with
   |some kd,ν ed=>Fx (Y.km kt k) (∃r,p=ν r/\∃m,c.H r=ν (.mp k e m)/\K (.val undef) {c with H:=Ac c.H r (.mp k e (@C4 _ _ (I4 Y k) m kd ed))})
   |_,_=>False
  |_,_=>False
 |_,_,_,_=>False
theorem Ani(h:RG g0 T c f g AH A){z:Operand}(a:upR c t x y z K):Qz g0 T f g.w (.mapUpdate t x y z) K g:=by
 intro N W R Kw os G ty V af j;obtain⟨c1,q,F,A1,a,X,i,o,_,u⟩:=DA h a;rw[<-X];split at a
 .rename_i kt et p b d Q J M I;split at a
  .rename_i k e E H;split at a
   .rename_i L O Z he;obtain⟨s,r,hp,m,B,a⟩:=AJ a;have hT:=Abg (e:=e) Q s;obtain⟨B1,B2,ho,D,n⟩:=o.mr u B;have S:ev f x=.map (ν r):=by have:=LC.1 (o.ev J);rw[this,hp]
    letI:AT (den Y.D k):=RT Y.toUS k
    letI:AT (den Y.D e):=RT Y.toUS e
    letI:DecidableEq (den Y.D k):=I4 Y k
    refine Ads hT ho D S rfl rfl (Dm Z (o.ev M)) (Dm he (o.ev I)) λU v P s1 C=>?_;have l:Le q {q with w:=v}:=⟨P,a3 _,λ_ _=>rfl,rfl⟩
    exact j undef (.val undef) _ {q with w:=v} _ A1 (i.trans l) (n U {q with w:=v} (C4 m L O) l rfl C s1) rfl a
   grind
  grind
 grind
def dlR(c:Cf Y)(t:TypeId)(x y:Operand)(K:AV Y->Cf Y->Prop):Prop:=cls c λc=>match Sp Y.P t,E9 c x,E9 c y with
 |some (kt,et),ν (.dat .mref p),ν b=>match Y.ty kt,Y.ty et with
  |some k,ν e=>match VS k b with
   |some kd=>Fx (Y.km kt k) (∃r,p=ν r/\∃m,c.H r=ν (.mp k e m)/\K (.val (.tuple #[])) {c with H:=Ac c.H r (.mp k e (@Dl _ _ (I4 Y k) m kd))})
   |_=>False
  |_,_=>False
 |_,_,_=>False
theorem A0u(h:RG g0 T c f g AH A){at_:Array TypeId}(s:at_[0]?=ν t)(a:dlR c t x y K):Qz g0 T f g.w (.call ⟨.builtin .delete,#[x,y],at_⟩) K g:=by
 intro N H R Kw os F ty W af i;obtain⟨c1,n,AH1,S,a,G,d,o,_,B⟩:=DA h a;rw[<-G];split at a
 .rename_i kt et p b O I L;split at a
  .rename_i k e D E;split at a
   .rename_i X U;obtain⟨q,r,hp,m,v,a⟩:=AJ a;have V:=Abg (e:=e) O q;obtain⟨B1,B2,Z,C,l⟩:=o.mr B v;have P:ev f x=.map (ν r):=by have:=LC.1 (o.ev I);rw[this,hp]
    letI:AT (den Y.D k):=RT Y.toUS k
    letI:AT (den Y.D e):=RT Y.toUS e
    letI:DecidableEq (den Y.D k):=I4 Y k
    refine Adt V Z C P rfl (Dm U (o.ev L)) s λQ u J M z=>?_;have j:Le n {n with w:=u}:=⟨J,a3 _,λ_ _=>rfl,rfl⟩
    exact i _ (.val (.tuple #[])) _ {n with w:=u} _ S (d.trans j) (l Q {n with w:=u} (Dl m X) j rfl z M) rfl a
   grind
  grind
 grind
def lnR(c:Cf Y)(t:TypeId)(x:Operand)(K:AV Y->Cf Y->Prop):Prop:=cls c λc=>match Sp Y.P t,E9 c x with
 |some (kt,et),ν (.dat .mref p)=>match Y.ty kt,Y.ty et with
  |some k,ν e=>Fx (Y.km kt k) (∃r,p=ν r/\∃m:List (den Y.D k×den Y.D e),c.H r=ν (.mp k e m)/\(τ m<=9223372036854775807/\K (.nat (τ m)) c))
  |_,_=>False
 |_,_=>False
theorem Azs(h:RG g0 T c f g AH A){at_:Array TypeId}(n:at_[0]?=ν t)(a:lnR c t x K):Qz g0 T f g.w (.call ⟨.builtin .len,#[x],at_⟩) K g:=by
 intro N G R X Q F V C P b;obtain⟨w,L,j,J,a,z,d,o,_,l⟩:=DA h a;rw[<-z];split at a
 .rename_i W U p D y;split at a
  .rename_i k e O M;obtain⟨i,r,v,m,s,B,a⟩:=AJ a;have H:=Abg (e:=e) D i;obtain⟨Z,S,E,q,u⟩:=o.mr l s;have I:ev f x=.map (ν r):=by have:=LC.1 (o.ev y);rw[this,v]
   letI:AT (den Y.D k):=RT Y.toUS k
   letI:AT (den Y.D e):=RT Y.toUS e
   letI:DecidableEq (den Y.D k):=I4 Y k
   exact Apa E q I H n (b _ (.nat (τ m)) w L j J d o ⟨rfl,B⟩ a)
  grind
 grind
end
end
section
inductive Sh1 where
 |dat (t:Ty)
 |own (t:Ty)
inductive Sh where
 |one (s:Sh1)
 |nat
 |map (k e:Ty)
 |blk (l:List Sh1)
 |arr (t:Ty)
structure LA where
 vars:List (Nat×Sh)
 BX:List Nat
 heap:Bool
structure Env(Y:Sys) where
 N:Nat
 Pf:TypeId->Option (List Ty×List Ty)
 sigs:FuncId->Option Bd
 pf:(q:FuncId)->Option (PF Y q)
 X:Vg Y
 lp:List (Nat×LA)
 jn:List (Nat×LA)
 pr:List (Nat×Nat)
 im:List Nat
 wr:List Nat:=[]
 oc:List Nat:=[]
 tk:List Nat:=[]
 hd:List (Nat×List Nat):=[]
 tw:List Nat:=[]
 il:(q:FuncId)->Option (Vh Y q):=λ_=>δ
section
variable {Y:Sys}
def Auv(c:Cf Y):AV Y->Cf Y
 | .own i=>match IT c.sg i with
  |some (.sl _ _)=>c.frz i
  |_=>c
 | .sub i _ _=>c.frz i
 |_=>c
def Ajk(c:Cf Y):List (AV Y)->Cf Y
 | []=>c
 |a::l=>Ajk (Auv c a) l
def PQ(c:Cf Y)(x:Operand):Cf Y:=match E9 c x with
 |some a=>Auv c a
 |none=>c
def ZB(c:Cf Y):List Operand->Cf Y
 | []=>c
 |x::l=>ZB (PQ c x) l
variable {g0 g:B3} {T AH A:Bi} {c:Cf Y} {f:Fr}
theorem Ajl(h:RG g0 T c f g AH A)(a:AV Y):∃g' A',g'.w=g.w/\Le g g'/\RG g0 T (Auv c a) f g' AH A':=by
 unfold Auv;split
 .split
  .obtain⟨g',A',b,_,e,d⟩:=h.frz _;exact⟨g',A',b,e,d⟩
  .exact⟨g,A,rfl,Le.refl _,h⟩
 .obtain⟨g',A',b,_,e,d⟩:=h.frz _;exact⟨g',A',b,e,d⟩
 .exact⟨g,A,rfl,Le.refl _,h⟩
theorem X0{g0:B3}{T AH:Bi}{f:Fr}:∀(l:List (AV Y)){g:B3}{A:Bi}{c:Cf Y},RG g0 T c f g AH A->∃g' A',g'.w=g.w/\Le g g'/\RG g0 T (Ajk c l) f g' AH A'
 | [],g,A,c,h=>⟨g,A,rfl,Le.refl _,h⟩
 |a::l,g,A,c,h=>by obtain⟨p,o,n,k,d⟩:=Ajl h a;obtain⟨i,e,m,b,j⟩:=X0 l d;exact⟨i,e,m.trans n,k.trans b,j⟩
theorem K9(h:RG g0 T c f g AH A)(x:Operand):∃g' A',g'.w=g.w/\Le g g'/\RG g0 T (PQ c x) f g' AH A':=by
 unfold PQ;split
 .exact Ajl h _
 .exact⟨g,A,rfl,Le.refl _,h⟩
theorem PO{g0:B3}{T AH:Bi}{f:Fr}:∀(l:List Operand){g:B3}{A:Bi}{c:Cf Y},RG g0 T c f g AH A->∃g' A',g'.w=g.w/\Le g g'/\RG g0 T (ZB c l) f g' AH A'
 | [],g,A,c,h=>⟨g,A,rfl,Le.refl _,h⟩
 |a::l,g,A,c,h=>by obtain⟨p,o,n,k,d⟩:=K9 h a;obtain⟨i,e,m,b,j⟩:=PO l d;exact⟨i,e,m.trans n,k.trans b,j⟩
def Auw(c:Cf Y):List AK->List Operand->Cf Y
 | .dat _::ks,x::l=>Auw (PQ c x) ks l
 |_::ks,_::l=>Auw c ks l
 |_,_=>c
theorem Abu{g0:B3}{T AH:Bi}{f:Fr}:∀(ks:List AK)(l:List Operand){g:B3}{A:Bi}{c:Cf Y},RG g0 T c f g AH A->∃g' A',g'.w=g.w/\Le g g'/\RG g0 T (Auw c ks l) f g' AH A'
 | .dat _::ks,x::l,g,A,c,h=>by obtain⟨o,n,j,m,k⟩:=K9 h x;obtain⟨i,b,e,a,d⟩:=Abu ks l k;exact⟨i,b,e.trans j,m.trans a,d⟩
 |.own _::ks,_::l,g,A,c,h|.map _ _::ks,_::l,g,A,c,h|.mob::ks,_::l,g,A,c,h|.del _::ks,_::l,g,A,c,h|.fbx _ _::ks,_::l,g,A,c,h|.fn _ _::ks,_::l,g,A,c,h=>Abu ks l h
 | [],_,g,A,c,h=>⟨g,A,rfl,Le.refl _,by cases ‹List Operand›<;>exact h⟩
 | .dat _::_,[],g,A,c,h | .own _::_,[],g,A,c,h | .map _ _::_,[],g,A,c,h | .mob::_,[],g,A,c,h | .del _::_,[],g,A,c,h | .fn _ _::_,[],g,A,c,h | .fbx _ _::_,[],g,A,c,h=>⟨g,A,rfl,Le.refl _,h⟩
def Aqn(sigs:FuncId->Option Bd)(c:Cf Y)(cl:Operand)(l:List Operand):Cf Y:=match cl with
 | .func q=>match sigs q with
  |some σ=>Auw c σ.args l
  |none=>c
 |_=>ZB c l
theorem Auy{sigs:FuncId->Option Bd}(h:RG g0 T c f g AH A)(a:Operand)(l:List Operand):∃g' A',g'.w=g.w/\Le g g'/\RG g0 T (Aqn sigs c a l) f g' AH A':=by
 unfold Aqn;split
 .split
  .exact Abu _ _ h
  .exact⟨g,A,rfl,Le.refl _,h⟩
 .exact PO _ h
def Ajq(c:Cf Y)(t:TypeId)(ps:Array (Nat×Operand)):Cf Y:=match Y.ty t with
 |some _=>ZB c (ps.toList.map (·.2))
 |none=>c
theorem Ael(h:RG g0 T c f g AH A)(t:TypeId)(ps:Array (Nat×Operand)):∃g' A',g'.w=g.w/\Le g g'/\RG g0 T (Ajq c t ps) f g' AH A':=by
 unfold Ajq;split
 .exact PO _ h
 .exact⟨g,A,rfl,Le.refl _,h⟩
def VN(c:Cf Y)(t:TypeId)(a:AV Y):Cf Y:=match Y.ty t with
 |some (.u _)=>match a with
  | .adr i _=>match IT c.sg i with
   |some (.blk cs)=>Ajk c cs
   |_=>c
  |_=>c
 |_=>c
theorem Wj(h:RG g0 T c f g AH A)(t:TypeId)(a:AV Y):∃g' A',g'.w=g.w/\Le g g'/\RG g0 T (VN c t a) f g' AH A':=by
 unfold VN;split
 .split
  .split
   .exact X0 _ h
   .exact⟨g,A,rfl,Le.refl _,h⟩
  .exact⟨g,A,rfl,Le.refl _,h⟩
 .exact⟨g,A,rfl,Le.refl _,h⟩
def hpA(w:Nat):AV Y->AV Y
 | .hp i b o=>match an i w with
  |true=>.adr i o
  |false=>.hp i b o
 |a=>a
variable {a:AV Y}
theorem Aqd{w:Nat}{v:Value}(h:AR g a v):AR g (hpA w a) v:=by
 unfold hpA;split
 .split
  .exact⟨h.1,_,h.2.1,h.2.2⟩
  omega
 omega
def hpB:AV Y->AV Y
 | .hp w _ o=>.adr w o
 |a=>a
theorem Aqc{v:Value}(h:AR g a v):AR g (hpB a) v:=by
 unfold hpB;split
 .exact⟨h.1,_,h.2.1,h.2.2⟩
 omega
def hpF(w:Nat):List (Nat×AV Y)->List (Nat×AV Y)
 | []=>[]
 |p::l=>(p.1,hpA w p.2)::hpF w l
theorem Ag5{w i:Nat}{b:AV Y}:∀{l:List (Nat×AV Y)},Iz (hpF w l) i=ν b->∃a,Iz l i=ν a/\b=hpA w a
 | [],h=>by grind[hpF,Iz]
 |p::l,h=>by simp only[hpF,Iz]at h ⊢;by_cases e:p.1=i;all_goals simp_all[Ag5]
def Anu(c:Cf Y):Cf Y:=match c.op with
 |some o=>match IT c.sg o.i with
  |some (.blk cs)=>Ajk {c with fr:=hpF o.i c.fr,H:=CI c.H o.b,op:=δ} cs
  |_=>c
 |none=>c
theorem As5(h:RG g0 T c f g AH A):∃g' A',g'.w=g.w/\Le g g'/\RG g0 T (Anu c) f g' AH A':=by
 unfold Anu;split
 .rename_i o u;split
  .rename_i E y;have q:=h.hr;rw[u]at q;obtain⟨t,I,G,w⟩:=q;obtain⟨F,D,s,_,⟨x,n,e,rfl,d,_⟩,_⟩:=h.sg.take y;rw[w]at d;have j:x=o.b:=by grind
   subst j;have k:(o.b,Obj.cells n e (0,0))∈A:=s.symm.mem_iff.1 (by simp);have m:∀p∈AH,p.1≠o.b:=λp l z=>by have r:=h.st.nodup;rw[au,ap]at r;exact r.2.2 p.1 (ak l) o.b (b9.2 ⟨_,a6 _ k,rfl⟩) z
   have v:RG g0 T {c with fr:=hpF o.i c.fr,H:=CI c.H o.b,op:=δ} f g AH A:=⟨h.n,h.le,h.st,TE t m,h.sg,h.hs,h.pt,λi b B=>by obtain⟨a,C,rfl⟩:=Ag5 B;exact Aqd (h.fr i a C)⟩
   exact X0 _ v
  .exact⟨g,A,rfl,Le.refl _,h⟩
 .exact⟨g,A,rfl,Le.refl _,h⟩
def tkW(c:Cf Y)(t:TypeId)(a:AV Y)(k:AV Y->Cf Y->Prop):Prop:=match c.op with
 |some o=>match IT c.sg o.i with
  |some (.blk cs)=>match hpB a with
   | .adr i p=>match an i o.i with
    |true=>Tg t cs p λb=>k b {c with fr:=hpF o.i c.fr,H:=CI c.H o.b,op:=δ,sg:=G4 c.sg o.i}
    |false=>False
   |_=>False
  |_=>False
 |none=>False
variable {x:Operand} {k:AV Y->Cf Y->Prop}
theorem Axw(h:RG g0 T c f g AH A){t ty:TypeId}(j:tkW c t a k)(Q:AR g a (ev f x)):∃v b c' A',k b c'/\AR g b v/\LQ Y.P f (.load t x) ty v g.w/\RG g0 T c' f g AH A':=by
 unfold tkW at j;split at j
 .rename_i o R;split at j
  .rename_i X K;split at j
   .rename_i i p F;split at j
    .rename_i n;have n:i=o.i:=a7 n;subst n;have r:=Aqc Q;rw[F]at r;obtain⟨_,U,M,w⟩:=r;have D:=h.hr;rw[R]at D;obtain⟨P,W,Z,G⟩:=D;obtain⟨V,I,l,_,s,z⟩:=h.sg.take K;obtain⟨v,b,O,J,L⟩:=Aat (ty:=ty) j s M w;obtain⟨H,B,e,rfl,d,_⟩:=s;rw[G]at d;have q:H=o.b:=by grind
     subst q;have u:(o.b,Obj.cells B e (0,0))∈A:=l.symm.mem_iff.1 (by simp);have y:∀p∈AH,p.1≠o.b:=λp m S=>by have E:=h.st.nodup;rw[au,ap]at E;exact E.2.2 p.1 (ak m) o.b (b9.2 ⟨_,a6 _ u,rfl⟩) S
     have C:=(h.st.perm (FU l AH)).drop;refine⟨v,b,_,I,O,J,L g.w λp m=>?_,⟨h.n,h.le,C,TE P y,z,h.hs,h.pt,λi b N=>by obtain⟨a,w,rfl⟩:=Ag5 N;exact Aqd (h.fr i a w)⟩⟩
     exact(h.st.own p (List.mem_append_right _ (a6 _ (l.symm.mem_iff.1 (a6 _ m))))).1
    grind
   grind
  grind
 grind
def inD:Option Tmp->List Nat->Bool
 |some d,l=>N0 d l
 |none,_=>ψ
def A1a(c:Cf Y)(e:TypeId)(a:AV Y)(k:AV Y->Cf Y->Prop):Prop:=match Y.ty e with
 |some T=>match VS T a with
  |some d=>k (.del T d 0) c
  |none=>False
 |none=>False
theorem Avp{T0:Bi}(h:RG g0 T0 c f g AH A){e:TypeId}(l:A1a c e a k)(E:AR g a (ev f x)):Qz g0 T0 f g.w (.box e x) k g:=by
 intro N u R K J F H C L m;unfold A1a at l;split at l
 .rename_i T M;split at l
  .rename_i d v;letI:AT (den Y.D T):=RT Y.toUS T
   refine Ay6 (α:=den Y.D T) h.st (Dm v E) rfl λp t r s z G n D=>?_;have j:Le g {g with I:=t,w:=r}:=⟨s,a3 _,λ_ _=>rfl,rfl⟩
   obtain⟨b,q,B⟩:=p;have o:B=δ:=n.1;subst o;exact m _ (.del T d 0) c {g with I:=t,w:=r} AH A j ⟨h.n,h.le.trans s,z,h.hr.mono j,h.sg.mono j,h.hs.mono j,j.pt h.pt,λi a y=>(h.fr i a y).mono j⟩ ⟨b,q,_,D,n,G,rfl⟩ l
  grind
 grind
def A1b(sigs:FuncId->Option Bd)(Pf:TypeId->Option (List Ty×List Ty))(c:Cf Y)(e:TypeId)(a:AV Y)(k:AV Y->Cf Y->Prop):Prop:=match Pf e with
 |some (aE,rs)=>match asF sigs UB c.sg aE rs a with
  |some F=>k (.fbx aE rs F) c
  |none=>False
 |none=>False
theorem Avq{sigs:FuncId->Option Bd}{Pf:TypeId->Option (List Ty×List Ty)}{T0:Bi}(h:RG g0 T0 c f g AH A){e:TypeId}(l:A1b sigs Pf c e a k)(G:AR g a (ev f x)):Qz g0 T0 f g.w (.box e x) k g:=by
 intro N u R K H E J D L m;unfold A1b at l;split at l
 .rename_i y r M;split at l
  .rename_i F s;have t:=Ahl s h.sg G;obtain⟨n,z⟩:=h.st.alloc (.cells (ev f x).cells e);obtain⟨o,C⟩:=z.freeze;let q:B3:={g with I:=λb=>g.I b∨∃p,p∈[(g.w.heap.size,Obj.cells (ev f x).cells e)]/\p.1=b,w:=g.w.alloc (.cells (ev f x).cells e)}
   have d:Le g q:=⟨n.trans o,a3 _,λ_ _=>rfl,rfl⟩
   refine Ao (v:=.pointer (ν ⟨g.w.heap.size,0,δ⟩)) ?_ (m _ (.fbx y r F) c q AH A d ⟨h.n,h.le.trans (n.trans o),C,h.hr.mono d,h.sg.mono d,h.hs.mono d,d.pt h.pt,λi a B=>(h.fr i a B).mono d⟩ ⟨g.w.heap.size,0,ev f x,FvR.mono Y (n.trans o) t,⟨rfl,λj O=>?_⟩,.inr ⟨_,ay.2 rfl,rfl⟩,rfl⟩ l)
   .rfl
   grind[Bz,heap_alloc_new]
  grind
 grind
def lkD:List (Nat×Nat)->Option Tmp->Option Nat
 |_,δ|[],_=>δ
 |p::l,ν d=>match an p.1 d with
  |true=>ν p.2
  |false=>lkD l (ν d)
def Avi(c:Cf Y)(pr:Option Nat)(k:Cf Y->Prop):Prop:=match pr with
 |none=>k c
 |some _=>cls c k
theorem Aj7(h:RG g0 T c f g AH A){pr:Option Nat}{k:Cf Y->Prop}(a:Avi c pr k):∃c' g' AH' A',k c'/\g'.w=g.w/\Le g g'/\RG g0 T c' f g' AH' A':=by
 unfold Avi at a;split at a
 .exact⟨c,g,AH,A,a,rfl,Le.refl _,h⟩
 .obtain⟨c',g',AH',A',e,b,i,d,_⟩:=DA h a;grind
def A69:AV Y->Bool
 | .el _ _ _ _=>φ
 |_=>ψ
def pfC(E:Env Y):Op->Option ((q:FuncId)×PF Y q×Array Operand)
 | .call ⟨.value (.func q),aE,_⟩=>match E.pf q with
  |some p=>ν ⟨q,p,aE⟩
  |none=>δ
 |_=>δ
variable {E:Env Y}
theorem Agn{o:Op}{r:(q:FuncId)×PF Y q×Array Operand}(h:pfC E o=ν r):∃at_,o=.call ⟨.value (.func r.1),r.2.2,at_⟩:=by unfold pfC at h;grind
def pcX(c:Cf Y)(r:(q:FuncId)×PF Y q×Array Operand)(K:AV Y->Cf Y->Prop):Prop:=match evL c r.2.2.toList with
 |some l=>pfX r.2.1 c l K
 |none=>False
theorem Ago(h:RG g0 T c f g AH A){r:(q:FuncId)×PF Y q×Array Operand}{K:AV Y->Cf Y->Prop}(b:pcX c r K):∃v a c' g',K a c'/\g'.w=g.w/\Le g g'/\RG g0 T c' f g' AH A/\AR g' a v/\∀w,Sx g w->Calls Y.P r.1 ⟨r.2.2.toList.map (ev f)⟩ w λe w'=>e=.returned v/\w'=w:=by
 unfold pcX at b;split at b
 .rename_i l d;exact Ayo h b (PY h d)
 grind
def stF(E:Env Y)(c:Cf Y)(t:TypeId)(x y:Operand):Option ((Cf Y->Prop)->Prop):=match E.Pf t,x with
 |some (aE,rs),.tmp p=>match Iz c.fr p,E9 c y with
  |some (.adr i 0),ν b=>match IT c.sg i,asF E.sigs UB c.sg aE rs b with
   |some (.blk [_]),ν F=>ν λk=>Fx (Q5 Y.P t ψ 1) (k (({c with sg:=G4 c.sg i}:Cf Y).set p (.fbx aE rs F)))
   |_,_=>δ
  |_,_=>δ
 |_,_=>δ
theorem Ax3(h:RG g0 T c f g AH A){t:TypeId}{y:Operand}{z:(Cf Y->Prop)->Prop}{kk:AV Y->Cf Y->Prop}(m:stF E c t x y=ν z)(S:z λc'=>kk (.val undef) c'):Qz g0 T f g.w (.store t x y) kk g:=by
 intro N ops R K os dst ty pos af C;unfold stF at m;split at m
 .rename_i J L p hty;split at m
  .rename_i i b hp hb;split at m
   .rename_i a0 F hs hF;cases m;obtain⟨ht,S⟩:=AJ S;obtain⟨A1,A2,h1,hin,⟨O,H,e,rfl,Q,hf⟩,V⟩:=h.sg.take hs;have W:=h.st.perm (FU h1 AH);obtain⟨_,b1,D,hv⟩:=h.fr p _ hp;rw[Q]at D;cases D;have r:=Ahl hF h.sg (h.ev hb);have l:(ev f y).cells=#[ev f y]:=by obtain⟨⟨q,n,P,e⟩,_⟩:=r;rw[e];rfl
    have B:(ev f y).oneCell'=φ:=by obtain⟨⟨q,n,P,e⟩,_⟩:=r;rw[e];rfl
    have G:H.size=1:=by have:=hf.len;grind
    obtain⟨X,s,k1,k2,Z,k4⟩:=storeCells (o:=0) ht W (by rw[l];rfl) (by grind) (by omega);obtain⟨e2,s2⟩:=Z.freeze;have d:Le g {g with I:=λc=>g.I c∨∃p∈[(O,Obj.cells s e (0,0))],p.1=c,w:=X}:=⟨k2.trans e2,a3 _,λ_ _=>rfl,rfl⟩
    have u:s=#[ev f y]:=by grind
    refine NW (by simp_all[execOp,ev]) (C undef (.val undef) (({c with sg:=G4 c.sg i}:Cf Y).set p (.fbx J L F)) {g with I:=λc=>g.I c∨∃p∈[(O,Obj.cells s e (0,0))],p.1=c,w:=X} AH A2 d ⟨h.n,h.le.trans d.ext,s2,h.hr.mono d,V.mono d,h.hs.mono d,d.pt h.pt,λj a k=>?_⟩ rfl S);by_cases v:p=j
    .subst v;have:a=.fbx J L F:=by have k:(if p=p then ν (AV.fbx J L F) else Iz c.fr p)=ν a:=k;grind
     subst this;refine⟨O,0,ev f y,FvR.mono Y d.ext r,⟨rfl,λj k=>?_⟩,.inr ⟨_,ay.2 rfl,rfl⟩,hv⟩;have M:=(Z.own _ (a6 _ (ay.2 rfl))).1;rw[l]at k ⊢;have U:j=0:=by grind
     subst U;subst u;rw[Bz M]
    .have k:(if p=j then ν (AV.fbx J L F) else Iz c.fr j)=ν a:=k;rw[GT v]at k;exact(h.fr j a k).mono d
   grind
  grind
 grind
def xop(E:Env Y)(o:Oper)(c:Cf Y)(k:Cf Y->Prop):Prop:=
 let K:AV Y->Cf Y->Prop:=λa c'=>c'.put E.N o.dst a k
 match o.op with
 | .load t x=>match E9 c x with
  |some (.del T d off)=>ldD t T d off λa=>K a c
  |some (.fbx aE rs F)=>Fx (Q5 Y.P t ψ 1) (K (.fn aE rs F) c)
  |some a=>match inD o.dst E.tk with
   |true=>match inD o.dst E.tw with
    |true=>Adj c t a λa c=>tkW c t a K
    |false=>Adj c t a λa c=>rdX (Anu c) t (hpB a) λb=>K b (Anu c)
   |false=>Adj c t a λa c=>rdX (VN c t a) t a λb=>K b (VN c t a)
  |none=>False
 | .store t x y=>match stF E c t x y with
  |some z=>z λc'=>K (.val undef) c'
  |none=>match E9 c x with
   |some a=>match A69 a with
    |true=>match E9 (PQ c y) y with
     |some b=>stX (PQ c y) t a b λc'=>K (.val undef) c'
     |none=>False
    |false=>Adj c t a λa c=>match E9 c y with
     |some b=>stX c t a b λc'=>K (.val undef) c'
     |none=>False
   |none=>False
 | .box e x=>match inD o.dst E.im with
  |true=>match E9 (PQ c x) x with
   |some a=>match E.Pf e with
    |none=>A1a (PQ c x) e a K
    |some _=>A1b E.sigs E.Pf (PQ c x) e a K
   |none=>False
  |false=>Avi c (lkD E.pr o.dst) λc=>match E9 c x with
   |some a=>A1d c (lkD E.pr o.dst) a K
   |none=>False
 | .alloc e=>Avi c (lkD E.pr o.dst) λc=>A1n c (lkD E.pr o.dst) e K
 | .buildSlice t n ps=>A1c (ZB c (ps.toList.map (·.2))) t n ps K
 | .makeSlice t x y=>mkX c t x y K
 | .makeFunc q fs cs=>mfX (ZB c cs.toList) q fs cs K
 | .slice t x lo hi mx=>slX c t x lo hi mx K
 | .makeMap t δ=>match Y.ty t with
  |some .mref=>A3r c t K
  |_=>mkM c t K
 | .lookup t x y b=>match Ap6 c x with
  |true=>luR c t x y b K
  |false=>luX c t x y b K
 | .mapUpdate t x y z=>match Ap6 c x with
  |true=>upR (PQ c z) t x y z K
  |false=>upM (PQ c z) t x y z K
 | .insert t x y z=>match Ap6 c x with
  |true=>upR (PQ c z) t x y z K
  |false=>upM (PQ c z) t x y z K
 | .call ⟨.builtin .delete,⟨[x,y]⟩,⟨t::_⟩⟩=>match Ap6 c x with
  |true=>dlR c t x y K
  |false=>dlM c t x y K
 | .call ⟨.builtin .len,⟨[x]⟩,⟨t::ts⟩⟩=>match Ap6 c x,A68 c x with
  |true,_=>lnR c t x K
  |false,φ=>lnM c t x K
  |false,ψ=>V6 c (.call ⟨.builtin .len,⟨[x]⟩,⟨t::ts⟩⟩) K
 | .build t ps=>V6 (Ajq c t ps) (.build t ps) K
 | .makeInterface t x=>V6 (PQ c x) (.makeInterface t x) K
 | .call ⟨.builtin .copy,⟨[x,y]⟩,⟨[t,_]⟩⟩=>cpX c t x y K
 | .call ⟨.builtin .clear,⟨[x]⟩,⟨[t]⟩⟩=>A05 c t x K
 | .call ⟨.builtin .append,⟨[x,y]⟩,⟨[t,u]⟩⟩=>Fx (an t u) (A1m c t x y K)
 | .call ⟨.value cl,aE,at_⟩=>match pfC E (.call ⟨.value cl,aE,at_⟩) with
  |some r=>pcX c r K
  |none=>match ilC E.il cl with
   |some r=>match c.op,inD o.dst E.oc with
    |some op,φ=>ilO E.X c op r aE K
    |_,_=>cls c λc=>ilX E.X c r aE K
   |none=>match (Aqn E.sigs c cl aE.toList).op,inD o.dst E.oc,cl with
    |some op,φ,.func q=>Arj E.sigs E.X (Aqn E.sigs c cl aE.toList) op q aE K
    |_,_,_=>cls (Aqn E.sigs c cl aE.toList) λc=>Arh E.sigs E.X c cl aE K
 | .binOp bo t x y u=>match inD o.dst E.wr with
  |true=>wrX c bo x y K
  |false=>V6 c (.binOp bo t x y u) K
 | .panic x=>cls c λc=>match E9 c x,c.op with
  |some (.ifc t T d),δ=>E.X t ⟨T,d⟩ c.H
  |_,_=>False
 |op=>V6 c op K
variable {o:Oper} {ops:Array Oper}
theorem Afz(h:RG g0 T c f g AH A){k:Cf Y->Prop}(hg:o.guard=δ)(i:xop E o c k){R:List PanicEntry->World->Prop}{K:Fr->World->Prop}{os:List Oper}(hR:Hy g0 T E.X R)(next:∀c' f' g' AH' A',Le g g'->RG g0 T c' f' g' AH' A'->k c'->WL Y.P E.N ops R ψ K os f' g'.w):WL Y.P E.N ops R ψ K (o::os) f g.w:=by
 obtain⟨n,P,ty,q,I,gd⟩:=o;simp only at hg;subst hg;have w:∀{s:B3},Le g s->∀v a c' g' AH' A',Le s g'->RG g0 T c' f g' AH' A'->AR g' a v->c'.put E.N n a k->WL Y.P E.N ops R ψ K os (Go.X.put E.N f n v) g'.w:=λ{s}hle1 v a c' g' AH' A' j l B hk=>by obtain⟨c2,g2,k1,k2,k3,k4,k5⟩:=l.put B hk;rw[<-k2];exact next c2 _ g2 _ _ ((hle1.trans j).trans k4) k5 k1
 have m:∀{c1:Cf Y}{s:B3}{AH y:Bi},s.w=g.w->Le g s->RG g0 T c1 f s AH y->∀{P:Op},Qz g0 T f s.w P (λa c'=>c'.put E.N n a k) s->WL Y.P E.N ops R ψ K (⟨n,P,ty,q,I,δ⟩::os) f g.w:=λp j l P he=>by rw[<-p];exact he E.N ops R K os n ty q I (w j)
 have O:∀{c1:Cf Y}{s:B3}{y:Bi},s.w=g.w->Le g s->RG g0 T c1 f s AH y->∀{P:Op},V6 c1 P (λa c'=>c'.put E.N n a k)->WL Y.P E.N ops R ψ K (⟨n,P,ty,q,I,δ⟩::os) f g.w:=λp j l P hv=>by obtain⟨v,a,c',g',Q,hw',hle',S,h3,h4⟩:=Ww (ty:=ty) l hv;rw[<-p];refine Ao (h4 _ (Sx.refl _) n q I δ) ?_;have:=w j v a c' _ AH _ hle' S h3 Q;rwa [hw']at this
 unfold xop at i;simp only at i;split at i
 .split at i
  .rename_i B;obtain⟨b,off,u,Q,S,h3,h4⟩:=h.ev B;obtain⟨v,a,W,X,V⟩:=Ag2 (ty:=ty) (k:=λa=>c.put E.N n a k) i Q S h3 h4;exact Ao (V _ (Sx.refl _) n q I δ) (w (Le.refl _) v a c g AH A (Le.refl _) h X W)
  .rename_i aE rs F B;obtain⟨ht,i⟩:=AJ i;obtain⟨v,Q,S⟩:=Ap0 (ty:=ty) ht (h.ev B);exact Ao (S _ (Sx.refl _) n q I δ) (w (Le.refl _) v _ c g AH A (Le.refl _) h Q i)
  .rename_i a _ _ B;split at i
   .split at i
    .obtain⟨a,c0,g0',M,A0,i,H,x,C,G⟩:=QJ h i (h.ev B);obtain⟨v,b,c1,y,W,X,V,l⟩:=Axw (ty:=ty) C i G;rw[<-H];exact Ao (V n q I δ) (w x v b _ g0' M y (Le.refl _) l X W)
    obtain⟨a,c0,g0',M,A0,i,H,x,C,G⟩:=QJ h i (h.ev B);obtain⟨s,y,p,j,l⟩:=As5 C;obtain⟨v,b,W,X,V⟩:=WR (ty:=ty) (k:=λb=>(Anu c0).put E.N n b k) l i (Aqc (G.mono j));rw[<-H,<-p];exact Ao (V n q I δ) (w (x.trans j) v b _ s M y (Le.refl _) l X W)
   obtain⟨a,c0,g0',M,A0,i,H,x,C,G⟩:=QJ h i (h.ev B);obtain⟨s,y,p,j,l⟩:=Wj C _ a;obtain⟨v,b,W,X,V⟩:=WR (ty:=ty) (k:=λb=>(VN c0 _ a).put E.N n b k) l i (G.mono j);rw[<-H,<-p];exact Ao (V n q I δ) (w (x.trans j) v b _ s M y (Le.refl _) l X W)
  .exact i.elim
 .split at i
  .rename_i z hz;exact m rfl (Le.refl _) h (Ax3 (kk:=λa c'=>c'.put E.N n a k) h hz i)
  .split at i
   .rename_i a B;split at i
    .split at i
     .rename_i b hb;obtain⟨s,y,p,j,l⟩:=K9 h _;exact m p j l (An0 (kk:=λa c'=>c'.put E.N n a k) l i ((h.ev B).mono j) (l.ev hb))
     .exact i.elim
    .obtain⟨a,c0,s,M,A0,i,H,x,C,G⟩:=QJ h i (h.ev B);split at i
     .rename_i b hb;exact m H x C (An0 (kk:=λa c'=>c'.put E.N n a k) C i G (C.ev hb))
     .exact i.elim
   .exact i.elim
 .split at i
  .split at i
   .rename_i a B;obtain⟨s,y,p,j,l⟩:=K9 h _;split at i
    .exact m p j l (Avp l i (l.ev B))
    .exact m p j l (Avq l i (l.ev B))
   .exact i.elim
  .obtain⟨c1,s,AH1,y,i,p,j,l⟩:=Aj7 h i;split at i
   .rename_i a B;exact m p j l (Avs l i (l.ev B))
   .exact i.elim
 .obtain⟨c1,s,AH1,y,i,p,j,l⟩:=Aj7 h i;exact m p j l (Avz l i)
 .obtain⟨s,y,p,j,l⟩:=PO _ h;exact m p j l (Avr l i)
 .exact m rfl (Le.refl _) h (Azl h i)
 .obtain⟨s,y,p,j,l⟩:=PO _ h;exact m p j l (Azp l i)
 .exact m rfl (Le.refl _) h (Ax6 h i)
 .split at i
  .exact m rfl (Le.refl _) h (Aua h i)
  .exact m rfl (Le.refl _) h (Azn h i)
 .split at i
  .exact m rfl (Le.refl _) h (Azr h i)
  .exact m rfl (Le.refl _) h (Azq h i)
 .obtain⟨s,y,p,j,l⟩:=K9 h _;split at i
  .exact m p j l (Ani l i)
  .exact m p j l (Anj l i)
 .obtain⟨s,y,p,j,l⟩:=K9 h _;split at i
  .exact m p j l (Ani l i).ins
  .exact m p j l (Anj l i).ins
 .split at i
  .exact m rfl (Le.refl _) h (A0u h rfl i)
  .exact m rfl (Le.refl _) h (A0v h rfl i)
 .split at i
  .exact m rfl (Le.refl _) h (Azs h rfl i)
  .exact m rfl (Le.refl _) h (Azt h rfl i)
  .exact O rfl (Le.refl _) h i
 .obtain⟨s,y,p,j,l⟩:=Ael h _ _;exact O p j l i
 .obtain⟨s,y,p,j,l⟩:=K9 h _;exact O p j l i
 .exact m rfl (Le.refl _) h (A0z h i)
 .exact m rfl (Le.refl _) h (Avj h i)
 .replace i:=AJ i;obtain⟨ht,i⟩:=i;have ht:=a7 ht;subst ht;exact m rfl (Le.refl _) h (Avy h i)
 .rename_i cl aE at_
  split at i
  .rename_i r l;obtain⟨at2,he⟩:=Agn l;cases he;obtain⟨v,a,c',g',k1,k2,k3,k4,k5,k6⟩:=Ago h i;refine Xe r.2.1.can rfl (Calls.mono (k6 g.w (Sx.refl g)) λe w' he=>?_);obtain⟨rfl,rfl⟩:=he;have:=w (Le.refl _) v a c' g' AH A k3 k4 k5 k1;rw[k2]at this;exact this
  split at i
  .rename_i r l;obtain rfl:=A0e l;split at i
   .rename_i P Z _;exact A0d h Z i E.N ops R K os n ty q I hR (w (Le.refl _))
   .obtain⟨c2,g2,U,A2,i,N,J,D,_⟩:=DA h i;rw[<-N];exact A0c D i E.N ops R K os n ty q I hR (w J)
  obtain⟨s,y,p,j,l⟩:=Auy (sigs:=E.sigs) h cl aE.toList;split at i
  .rw[<-p];exact Ari l (by assumption) i E.N ops R K os n ty q I hR (w j)
  obtain⟨c2,g2,U,A2,i,N,J,D,_⟩:=DA l i;rw[<-p,<-N];exact Arf D i E.N ops R K os n ty q I hR (w (j.trans J))
 .split at i
  .obtain⟨v,a,Q,S,h3⟩:=Axl h i;exact Ao (h3 ty n q I δ) (w (Le.refl _) v a c g AH A (Le.refl _) h S Q)
  .exact O rfl (Le.refl _) h i
 .obtain⟨c2,g2,U,A2,i,N,J,D,_⟩:=DA h i;split at i
  .rename_i t T d B Z;obtain⟨u,Q,S⟩:=D.ev B;have hH:=D.hr;rw[Z]at hH;rw[<-N];exact Atv Q (hR _ _ g2.I U c2.H t ⟨T,d⟩ u D.le (DQ D.st) hH rfl S i)
  .exact i.elim
 .exact O rfl (Le.refl _) h i
variable {j d:Nat}
theorem A2e(a:(ops[j]?).bind (·.dst)=ν d)(c:∀b,f d≠.bool b):yl ops f j=δ:=by unfold yl;rw[a];simp only
theorem YY{b:Bool}(a:o.guard=ν (j,b))(e:(ops[j]?).bind (·.dst)=ν d)(c:∀b,f d≠.bool b):Region.wanted o (yl ops f)=ψ:=by simp [Region.wanted,a,A2e e c]
def gop(E:Env Y)(o:Oper)(b t:Bool)(c:Cf Y)(k:Cf Y->Prop):Prop:=match b,t with
 |true,φ |false,ψ=>xop E {o with guard:=δ} c k
 |_,_=>c.put E.N o.dst (.val undef) k
def Ws(E:Env Y)(ops:Array Oper):List Oper->Cf Y->(Cf Y->Prop)->Prop
 | [],c,k=>k c
 |o::os,c,k=>match o.guard with
  |none=>xop E o c λc'=>Ws E ops os c' k
  |some (j,b)=>match (ops[j]?).bind (·.dst) with
   |some d=>match Aui (Iz c.fr d) with
    |true=>c.put E.N o.dst (.val undef) λc'=>Ws E ops os c' k
    |false=>match (Iz c.fr d).bind asB with
     |some (.kn t)=>gop E o b t c λc'=>Ws E ops os c' k
     |some (.pr p _)=>(p->gop E o b φ (c.set d (.val (.bool φ))) λc'=>Ws E ops os c' k)/\(¬p->gop E o b ψ (c.set d (.val (.bool ψ))) λc'=>Ws E ops os c' k)
     |none=>False
   |none=>False
theorem Ag6(h:RG g0 T c f g AH A){b t:Bool}{k:Cf Y->Prop}(u:o.guard=ν (j,b))(D:(ops[j]?).bind (·.dst)=ν d)(G:f d=.bool t)(i:gop E o b t c k){R:List PanicEntry->World->Prop}{K:Fr->World->Prop}{os:List Oper}(H:Hy g0 T E.X R)(next:∀c' f' g' AH' A',Le g g'->RG g0 T c' f' g' AH' A'->k c'->WL Y.P E.N ops R ψ K os f' g'.w):WL Y.P E.N ops R ψ K (o::os) f g.w:=by
 obtain⟨dst,q,n,l,p,L⟩:=o;simp only at u;subst u;have r:yl ops f j=ν t:=by unfold yl;rw[D];simp only[G]
 unfold gop at i;have m:b=t->xop E ⟨dst,q,n,l,p,δ⟩ c k->WL Y.P E.N ops R ψ K (⟨dst,q,n,l,p,ν (j,b)⟩::os) f g.w:=λe i=>by refine Ane ?_ (Afz h rfl i H next);subst e;simp [Region.wanted,r]
 have y:b≠t->c.put E.N dst (.val undef) k->WL Y.P E.N ops R ψ K (⟨dst,q,n,l,p,ν (j,b)⟩::os) f g.w:=λe i=>by
  obtain⟨x,F,I,B,J,z,C⟩:=h.put (a:=.val undef) (v:=undef) rfl i;refine Ah5 ?_ ?_
  .simp [Region.wanted,r];exact λh=>e h.symm
  .rw[<-B];exact next x _ F _ _ z C I
 split at i
 .exact m rfl i
 .exact m rfl i
 .refine y ?_ i;cases b<;>cases t<;>first|(intro h;cases h;done)|skip
  all_goals first|(rename_i s w;exact(s rfl rfl).elim)|(rename_i s w;exact(w rfl rfl).elim)|(rename_i s;exact(s rfl rfl).elim)
theorem SA{E:Env Y}{g0:B3}{T:Bi}{ops:Array Oper}{R:List PanicEntry->World->Prop}{K:Fr->World->Prop}(r:Hy g0 T E.X R){k:Cf Y->Prop}:∀(os:List Oper){g:B3}{AH A:Bi}{c:Cf Y}{f:Fr},RG g0 T c f g AH A->Ws E ops os c k->(∀c' f' g' AH' A',Le g g'->RG g0 T c' f' g' AH' A'->k c'->K f' g'.w)->WL Y.P E.N ops R ψ K os f g.w
 | [],g,AH,A,c,f,h,i,l=>l c f g AH A (Le.refl _) h i
 |o::os,g,AH,A,c,f,h,i,l=>by
  have e:∀c' f' g' AH' A',Le g g'->RG g0 T c' f' g' AH' A'->Ws E ops os c' k->WL Y.P E.N ops R ψ K os f' g'.w:=λc' f' g' AH' A' x P U=>SA r os P U λG M D z O s H F=>l G M D z O (x.trans s) H F;unfold Ws at i;split at i
  .rename_i q;exact Afz h q i r e
  .rename_i j b q;split at i
   .rename_i d u;have I:∀{p:BV},(Iz c.fr d).bind asB=ν p->f d=.bool p.val:=λ{p}m=>by
     cases B:Iz c.fr d with
     |none=>rw[B]at m;cases m
     |some a=>rw[B]at m;exact O4 m (h.fr d a B)
    split at i
    .rename_i y;have y:=Ai9 y λa J=>h.fr d a J;obtain⟨G,D,Q,S,V,N,L⟩:=h.put (a:=.val undef) (v:=undef) rfl i;refine Ah5 (YY q u y) ?_;rw[<-S];exact e G _ D _ _ N L Q
    split at i
    .rename_i t C;exact Ag6 h q u (I C) i r e
    .rename_i p w C;have n:=I C;by_cases m:p
     .have n:f d=.bool φ:=by rw[n];show Value.bool (@decide p w)=_;rw[@decide_eq_true p w m]
      exact Ag6 (h.cons (a:=.val (.bool φ)) n) q u n (i.1 m) r e
     .have n:f d=.bool ψ:=by rw[n];show Value.bool (@decide p w)=_;rw[@decide_eq_false p w m]
      exact Ag6 (h.cons (a:=.val (.bool ψ)) n) q u n (i.2 m) r e
    .exact i.elim
   .exact i.elim
end
end
end Go.Y
