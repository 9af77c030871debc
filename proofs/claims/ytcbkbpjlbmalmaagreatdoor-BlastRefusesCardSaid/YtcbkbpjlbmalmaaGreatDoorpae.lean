/-
  The Y layer, part i: reads of memory that may change. (Merged by program out of 4 texts.)
-/
import Derived.Test.YtcbkbpjlbmalmaaGreatDoorpad
namespace Go.Y
open Go Go.RowKit Go.X
section
section
variable {Y:Sys}
variable {P:Program} {f:Fr} {ty:TypeId} {w:World}
theorem Ae9{op:Op}{v:Value}(h:∀(dst:Option Tmp)(pos:String)(af:Array Edge)(gd:Option (Nat×Bool)),(execOp (ev f) ⟨dst,op,ty,pos,af,gd⟩).run P w=.ok (.value v) w):Yld P f op ty v w:=h
def Aj1(kn:Option Nat):List Hs->Nat->List Hs
 | [],_=>[]
 |h::l,w=>if h.w=w then (match h.n with |none=>{h with n:=kn} |some _=>h)::l else h::Aj1 kn l w
theorem An8{g:Gst}{kn:Option Nat}{w:Nat}:∀{l:List Hs},HsR g l->HsR g (Aj1 kn l w)
 | [],h=>h
 |x::l,h=>by
  unfold Aj1;by_cases hx:x.w=w
  .rw[if_pos hx];intro y hy;rcases List.mem_cons.1 hy with rfl|hy
   .split
    .exact h x List.mem_cons_self
    .exact h x List.mem_cons_self
   .exact h y (List.mem_cons_of_mem _ hy)
  .rw[if_neg hx];intro y hy;rcases List.mem_cons.1 hy with rfl|hy
   .exact h _ List.mem_cons_self
   .exact An8 (λz hz=>h z (List.mem_cons_of_mem _ hz)) y hy
def adA(c:Cf Y)(off:Nat)(kn:Option Nat)(k:AV Y->Cf Y->Prop):AV Y->Prop
 | .adr i o=>k (.adr i (o+off)) c
 | .del T x o=>k (.del T x (o+off)) c
 | .el i T j o=>k (.el i T j (o+off)) c
 | .hp w b o=>k (.hp w b (o+off)) (match kn with |none=>c |some n=>{c with hs:=Aj1 (some n) c.hs w})
 | .ptr w p=>match lkH c.hs w with
  |some h=>k (.hp w h.b off) (match kn with |none=>c |some n=>{c with hs:=Aj1 (some n) c.hs w})
  |none=>∃b,p=some b/\k (.hp w b off) {c with hs:=⟨w,b,kn⟩::c.hs}
 |_=>False
variable {g0 g:Gst} {T AH A:Own} {c:Cf Y}
theorem Are(hr:RG g0 T c f g AH A){off:Nat}{kn:Option Nat}{k:AV Y->Cf Y->Prop}{a:AV Y}{v:Value}(h:adA c off kn k a)(ha:AR g a v):∃b o d c',v=.pointer (some ⟨b,o,none⟩)/\k d c'/\AR g d (.pointer (some ⟨b,o+off,none⟩))/\RG g0 T c' f g AH A:=by
 have note:∀(kn:Option Nat)(w:Nat),RG g0 T (match kn with|none=>c|some n=>{c with hs:=Aj1 (some n) c.hs w}) f g AH A:=λkn w=>by
  cases kn with
  |none=>exact hr
  |some n=>exact⟨hr.n,hr.le,hr.st,hr.hr,hr.sg,An8 hr.hs,hr.pt,hr.fr⟩
 unfold adA at h;split at h
 .obtain⟨h1,b,h2,h3⟩:=ha;exact⟨b,_,_,_,h3,h,⟨h1,b,h2,rfl⟩,hr⟩
 .obtain⟨b,o,u,h1,h2,h3,h4⟩:=ha;exact⟨b,_,_,_,h4,h,⟨b,o,u,h1,h2,h3,by rw[Nat.add_assoc]⟩,hr⟩
 .obtain⟨h1,b,off',len,cap,h2,h3⟩:=ha;exact⟨b,_,_,_,h3,h,⟨h1,b,off',len,cap,h2,by rw[Nat.add_assoc]⟩,hr⟩
 .obtain⟨h1,h2,h3⟩:=ha;exact⟨_,_,_,_,h3,h,⟨h1,h2,rfl⟩,note _ _⟩
 .obtain⟨h1,h2,h3⟩:=ha;split at h
  .rename_i x hx;obtain⟨hm,hw⟩:=Al4 hx;obtain⟨h4,h5⟩:=hr.hs x hm;rw[hw]at h5;refine⟨_,0,_,_,h2.symm.trans h5,h,⟨h1,h5,by rw[Nat.zero_add]⟩,note _ _⟩
  .obtain⟨b,rfl,h⟩:=h;refine⟨_,0,_,_,h3,h,⟨h1,h2.trans h3,by rw[Nat.zero_add]⟩,⟨hr.n,hr.le,hr.st,hr.hr,hr.sg,λx hx=>?_,hr.pt,hr.fr⟩⟩;rcases List.mem_cons.1 hx with rfl|hx
   .exact⟨h1,h2.trans h3⟩
   .exact hr.hs x hx
 .exact h.elim
def Ad3(c:Cf Y):List Operand->Option (List (IntKind×Int))
 | []=>some []
 |x::l=>match (evA c x).bind asInt,Ad3 c l with
  |some p,some m=>some (p::m)
  |_,_=>none
def Avn(k:IntKind):List (IntKind×Int)->Bool
 | []=>true
 |p::l=>decide (p.1=k)&&Avn k l
def mnL(mx:Bool)(a:Int):List (IntKind×Int)->Int
 | []=>a
 |p::l=>mnL mx (if mx then max a p.2 else min a p.2) l
theorem Akr{g0 g:Gst}{T AH A:Own}{c:Cf Y}{f:Fr}(h:RG g0 T c f g AH A):∀{l:List Operand}{m:List (IntKind×Int)},Ad3 c l=some m->l.map (ev f)=m.map λp=>.int p.1 p.2
 | [],m,hm=>by cases hm;rfl
 |x::l,m,hm=>by
  unfold Ad3 at hm;split at hm
  .rename_i p m' h1 h2;cases hm;cases ha:evA c x with
   |none=>rw[ha]at h1;cases h1
   |some a=>
    rw[ha]at h1;have:=Jq (p:=p) h1 (h.ev ha);rw[List.map_cons,List.map_cons,this,Akr h h2]
  .cases hm
theorem Axw{P:Program}{w:World}{k:IntKind}(mx:Bool):∀(l:List (IntKind×Int))(a:Int),Avn k l=true->((l.map λp=>Value.int p.1 p.2).foldlM (if mx then Builtin.max2 else Builtin.min2) (.int k a)).run P w=.ok (.int k (mnL mx a l)) w
 | [],a,_=>rfl
 |p::l,a,h=>by
  simp only[Avn,Bool.and_eq_true,decide_eq_true_eq]at h;have ih:=Axw (P:=P) (w:=w) mx l (if mx then max a p.2 else min a p.2) h.2;simp only[List.map_cons,List.foldlM_cons,Sem.run_bind];cases mx with
  |true=>
   have h1:(Builtin.max2 (.int k a) (.int p.1 p.2)).run P w=.ok (.int k (max a p.2)) w:=by
    have:(if p.2>a then p.2 else a)=max a p.2:=by split<;>omega
    simp [Builtin.max2,this]
   simp only[if_true,h1,Result.andThen_ok]at ih ⊢;exact ih
  |false=>
   have h1:(Builtin.min2 (.int k a) (.int p.1 p.2)).run P w=.ok (.int k (min a p.2)) w:=by
    have:(if p.2<a then p.2 else a)=min a p.2:=by split<;>omega
    simp [Builtin.min2,this]
   simp only[Bool.false_eq_true,if_false,h1,Result.andThen_ok]at ih ⊢;exact ih
theorem Axx{k:IntKind}(mx:Bool):∀(l:List (IntKind×Int))(a:Int),InK k a->(∀p∈l,InK k p.2)->InK k (mnL mx a l)
 | [],_,h,_=>h
 |p::l,a,h,hl=>by
  refine Axx mx l _ ?_ (λq hq=>hl q (List.mem_cons_of_mem _ hq));have:=hl p List.mem_cons_self;cases mx
  .simp only[Bool.false_eq_true,if_false];unfold InK at *;omega
  .simp only[if_true];unfold InK at *;omega
theorem Apn{k:IntKind}:∀{l:List (IntKind×Int)},Avn k l=true->∀q∈l,q.1=k
 | [],_,q,hq=>by cases hq
 |p::l,h,q,hq=>by
  simp only[Avn,Bool.and_eq_true,decide_eq_true_eq]at h;rcases List.mem_cons.1 hq with rfl|hq
  .exact h.1
  .exact Apn h.2 q hq
def A1j(c:Cf Y):List Operand->List (IntKind×Int)->Bool
 | [],[]=>true
 |x::l,p::m=>(match isK x with |true=>decide (p.1.min<=p.2/\p.2<=p.1.max) |false=>(match evA c x with |some (.dat (.int _) _) |some (.nat _)=>true |_=>false))&&A1j c l m
 |_,_=>false
theorem Asu{g0 g:Gst}{T AH A:Own}{c:Cf Y}{f:Fr}(h:RG g0 T c f g AH A):∀{l:List Operand}{m:List (IntKind×Int)},Ad3 c l=some m->A1j c l m=true->∀p∈m,InK p.1 p.2
 | [],m,hm,_=>by cases hm;intro p hp;cases hp
 |x::l,m,hm,hr=>by
  unfold Ad3 at hm;split at hm
  .rename_i p m' h1 h2;cases hm;unfold A1j at hr;simp only[Bool.and_eq_true]at hr;intro q hq;rcases List.mem_cons.1 hq with rfl|hq
   .have h3:=hr.1;split at h3
    .simpa [InK] using h3
    .cases ha:evA c x with
     |none=>rw[ha]at h1;cases h1
     |some a=>
      rw[ha]at h1 h3;have h4:=h.ev ha;split at h3
      .rename_i hh;cases hh;cases h1;exact(Bq.1 h4).2
      .rename_i hh;cases hh;cases h1;have h5:IntKind.i64.min=-9223372036854775808:=by decide
       have h6:IntKind.i64.max=9223372036854775807:=by decide
       have:=h4.2;show InK .i64 _;unfold InK;omega
      .cases h3
   .exact Asu h h2 hr.2 q hq
  .cases hm
def A1d(c:Cf Y)(mx:Bool)(as:Array Operand)(k:AV Y->Prop):Prop:=match Ad3 c as.toList with
 |some (p::l)=>chk (Avn p.1 l&&A1j c as.toList (p::l)) (k (.dat (.int p.1) (mnL mx p.2 l)))
 |_=>False
variable {k:AV Y->Prop}
theorem Asr(h:RG g0 T c f g AH A){mx:Bool}{as:Array Operand}{at_:Array TypeId}(hx:A1d c mx as k):∃v a,k a/\AR g a v/\∀w',Yld Y.P f (.call ⟨.builtin (if mx then .max else .min),as,at_⟩) ty v w':=by
 unfold A1d at hx;split at hx
 .rename_i p l hm;obtain⟨hb,hx⟩:=Bj hx;simp only[Bool.and_eq_true]at hb;have hin:=Asu h hm hb.2;have hk:=Apn hb.1;refine⟨.int p.1 (mnL mx p.2 l),_,hx,Bq.2 ⟨rfl,Axx mx l _ (hin p List.mem_cons_self) (λq hq=>by rw[<-hk q hq];exact hin q (List.mem_cons_of_mem _ hq))⟩,λw'=>Ae9 λdst pos af gd=>?_⟩;have he:as.toList.map (ev f)=Value.int p.1 p.2::l.map λp=>Value.int p.1 p.2:=by rw[Akr h hm];rfl
  have hr:=Axw (P:=Y.P) (w:=w') mx l p.2 hb.1;cases mx with
  |true=>simp [execOp,resolve,invoke,builtin,Builtin.max_,he] ;simp only[if_true]at hr;rw[hr];rfl
  |false=>simp [execOp,resolve,invoke,builtin,Builtin.min_,he] ;simp only[Bool.false_eq_true,if_false]at hr;rw[hr];rfl
 .exact hx.elim
variable {x:Operand} {t:TypeId}
theorem Akw{as:Array TypeId}{e:TypeId}{a:Option Addr}{n cap:Nat}(hx:ev f x=.slice a n cap)(ht:P.underlying t=some (.slice e))(hat:as[0]?=some t):Yld P f (.call ⟨.builtin .len,#[x],as⟩) ty (.int .i64 n) w:=λdst pos af gd=>by simp [execOp,resolve,invoke,builtin,Builtin.len_,hat,hx,run_underlying ht,goInt]
theorem Avx{as:Array TypeId}{s:ByteArray}(hx:ev f x=.string s)(ht:P.underlying t=some .string)(hat:as[0]?=some t):Yld P f (.call ⟨.builtin .len,#[x],as⟩) ty (.int .i64 s.size) w:=λdst pos af gd=>by simp [execOp,resolve,invoke,builtin,Builtin.len_,hat,hx,run_underlying ht,goInt]
def dSl:TypeDesc->Bool
 | .slice _=>true
 |_=>false
theorem R7(h:Ka P t dSl=true):∃e,P.underlying t=some (.slice e):=by
 unfold Ka at h;split at h
 .rename_i d hd;cases d<;>simp [dSl]at h;exact⟨_,hd⟩
 .cases h
def A5j(c:Cf Y)(as:Array Operand)(at_:Array TypeId)(k:AV Y->Prop):Prop:=match as.toList,at_.toList with
 | [x],t::_=>match evA c x with
  |some (.dat (.sl _) xs)=>chk (Ka Y.P t dSl) (xs.length<=9223372036854775807->k (.nat xs.length))
  |some (.own i)=>match lkS c.sg i with
   |some (.sl _ xs)=>chk (Ka Y.P t dSl) (xs.length<=9223372036854775807->k (.nat xs.length))
   |_=>False
  |some (.val (.slice none 0 0))=>chk (Ka Y.P t dSl) (k (.nat 0))
  |some a=>match asS a with
   |some s=>chk (Ka Y.P t A13) (s.size<=9223372036854775807->k (.nat s.size))
   |none=>False
  |none=>False
 |_,_=>False
theorem RG.sl(h:RG g0 T c f g AH A){i:Nat}{t:Ty}{xs:List (den Y.D t)}(hi:lkS c.sg i=some (.sl t xs)):∃A1,OSl Y t g.I g.w A1 (g.μ i) xs/\∃A2,A.Perm (A1++A2)/\SgR g (Kc c.sg i) A2/\i<g.n:=by obtain⟨A1,A2,h1,h2,h3,h4⟩:=h.sg.take hi;exact⟨A1,h3,A2,h1,h4,h2⟩
theorem A1h(h:RG g0 T c f g AH A){as:Array Operand}{at_:Array TypeId}(hx:A5j c as at_ k):∃v a,k a/\AR g a v/\∀w',Yld Y.P f (.call ⟨.builtin .len,as,at_⟩) ty v w':=by
 unfold A5j at hx;split at hx
 .rename_i x t ts h1 h2;obtain⟨as⟩:=as;simp only at h1;subst h1;have hat:at_[0]?=some t:=by rw[<-Array.getElem?_toList,h2];rfl
  split at hx
  .rename_i e xs ha;obtain⟨ht,hx⟩:=Bj hx;obtain⟨e',ht⟩:=R7 ht;obtain⟨a,cap,hv,hc,hm,_⟩:=Abg.1 (h.ev ha);have hb:xs.length<=9223372036854775807:=by unfold Vw at hm;omega
   exact⟨_,_,hx hb,⟨rfl,hb⟩,λw'=>Akw hv ht hat⟩
  .rename_i i ha;split at hx
   .rename_i e xs hs;obtain⟨ht,hx⟩:=Bj hx;obtain⟨e',ht⟩:=R7 ht;obtain⟨A1,ho,_⟩:=h.sl hs;obtain⟨a,cap,hv,hb⟩:=@Cc.len _ (RT Y.toUS e) _ _ _ _ _ ho;exact⟨_,_,hx hb,⟨rfl,hb⟩,λw'=>Akw ((h.ev ha).2.trans hv) ht hat⟩
   .exact hx.elim
  .rename_i ha;obtain⟨ht,hx⟩:=Bj hx;obtain⟨e',ht⟩:=R7 ht;exact⟨_,_,hx,⟨rfl,by omega⟩,λw'=>Akw (h.ev ha) ht hat⟩
  .rename_i a _ _ _ ha;split at hx
   .rename_i s hs;obtain⟨ht,hx⟩:=Bj hx;have hv:=Ta.1 (E2 hs (h.ev ha));exact⟨_,_,hx hv.2,⟨rfl,hv.2⟩,λw'=>Avx hv.1 (Am9 ht) hat⟩
   .exact hx.elim
  .exact hx.elim
 .exact hx.elim
def aiI(P:Program)(t:TypeId):Option (Nat×Nat):=match P.underlying t with
 |some (.array n e)=>(P.info? e).bind λi=>if n<=1 then none else some (n,i.size)
 |_=>none
theorem A66{n s:Nat}(h:aiI P t=some (n,s)):∃e,P.underlying t=some (.array n e)/\(∀w,(sizeOf e).run P w=.ok s w)/\¬n<=1:=by
 unfold aiI at h;split at h
 .rename_i n' e hu;cases hi:P.info? e with
  |none=>rw[hi]at h;cases h
  |some i=>
   rw[hi]at h;simp only[Option.bind_some]at h;split at h
   .cases h
   .rename_i hn;injection h with h
    injection h with h1 h2
    subst h1 h2;exact⟨e,hu,λw=>by simp [sizeOf,typeInfo,hi],hn⟩
 .cases h
def A5z(c:Cf Y)(t:TypeId)(x y:Operand)(k:AV Y->Prop):Prop:=match aiI Y.P t with
 |some (n,s)=>match evA c x,y with
  |some (.adr i o),.const (.int _ (.ofNat j))=>chk (Nat.blt j n) (k (.adr i (o+j*s)))
  |_,_=>False
 |none=>match slI Y.P t,evA c y with
  |some (e,nb),some b=>match evA c x with
   |some (.dat (.sl T) xs)=>chk (slB Y.P t e (sz Y.toUS T) nb) (R6 y b (ixA b xs.length λj h=>k (.del T xs[j] 0)))
   |some (.own i)=>match lkS c.sg i with
    |some (.sl T xs)=>chk (slB Y.P t e (sz Y.toUS T) nb) (R6 y b (ixA b xs.length λj _=>k (.el i T j 0)))
    |_=>False
   |_=>False
  |_,_=>False
theorem A1n(h:RG g0 T c f g AH A){y:Operand}(hx:A5z c t x y k):∃v a,k a/\AR g a v/\∀w',Yld Y.P f (.indexAddr t x y) ty v w':=by
 unfold A5z at hx;split at hx
 .rename_i n s har;obtain⟨e,hu,hsz,hn⟩:=A66 har;split at hx
  .rename_i i o kd j ha;obtain⟨hj,hx⟩:=Bj hx;have hj:j<n:=Nat.le_of_ble_eq_true hj;obtain⟨hin,b,hb,hv⟩:=h.ev ha;refine⟨_,_,hx,⟨hin,b,hb,rfl⟩,λw'=>Ae9 λdst pos af gd=>?_⟩;have hv2:ev f (.const (.int kd (.ofNat j)))=.int kd (j:Int):=rfl;generalize Operand.const (.int kd (.ofNat j))=y at hv2 ⊢;have h3:(j:Int)<n:=Int.ofNat_lt.2 hj;simp [execOp,Instr.indexAt,hv,hv2,asIntOf,run_underlying hu,hsz,Instr.sureAddr,Gv];exact λh=>absurd h (by omega)
  .exact hx.elim
 split at hx
 .rename_i e nb b h1 h2;have hy:=h.ev h2;split at hx
  .rename_i T xs ha;obtain⟨ht,hx⟩:=Bj hx;obtain⟨kd,j,hj,hlt,hx⟩:=Al7 hy (Jf hy hx);have hs:=Hy ht;obtain⟨a,cap,hv,hc,hm,he⟩:=Abg.1 (h.ev ha);rcases he with he|⟨b,off,rfl,hb,he⟩
   .subst he;simp at hlt
   obtain⟨v,hv1,hv2⟩:=he j hlt;refine⟨_,_,hx,⟨b,off+j*sz Y.toUS T,v,hv1,hv2,hb,rfl⟩,λw'=>Ae9 λdst pos af gd=>?_⟩;have h1:(0:Int)<=j/\(j:Int)<xs.length:=by omega
   simp [execOp,Instr.indexAt,hv,hj,asIntOf,run_underlying hs.under,h1,hs.size,Gv];exact λh=>absurd h (by omega)
  .rename_i i ha;split at hx
   .rename_i T xs hs;obtain⟨ht,hx⟩:=Bj hx;obtain⟨kd,j,hj,hlt,hx⟩:=Al7 hy (Jf hy hx);obtain⟨A1,ho,A2,hp,hsg,hin⟩:=h.sl hs;have hsl:=Hy ht;rcases @Cc.ex _ (RT Y.toUS T) _ _ _ _ _ ho with ⟨_,h3,_⟩|⟨b,arr,cap,e0,off,rfl,hμ,h3,h4,h5,h6⟩
    .subst h3;simp at hlt
    refine⟨_,_,hx,⟨hin,b,off,_,_,hμ,rfl⟩,λw'=>Ae9 λdst pos af gd=>?_⟩;have h1:(0:Int)<=j/\(j:Int)<xs.length:=by omega
    have hv:=(h.ev ha).2.trans hμ;simp [execOp,Instr.indexAt,hv,hj,asIntOf,run_underlying hsl.under,h1,hsl.size,Gv];exact λh=>absurd h (by omega)
   .exact hx.elim
  .exact hx.elim
 .exact hx.elim
end
end
section
section
variable {Y:Sys}
def Ahw:BinOp->Nat->Nat->(p:Prop)×(Decidable p)
 | .eql,a,b=>⟨a=b,inferInstance⟩
 | .neq,a,b=>⟨¬a=b,inferInstance⟩
 | .lss,a,b=>⟨a<b,inferInstance⟩
 | .leq,a,b=>⟨a<=b,inferInstance⟩
 | .gtr,a,b=>⟨b<a,inferInstance⟩
 |_,a,b=>⟨b<=a,inferInstance⟩
theorem A6f{p q:Prop}(d1:Decidable p)(d2:Decidable q)(h:p↔q):@decide p d1=@decide q d2:=by
 by_cases hp:p
 .rw[@decide_eq_true p d1 hp,@decide_eq_true q d2 (h.1 hp)]
 .rw[@decide_eq_false p d1 hp,@decide_eq_false q d2 (λhq=>hp (h.2 hq))]
theorem A2a(op:BinOp)(a b:Nat):@decide (Ahw op a b).1 (Ahw op a b).2=@decide (Ai8 op a b).1 (Ai8 op a b).2:=
 A6f _ _ (by cases op<;>simp only[Ahw,Ai8]<;>omega)
def A42(op:BinOp)(a b:AV Y):Option ((AV Y->Prop)->Prop):=match a,b with
 | .nat i,.nat j=>match W1 op with
  |true=>some λk=>k (.prp (Ahw op i j).1 (Ahw op i j).2)
  |false=>none
 | .nat i,.val (.int .i64 (.ofNat j))=>match op with
  | .add=>some λk=>(i+j<=9223372036854775807/\k (.nat (i+j)))
  |op=>match W1 op with
   |true=>some λk=>k (.prp (Ahw op i j).1 (Ahw op i j).2)
   |false=>none
 | .val (.int .i64 (.ofNat i)),.nat j=>match W1 op with
  |true=>some λk=>k (.prp (Ahw op i j).1 (Ahw op i j).2)
  |false=>none
 |_,_=>none
variable {g:Gst} {P:Program} {f:Fr} {op:BinOp} {x y:Operand} {t u ty:TypeId} {a:AV Y} {k:AV Y->Prop}
theorem A09{b:AV Y}{z:(AV Y->Prop)->Prop}(h:A42 op a b=some z)(hz:z k)(ha:AR g a (ev f x))(hb:AR g b (ev f y)):∃v c,k c/\AR g c v/\∀w',Yld P f (.binOp op t x y u) ty v w':=by
 have cmp:∀{i j:Nat},W1 op=true->ev f x=.int .i64 i->ev f y=.int .i64 j->k (.prp (Ahw op i j).1 (Ahw op i j).2)->∃v c,k c/\AR g c v/\∀w',Yld P f (.binOp op t x y u) ty v w':=λ{i j}hc h1 h2 hk=>
  ⟨_,_,hk,rfl,λw'=>by rw[A2a];exact Atl hc h1 h2 w'⟩
 unfold A42 at h;split at h
 .split at h
  .rename_i hc;cases h;exact cmp hc ha.1 hb.1 hz
  .cases h
 .split at h
  .cases h;rename_i i j _;have h1:=ha.1;have h2:ev f y=.int .i64 (j:Int):=hb;refine⟨_,_,hz.2,⟨rfl,hz.1⟩,λw'=>Bb λpos af K' hk=>Asm h1 h2 ?_⟩;rw[Afb (by omega) (by have:=hz.1;omega)];rw[Int.natCast_add]at hk;exact hk
  .split at h
   .rename_i hc;cases h;exact cmp hc ha.1 hb hz
   .cases h
 .split at h
  .rename_i hc;cases h;exact cmp hc ha hb.1 hz
  .cases h
 .cases h
theorem Aqj{α:Type}[Rep α]{I:Reg}{w:World}{A:Own}{v:Value}{xs:List α}(o:Cc I w A v xs)(hne:¬xs=[]):∃a l cp,v=.slice a l cp/\a.isNone=false:=by
 rcases o.ex with ⟨_,h,_⟩|⟨b,arr,cap,e0,off,_,h2,_⟩
 .exact absurd h hne
 .exact⟨_,_,_,h2,rfl⟩
def A41(c:Cf Y)(op:BinOp)(t:TypeId)(a b:AV Y):Option (Prop×Bool):=match a,b with
 | .own i,.val (.slice none 0 0)=>match lkS c.sg i,Ka Y.P t dSl with
  |some (.sl _ xs),true=>match op with
   | .eql=>some (¬xs=[],false)
   | .neq=>some (¬xs=[],true)
   |_=>none
  |_,_=>none
 | .val (.slice none 0 0),.val (.slice none 0 0)=>match Ka Y.P t dSl with
  |true=>match op with
   | .eql=>some (True,true)
   | .neq=>some (True,false)
   |_=>none
  |false=>none
 |_,_=>none
theorem Xo{a:Option Addr}{l cp:Nat}{r:Bool}(ht:∃e,P.underlying t=some (.slice e))(hx:ev f x=.slice a l cp)(hy:ev f y=.slice none 0 0)(ho:(op=.eql/\r=a.isNone)∨(op=.neq/\r=!a.isNone))(w:World):Yld P f (.binOp op t x y u) ty (.bool r) w:=by
 intro dst pos af gd;obtain⟨e,ht⟩:=ht;have hg:∀op:BinOp,(eqGuard op t x y (.slice a l cp) (.slice none 0 0)).run P w=.ok () w:=λop=>by simp only[eqGuard];cases op<;>simp
 have hE:∀n,(Op.equalIn (n+1) t (.slice a l cp) (.slice none 0 0)).run P w=.ok a.isNone w:=λn=>by cases a<;>simp [Op.equalIn,run_underlying ht]
 rcases ho with ⟨rfl,rfl⟩|⟨rfl,rfl⟩
 .simp only[execOp,hx,hy,Sem.run_bind,hg,Result.andThen_ok,binOp,Op.equal,Op.maxDepth,hE 9999,Sem.run_pure]
 .simp only[execOp,hx,hy,Sem.run_bind,hg,Result.andThen_ok,binOp,Op.equal,Op.maxDepth,hE 9999,Sem.run_pure]
variable {g0:Gst} {T AH A:Own} {c:Cf Y}
theorem A06(h:RG g0 T c f g AH A){b:AV Y}{p:Prop}{r:Bool}(hn:A41 c op t a b=some (p,r))(hp:p)(ha:AR g a (ev f x))(hb:AR g b (ev f y))(w:World):Yld Y.P f (.binOp op t x y u) ty (.bool r) w:=by
 unfold A41 at hn;split at hn
 .rename_i i;have hy:ev f y=.slice none 0 0:=hb;split at hn
  .rename_i T' xs hs ht;obtain⟨A1,A2,_,_,h3,_⟩:=h.sg.take hs;have key:¬xs=[]->∃a l cp,ev f x=.slice a l cp/\a.isNone=false:=λhne=>by rw[ha.2];exact @Aqj _ (RT Y.toUS T') _ _ _ _ _ h3 hne
   split at hn
   .cases hn;obtain⟨a,l,cp,hx,ha⟩:=key hp;exact Xo (R7 ht) hx hy (.inl ⟨rfl,ha.symm⟩) w
   .cases hn;obtain⟨a,l,cp,hx,ha⟩:=key hp;exact Xo (R7 ht) hx hy (.inr ⟨rfl,by rw[ha];rfl⟩) w
   .cases hn
  .cases hn
 .have hx:ev f x=.slice none 0 0:=ha;have hy:ev f y=.slice none 0 0:=hb;split at hn
  .rename_i ht;split at hn
   .cases hn;exact Xo (R7 ht) hx hy (.inl ⟨rfl,rfl⟩) w
   .cases hn;exact Xo (R7 ht) hx hy (.inr ⟨rfl,rfl⟩) w
   .cases hn
  .cases hn
 .cases hn
def A6y(c:Cf Y)(op:BinOp)(t:TypeId)(x y:Operand)(k:AV Y->Prop):Prop:=match evA c x,evA c y with
 |some a,some b=>match A41 c op t a b with
  |some (p,r)=>p/\k (.val (.bool r))
  |none=>match A42 op a b with
   |some z=>z k
   |none=>match asInt a,asInt b with
    |some (ka,n),some (kb,m)=>match W1 op,A9l op with
     |true,_=>chk (decide (ka=kb)) (k (.prp (Ai8 op n m).1 (Ai8 op n m).2))
     |_,true=>R6 x a (R6 y b ((op=.shr->InK ka n)/\shI op ka n m λr=>k (.dat (.int ka) r)))
     |_,_=>chk (decide (ka=kb)) (R6 x a (R6 y b (match A9m ka with
      |true=>arI op ka n m λr=>k (.dat (.int ka) r)
      |false=>arW op ka n m λr=>k (.dat (.int ka) r))))
    |_,_=>match a with
     | .dat (.u n) d=>eqU op t (.dat (.u n) d) b k
     |a=>eqX Y.P op t a b k
 |_,_=>False
theorem A2m(h:RG g0 T c f g AH A)(hx:A6y c op t x y k):∃v a,k a/\AR g a v/\∀w',Yld Y.P f (.binOp op t x y u) ty v w':=by
 unfold A6y at hx;split at hx
 .rename_i a b ha hb;have hra:=h.ev ha;have hrb:=h.ev hb;split at hx
  .rename_i p r hn;exact⟨_,_,hx.2,rfl,λw=>A06 h hn hx.1 hra hrb w⟩
  split at hx
  .rename_i z hz;exact A09 hz hx hra hrb
  split at hx
  .rename_i ka n kb m hn hm;have h1:=Jq hn hra;have h2:=Jq hm hrb;split at hx
   .rename_i hc;obtain⟨hk,hz⟩:=Bj hx;clear hx;obtain rfl:ka=kb:=by simpa using hk
    exact⟨_,_,hz,rfl,λw'=>Atl hc h1 h2 w'⟩
   .obtain⟨hs,hx⟩:=Jf hrb (Jf hra hx);obtain⟨r,h3,h4,h5⟩:=A33 hx h1 h2 hs;exact⟨_,_,h3,Bq.2 ⟨rfl,h4⟩,h5⟩
   .obtain⟨hk,hz⟩:=Bj hx;clear hx;obtain rfl:ka=kb:=by simpa using hk
    have hu:=Jf hrb (Jf hra hz);split at hu
    .obtain⟨r,h3,h4,h5⟩:=A62 hu h1 h2;exact⟨_,_,h3,Bq.2 ⟨rfl,h4⟩,h5⟩
    .obtain⟨r,h3,h4,h5⟩:=Azq hu h1 h2;exact⟨_,_,h3,Bq.2 ⟨rfl,h4⟩,h5⟩
  .split at hx
   .exact A58 hx hra hrb
   .exact A57 hx hra hrb
 .exact hx.elim
def unX(c:Cf Y)(op:UnOp)(x:Operand)(k:AV Y->Prop):Prop:=match op,evA c x with
 | .not,some a=>match asB a with
  |some (.kn b)=>k (.val (.bool (!b)))
  |some (.pr p d)=>k (.prp (¬p) (@instDecidableNot p d))
  |none=>False
 | .neg,some a=>match asInt a with
  |some (.i64,n)=>R6 x a (InK .i64 (-n)/\k (.dat I6 (-n)))
  |some (kd,n)=>k (.dat (.int kd) (kd.wrap (0-n)))
  |none=>False
 |_,_=>False
theorem A3t(h:RG g0 T c f g AH A){op:UnOp}(hx:unX c op x k):∃v a,k a/\AR g a v/\∀w',Yld Y.P f (.unOp op t x) ty v w':=by
 unfold unX at hx;split at hx
 .rename_i a ha;split at hx
  .rename_i b hb;exact⟨_,_,hx,rfl,λw'=>Bb λpos af K' hk=>A27 (U4 hb (h.ev ha)) hk⟩
  .rename_i p d hb;refine⟨_,_,hx,rfl,λw'=>Bb λpos af K' hk=>A27 (U4 hb (h.ev ha)) ?_⟩;have:(!(BV.pr p d).val)=@decide (¬p) (@instDecidableNot p d):=by
    show (!@decide p d)=_;cases d with
    |isTrue hp=>rfl
    |isFalse hp=>rfl
   rw[this];exact hk
  .exact hx.elim
 .rename_i a ha;split at hx
  .rename_i n hn;have h1:=Jq hn (h.ev ha);obtain⟨h2,hx⟩:=Jf (h.ev ha) hx;refine⟨_,_,hx,Bq.2 ⟨rfl,h2⟩,λw'=>Bb λpos af K' hk=>A28 h1 ?_⟩;rw[show (0:Int)-(IntKind.i64,n).2=-n by simp,Hc h2];exact hk
  .rename_i kd n _ hn;have h1:=Jq hn (h.ev ha);exact⟨_,_,hx,Bq.2 ⟨rfl,Nv _ _⟩,λw'=>Bb λpos af K' hk=>A28 h1 hk⟩
  .exact hx.elim
 .exact hx.elim
def kindOf(P:Program)(t:TypeId):Option IntKind:=match P.underlying t with
 |some (.int k)=>some k
 |_=>none
def A6k(c:Cf Y)(s d:TypeId)(x:Operand)(k:AV Y->Prop):Prop:=match kindOf Y.P s,kindOf Y.P d,evA c x with
 |some ks,some kd,some a=>match a with
  | .dat (.int k1) n=>chk (decide (k1=ks)) (match decide (kd=k1) with
   |true=>k (.dat (.int k1) n)
   |false=>InK k1 n->k (.dat (.int kd) (kd.wrap n)))
  | .nat j=>chk (decide (ks=.i64)) (match decide (kd=.i64) with
   |true=>k (.nat j)
   |false=>k (.dat (.int kd) (kd.wrap j)))
  |a=>match asInt a with
   |some (_,n)=>k (.dat (.int kd) (kd.wrap n))
   |none=>False
 |_,_,_=>False
theorem Aj9{k:IntKind}(h:kindOf P t=some k):P.underlying t=some (.int k):=by
 unfold kindOf at h;split at h
 .rename_i h1;cases h;exact h1
 .cases h
theorem A16(h:RG g0 T c f g AH A){s d:TypeId}(hx:A6k c s d x k):∃v a,k a/\AR g a v/\∀w',Yld Y.P f (.convert s d x) ty v w':=by
 unfold A6k at hx;split at hx
 .rename_i ks kd a h1 h2 ha;have hs:=Aj9 h1;have hd:=Aj9 h2;have hr:=h.ev ha;split at hx
  .rename_i k1 n;obtain⟨hk,hx⟩:=Bj hx;have hv:=Bq.1 hr;split at hx
   .rename_i he;obtain rfl:kd=k1:=by simpa using he
    refine⟨_,_,hx,Bq.2 ⟨rfl,hv.2⟩,λw'=>Bb λpos af K' hk=>Ago hs hd hv.1 ?_⟩;rw[Hc hv.2];exact hk
   .exact⟨_,_,hx hv.2,Bq.2 ⟨rfl,Nv _ _⟩,λw'=>Bb λpos af K' hk=>Ago hs hd hv.1 hk⟩
  .rename_i j;obtain⟨hk,hz⟩:=Bj hx;clear hx;split at hz
   .rename_i he;obtain rfl:kd=.i64:=by simpa using he
    refine⟨_,_,hz,⟨rfl,hr.2⟩,λw'=>Bb λpos af K' hk=>Ago hs hd hr.1 ?_⟩;rw[Afb (by omega) (by have:=hr.2;omega)];exact hk
   .exact⟨_,_,hz,Bq.2 ⟨rfl,Nv _ _⟩,λw'=>Bb λpos af K' hk=>Ago hs hd hr.1 hk⟩
  .split at hx
   .rename_i k1 n hn;exact⟨_,_,hx,Bq.2 ⟨rfl,Nv _ _⟩,λw'=>Bb λpos af K' hk=>Ago hs hd (Jq hn hr) hk⟩
   .exact hx.elim
 .exact hx.elim
def A6r(c:Cf Y)(t:TypeId)(x y:Operand)(k:AV Y->Prop):Prop:=match (evA c x).bind asS,evA c y with
 |some s,some b=>chk (Ka Y.P t A13) (R6 y b (ixA b s.size λj h=>k (.dat (.int .u8) (s[j].toNat:Int))))
 |_,_=>False
theorem A2d(h:RG g0 T c f g AH A)(hx:A6r c t x y k):∃v a,k a/\AR g a v/\∀w',Yld Y.P f (.index t x y) ty v w':=by
 unfold A6r at hx;split at hx
 .rename_i s b h1 h2;obtain⟨ht,hx⟩:=Bj hx;have hy:=h.ev h2;obtain⟨kd,j,hj,hlt,hx⟩:=Al7 hy (Jf hy hx);cases ha:evA c x with
  |none=>rw[ha]at h1;cases h1
  |some a=>
   rw[ha]at h1;have hv:=Ta.1 (E2 (t:=.str) h1 (h.ev ha));exact⟨_,_,hx,Bq.2 ⟨rfl,A5v _⟩,λw'=>Bb λpos af K' hk=>Axm (Am9 ht) hlt hv.1 hj rfl hk⟩
 .exact hx.elim
def A6g(P:Program)(kd:IntKind)(n:Nat):TypeDesc->Bool
 | .array m e=>Nat.beq m n&&Ka P e (Ay6 kd)&&(match P.info? e with
  |some i=>Nat.beq i.size 1
  |none=>false)
 |_=>false
def lfI(k:IntKind):List (Lf Y.D)->Option (List Int)
 | []=>some []
 |⟨.int k',x⟩::l=>match Ty.dec (.int k) (.int k'),lfI k l with
  | .isTrue _,some r=>some (x::r)
  |_,_=>none
 |_::_=>none
theorem Ax5{g:Gst}{k:IntKind}:∀{l:List (Lf Y.D)}{r:List Int}{cs:List Value},lfI k l=some r->F2 (λc(l:Lf Y.D)=>rp Y.toUS l.t g.I g.w c l.x) cs l->cs=r.map (.int k)/\∀x∈r,InK k x
 | [],r,_,h,.nil=>by cases h;exact⟨rfl,λx hx=>(by cases hx)⟩
 |⟨t,x⟩::l,r,c::cs,h,.cons h1 h2=>by
  cases t with
  |int k'=>
   simp only[lfI]at h;split at h
   .rename_i e r' _ hr;cases e;cases h;obtain⟨h3,h4⟩:=Ax5 hr h2;obtain⟨h5,h6⟩:=Bq.1 h1;exact⟨by rw[h5,h3];rfl,λy hy=>by rcases List.mem_cons.1 hy with rfl|hy;exact h6;exact h4 y hy⟩
   .cases h
  |_=>simp [lfI]at h
def A61(c:Cf Y)(t:TypeId)(y:Operand)(n:Nat)(d:Y.D n)(k:AV Y->Prop):Prop:=match lfI .i64 (Y.flat n d),evA c y with
 |some r,some b=>chk (Ka Y.P t (A6g Y.P .i64 r.length)) (R6 y b (ixA b r.length λj h=>k (.dat I6 r[j])))
 |_,_=>False
theorem A2o(h:RG g0 T c f g AH A){n:Nat}{d:Y.D n}(hd:evA c x=some (.dat (.u n) d))(hx:A61 c t y n d k):∃v a,k a/\AR g a v/\∀w',Yld Y.P f (.index t x y) ty v w':=by
 unfold A61 at hx;split at hx
 .rename_i r b h1 h2;obtain⟨ht,hx⟩:=Bj hx;have hy:=h.ev h2;obtain⟨kd,j,hj,hlt,hx⟩:=Al7 hy (Jf hy hx);obtain⟨cs,hcs,hF⟩:=Lc.1 (h.ev hd);obtain⟨h3,h4⟩:=Ax5 h1 hF;refine⟨_,_,hx,Bq.2 ⟨rfl,h4 _ (List.getElem_mem hlt)⟩,λw' dst pos af gd=>?_⟩;unfold Ka at ht;split at ht
  .rename_i td htd;cases td with
   |array m e=>
    simp only[A6g,Bool.and_eq_true,Nat.beq_eq]at ht;obtain⟨⟨hm,he⟩,hs⟩:=ht;subst hm;have hu:=Afw he;have hsz:(sizeOf e).run Y.P w'=.ok 1 w':=by
     split at hs
     .rename_i i hi;rw[run_sizeOf w' hi];simp [Program.cellsOf,hi,Nat.eq_of_beq_eq_true hs]
     .cases hs
    have hcj:(⟨cs⟩:Array Value)[j]?=some (.int .i64 r[j]):=by simp [h3,hlt]
    simp only[execOp,Instr.index,hcs,hj,asIntOf,Sem.run_bind,Sem.run_pure,Result.andThen_ok,run_underlying htd];rw[if_pos ⟨Int.natCast_nonneg j,by exact_mod_cast hlt⟩];simp [hsz,part,isAgg,run_underlying hu,h3,hlt]
   |_=>simp [A6g]at ht
  .cases ht
 .exact hx.elim
def A56(c:Cf Y)(t:TypeId)(x:Operand)(i:Nat)(k:AV Y->Prop):Prop:=match A7p Y.P t i,evA c x with
 |some off,some (.dat (.u n) d)=>chk (fvB Y.P t i off) (match (Y.flat n d)[off]? with
  |some l=>k (.dat l.t l.x)
  |none=>False)
 |_,_=>False
theorem A1w(h:RG g0 T c f g AH A){i:Nat}(hx:A56 c t x i k):∃v a,k a/\AR g a v/\∀w',Yld Y.P f (.field t x i) ty v w':=by
 unfold A56 at hx;split at hx
 .rename_i off n d h1 h2;obtain⟨ht,hx⟩:=Bj hx;obtain⟨cs,hv,hf⟩:=Lc.1 (h.ev h2);split at hx
  .rename_i l hl;obtain⟨v,h3,h4⟩:=hf.get hl;exact⟨v,_,hx,h4,λw'=>Bb λpos af K' hk=>Axo (cs:=⟨cs⟩) ht hv (by simpa using h3) hk⟩
  .exact hx.elim
 .exact hx.elim
def Apd:TypeDesc->Bool
 | .struct _=>true
 |_=>false
theorem At6(h:Ka P t Apd=true):∃e,P.underlying t=some (.struct e):=by
 unfold Ka at h;split at h
 .rename_i d hd;cases d<;>simp [Apd]at h;exact⟨_,hd⟩
 .cases h
def onA(a:Option (AV Y))(k:AV Y->Prop):Prop:=match a with
 |some a=>k a
 |none=>False
theorem Alu{a:Option (AV Y)}(h:onA a k):∃b,a=some b/\k b:=by
 unfold onA at h;split at h
 .exact⟨_,rfl,h⟩
 .exact h.elim
variable {α β:Type}
theorem Az5{R Q:α->β->Prop}{l:List α}{m:List β}(h:F2 R l m)(h':∀b∈m,∀a,R a b->Q a b):F2 Q l m:=by
 induction h with
 |nil=>exact .nil
 |cons h _ ih=>exact .cons (h' _ List.mem_cons_self _ h) (ih λb hb=>h' b (List.mem_cons_of_mem _ hb))
theorem Az3{γ:Type}{R:γ->β->Prop}{q:α->γ}{l:List α}{m:List β}(h:F2 (λa b=>R (q a) b) l m):F2 R (l.map q) m:=by
 induction h with
 |nil=>exact .nil
 |cons h _ ih=>exact .cons h ih
theorem Atx{R:α->β->Prop}{l:List α}{m:List β}(h:F2 R l m):F2 (λb a=>R a b) m l:=by
 induction h with
 |nil=>exact .nil
 |cons h _ ih=>exact .cons h ih
theorem Aoo{l:List (Lf Y.D)}{cs:List Value}(h:F2 (λc(l:Lf Y.D)=>rp Y.toUS l.t g.I g.w c l.x) cs l)(hl:(l.all λx=>x.t.leaf)=true):∀c∈cs,c.oneCell'=true:=
 Ah7 h λx hx=>by simpa using List.all_eq_true.1 hl x hx
def A0g(vs:List Value):List (AV Y):=vs.map AV.val
def Auu(c:Cf Y):AV Y->Bool
 | .dat t _=>t.leaf
 | .nat _ | .prp _ _ | .adr _ _ | .el _ _ _ _ | .del _ _ _ | .ptr _ _ | .hp _ _ _ | .mob _ | .ifc _ _ _ | .fbx _ _ _=>true
 | .own i=>match lkS c.sg i with
  |some (.sl _ _) |some (.mp _ _ _) |some (.clo _ _ _)=>true
  |_=>false
 | .val v=>v.oneCell'
 | .sub _ _ _=>true
 | .fn _ _ _=>false
variable {v:Value}
theorem Asf(h:RG g0 T c f g AH A)(h1:Auu c a=true)(ha:AR g a v):v.oneCell'=true:=by
 unfold Auu at h1;split at h1
 .exact(Ph h1 ha).2
 .rw[ha.1];rfl
 .rw[show v=_ from ha];rfl
 .obtain⟨_,b,_,h2⟩:=ha;rw[h2];rfl
 .obtain⟨_,b,_,_,_,_,h2⟩:=ha;rw[h2];rfl
 .obtain⟨b,_,_,_,_,_,h2⟩:=ha;rw[h2];rfl
 .rw[ha.2.2];rfl
 .rw[ha.2.2];rfl
 .rw[show v=_ from ha];rfl
 .obtain⟨u,h2,_⟩:=ha;rw[h2];rfl
 .obtain⟨b,off,u,_,_,_,h2⟩:=ha;rw[h2];rfl
 .rename_i i;have hv:=ha.2;split at h1
  .rename_i t xs hs;obtain⟨A1,A2,_,_,h3,_⟩:=h.sg.take hs;obtain⟨a,cap,h4,_⟩:=@Cc.len _ (RT Y.toUS t) _ _ _ _ _ h3;rw[hv,h4];rfl
  .rename_i k e m hs;obtain⟨A1,A2,_,_,h3,_⟩:=h.sg.take hs;obtain⟨b,es,cl,_,h4,_⟩:=@Dz.ex _ _ (RT Y.toUS k) (RT Y.toUS e) _ _ _ _ _ h3;rw[hv,h4];rfl
  .rename_i g' fs cs hs;obtain⟨A1,A2,_,_,⟨_,vs,us,h4,_⟩,_⟩:=h.sg.take hs;rw[hv,h4];rfl
  .cases h1
 .rw[show v=_ from ha];exact h1
 .obtain⟨_,h2,a,len,cap,h3,_⟩:=ha;rw[h2,h3];rfl
 .cases h1
theorem Aut(h:v.oneCell'=true):v.cells=#[v]:=by cases v<;>first|rfl|simp [Value.oneCell']at h
theorem Afc{g:Gst}:∀{vs:List Value},vs.all (·.oneCell')=true->F2 (λa v=>AR g a v/\v.oneCell'=true) (A0g (Y:=Y) vs) vs
 | [],_=>.nil
 |v::vs,h=>by simp only[List.all_cons,Bool.and_eq_true]at h;exact .cons ⟨rfl,h.1⟩ (Afc h.2)
def Ams(c:Cf Y)(a:AV Y):Option (List (AV Y)):=match a with
 | .dat (.u m) d=>some ((Y.flat m d).map λx=>.dat x.t x.x)
 | .val (.agg cs)=>match cs.toList.all (·.oneCell') with
  |true=>some (A0g cs.toList)
  |false=>none
 | .own j=>match lkS c.sg j with
  |some (.ag cs)=>some cs
  |_=>match Auu c a with
   |true=>some [a]
   |false=>none
 |a=>match Auu c a with
  |true=>some [a]
  |false=>none
theorem Akp(h:RG g0 T c f g AH A){cs:List (AV Y)}(hc:Ams c a=some cs)(ha:AR g a v):F2 (λa v=>AR g a v/\v.oneCell'=true) cs v.cells.toList:=by
 have one:∀{a:AV Y},AR g a v->Auu c a=true->F2 (λa v=>AR g a v/\v.oneCell'=true) [a] v.cells.toList:=λha h1=>by have hone:=Asf h h1 ha;rw[Aut hone];exact .cons ⟨ha,hone⟩ .nil
 unfold Ams at hc;split at hc
 .rename_i m d;cases hc;obtain⟨us,rfl,h2⟩:=Lc.1 ha;have hone:=Ah7 h2 X6;exact Az3 (q:=λx:Lf Y.D=>AV.dat x.t x.x) (Az5 (Atx h2) λv hv a r=>⟨r,hone v hv⟩)
 .rename_i us;split at hc
  .rename_i h1;cases hc;obtain rfl:v=_:=ha;exact Afc h1
  .cases hc
 .rename_i j;split at hc
  .rename_i cs' hj;cases hc;obtain⟨A1,A2,_,_,⟨_,vs,h4,h5⟩,_⟩:=h.sg.take hj;rw[ha.2,h4];exact h5
  .split at hc
   .rename_i h1;cases hc;exact one ha h1
   .cases hc
 .split at hc
  .rename_i h1;cases hc;exact one ha h1
  .cases hc
def As8(c:Cf Y)(place:Nat->Option (Nat×Nat)):List (AV Y)->List (Nat×AV Y)->Option (List (AV Y))
 |ls,[]=>some ls
 |ls,(i,a)::rest=>match place i with
  |none=>none
  |some (off,size)=>match Ams c a with
   |some l=>match Nat.beq l.length size&&Nat.ble (off+size) ls.length with
    |true=>As8 c place (ls.take off++(l++ls.drop (off+size))) rest
    |false=>none
   |none=>none
theorem Ao3{g0 g:Gst}{T AH A:Own}{c:Cf Y}{f:Fr}(h0:RG g0 T c f g AH A){place:Nat->Option (Nat×Nat)}:∀{ps:List (Nat×AV Y)}{qs:List (Nat×Value)}{cells:Array Value}{ls l':List (AV Y)},As8 c place ls ps=some l'->F2 (λa v=>AR g a v/\v.oneCell'=true) ls cells.toList->F2 (λ(p:Nat×AV Y)(q:Nat×Value)=>p.1=q.1/\AR g p.2 q.2) ps qs->∃cells',Instr.fill place cells qs=some cells'/\F2 (λa v=>AR g a v/\v.oneCell'=true) l' cells'.toList
 | [],_,cells,ls,l',h,hc,.nil=>by cases h;exact⟨cells,rfl,hc⟩
 |(i,a)::rest,(i',v)::qs,cells,ls,l',h,hc,.cons ⟨hi,ha⟩ hq=>by
  simp only at hi ha;subst hi;unfold As8 at h;unfold Instr.fill;split at h
  .cases h
  .rename_i off size hp;split at h
   .rename_i l hl;split at h
    .rename_i hb;simp only[Bool.and_eq_true,Nat.beq_eq,Nat.ble_eq]at hb;have hv:=Akp h0 hl ha;have hsz:v.cells.size=size:=by have:=hv.len;simp only[Array.length_toList]at this;omega
     have hcs:cells.size=ls.length:=by have:=hc.len;simp only[Array.length_toList]at this;omega
     have hn:¬(v.cells.size≠size∨off+v.cells.size>cells.size):=by omega
     simp only[hp,Bool.or_eq_true,decide_eq_true_eq,hn,if_false];refine Ao3 h0 h ?_ hq;have:=Ahd v.cells.toList 0 off cells (by simp;omega);have e:(v.cells.zipIdx.foldl (λcs(x:Value×Nat)=>cs.setIfInBounds (off+x.2) x.1) cells)=(v.cells.toList.zipIdx.foldl (λcs(x:Value×Nat)=>cs.setIfInBounds (off+x.2) x.1) cells):=by rw[<-Array.foldl_toList,Array.toList_zipIdx]
     show F2 _ _ (v.cells.zipIdx.foldl (λcs(x:Value×Nat)=>cs.setIfInBounds (off+x.2) x.1) cells).toList;rw[e,this];simp only[Nat.add_zero,Array.length_toList,hsz];exact(hc.take off).app (hv.app (hc.drop _))
    .cases h
   .cases h
def A6w(c:Cf Y)(t:TypeId)(ps:Array (Nat×Operand))(K:AV Y->Cf Y->Prop):Prop:=match plc Y.P t,evP c ps.toList with
 |some (p,.agg z),some qs=>chk (z.toList.all (·.oneCell')) (match As8 c p (A0g z.toList) qs with
  |some cs=>K (.own c.nx) {c with sg:=(c.nx,.ag cs)::c.sg,nx:=c.nx+1}
  |none=>False)
 |_,_=>False
theorem A2l(h:RG g0 T c f g AH A){ps:Array (Nat×Operand)}{K:AV Y->Cf Y->Prop}(hx:A6w c t ps K):∃v a c' g',K a c'/\g'.w=g.w/\Le g g'/\RG g0 T c' f g' AH A/\AR g' a v/\∀w',Sx g w'->Yld Y.P f (.build t ps) ty v w':=by
 unfold A6w at hx;split at hx
 .rename_i p z qs h2 h3;obtain⟨h1,hx⟩:=Bj hx;split at hx
  .rename_i cs hf;obtain⟨cells,hc1,hc2⟩:=Ao3 h (cells:=z) hf (Afc h1) (Aq2 h h3);have hle:Le g (g.new g.w (.agg cells)):=Le.new (Ext.refl _ _);refine⟨.agg cells,_,_,g.new g.w (.agg cells),hx,rfl,hle,?_,?_,λw' _ dst pos af gd=>?_⟩
   .exact h.new (A1:=[]) (Ext.refl _ _) ⟨rfl,cells.toList,g.Cz _ _,hc2.mono λ_ _ r=>⟨r.1.mono hle,r.2⟩⟩ (by simpa using h.st)
   .rw[<-h.n];exact⟨Nat.lt_succ_self _,(g.Cz _ _).symm⟩
   .have hb:Y.P.built t (ps.map λ(x:Nat×Operand)=>match x with|(i,x)=>(i,ev f x)).toList=some cells:=by rw[Ajv h2,Array.toList_map];exact hc1
    simp only[execOp,Sem.run_bind];rw[run_build w' t _ cells hb];rfl
  .exact hx.elim
 .exact hx.elim
theorem Ax8{as rs:List Ty}{F:FT Y as rs}(ht:tyB Y.P t false 1=true)(h:FbR Y as rs F g.I g.w (ev f x)):∃v,AR g (.fn as rs F) v/\∀w',Sx g w'->Yld Y.P f (.load t x) ty v w':=by
 obtain⟨b,off,u,h1,h2,h3,h4⟩:=h;have hc:u.cells=#[u]:=by obtain⟨⟨q,first,cap,rfl⟩,_⟩:=h1;rfl
 refine⟨u,h1,λw' hs dst pos af gd=>?_⟩;have hp:E3 w' ⟨b,off,none⟩ u:=⟨rfl,λj hj=>by rw[<-h2.2 j hj];exact cell?_of_heap (a:=⟨b,off+j,none⟩) (hs.Cq b h3)⟩
 simp [execOp,Instr.loadAt,h4,Instr.sureAddr,Vb (agg:=false) ht hp (by rw[hc];rfl) hc]
def vop(c:Cf Y)(o:Op)(K:AV Y->Cf Y->Prop):Prop:=let k:AV Y->Prop:=λa=>K a c;match o with
 | .move x | .assign x=>match evA c x with
  |some a=>k a
  |none=>False
 | .pick z x y=>match (evA c z).bind asB with
  |some (.kn true)=>onA (evA c x) k
  |some (.kn false)=>onA (evA c y) k
  |some (.pr p _)=>(p->onA (evA (kno c z true) x) λa=>K a (kno c z true))/\(¬p->onA (evA (kno c z false) y) λa=>K a (kno c z false))
  |none=>False
 | .nilCheck x=>match evA c x with
  |some a=>adA c 0 none K a
  |none=>False
 | .fieldAddr t x i=>match A7p Y.P t i,evA c x with
  |some off,some a=>chk (flB Y.P t i off) (adA c off (Y.ok t) K a)
  |_,_=>False
 | .indexAddr t x y=>A5z c t x y k
 | .load t x=>match evA c x with
  |some (.del T d o)=>ldD t T d o k
  |some (.fbx as rs F)=>chk (tyB Y.P t false 1) (k (.fn as rs F))
  |_=>False
 | .binOp op t x y _=>A6y c op t x y k
 | .unOp op _ x=>unX c op x k
 | .convert s d x=>A6k c s d x k
 | .extract x i=>match evA c x with
  |some (.own j)=>match lkS c.sg j with
   |some (.tp l)=>match l[i]? with
    |some a=>k a
    |none=>False
   |_=>False
  |_=>False
 | .index t x y=>match evA c x with
  |some (.dat (.u n) d)=>A61 c t y n d k
  |_=>A6r c t x y k
 | .field t x i=>A56 c t x i k
 | .build t ps=>match (Y.ty t).isSome with
  |true=>A2k c t ps k
  |false=>A6w c t ps K
 | .makeInterface t x=>match evA c x with
  |some (.dat T d)=>chk (Ka Y.P t Apd) (k (.ifc t T d))
  |_=>False
 | .call ⟨.builtin .len,as,at_⟩=>A5j c as at_ k
 | .call ⟨.builtin .min,as,_⟩=>A1d c false as k
 | .call ⟨.builtin .max,as,_⟩=>A1d c true as k
 |_=>False
theorem Ap2(h:RG g0 T c f g AH A){o:Op}{K:AV Y->Cf Y->Prop}(hx:vop c o K):∃v a c' g',K a c'/\g'.w=g.w/\Le g g'/\RG g0 T c' f g' AH A/\AR g' a v/\∀w',Sx g w'->Yld Y.P f o ty v w':=by
 have any:∀{o:Op},(∃v a,K a c/\AR g a v/\∀w',Yld Y.P f o ty v w')->∃v a c' g',K a c'/\g'.w=g.w/\Le g g'/\RG g0 T c' f g' AH A/\AR g' a v/\∀w',Sx g w'->Yld Y.P f o ty v w':=λ⟨v,a,h1,h2,h3⟩=>⟨v,a,c,g,h1,rfl,Le.refl _,h,h2,λw' _=>h3 w'⟩
 have one:∀{o:Op}{v:Value}{a:AV Y},K a c->AR g a v->(∀w',Sx g w'->Yld Y.P f o ty v w')->∃v a c' g',K a c'/\g'.w=g.w/\Le g g'/\RG g0 T c' f g' AH A/\AR g' a v/\∀w',Sx g w'->Yld Y.P f o ty v w':=λh1 h2 h3=>⟨_,_,c,g,h1,rfl,Le.refl _,h,h2,h3⟩
 unfold vop at hx;split at hx
 .split at hx
  .rename_i a ha;exact one hx (h.ev ha) λw' _ dst pos af gd=>rfl
  .exact hx.elim
 .split at hx
  .rename_i a ha;exact one hx (h.ev ha) λw' _ dst pos af gd=>rfl
  .exact hx.elim
 .rename_i z x y;have bz:∀{p:BV},(evA c z).bind asB=some p->ev f z=.bool p.val:=λ{p}hp=>by
   cases hz:evA c z with
   |none=>rw[hz]at hp;cases hp
   |some a=>rw[hz]at hp;exact U4 hp (h.ev hz)
  split at hx
  .rename_i h1;obtain⟨a,h2,hx⟩:=Alu hx;exact one hx (h.ev h2) λw' _=>Bb λpos af K' hk=>Asi _ (bz h1) rfl hk
  .rename_i h1;obtain⟨a,h2,hx⟩:=Alu hx;exact one hx (h.ev h2) λw' _=>Bb λpos af K' hk=>Asj _ (bz h1) rfl hk
  .rename_i p dp h1;have hv:=bz h1;by_cases hp:p
   .have hv:ev f z=.bool true:=by rw[hv];show Value.bool (@decide p dp)=_;rw[@decide_eq_true p dp hp]
    have h':=Al6 h hv;obtain⟨a,h2,hx⟩:=Alu (hx.1 hp);exact⟨_,_,_,g,hx,rfl,Le.refl _,h',h'.ev h2,λw' _=>Bb λpos af K' hk=>Asi _ hv rfl hk⟩
   .have hv:ev f z=.bool false:=by rw[hv];show Value.bool (@decide p dp)=_;rw[@decide_eq_false p dp hp]
    have h':=Al6 h hv;obtain⟨a,h2,hx⟩:=Alu (hx.2 hp);exact⟨_,_,_,g,hx,rfl,Le.refl _,h',h'.ev h2,λw' _=>Bb λpos af K' hk=>Asj _ hv rfl hk⟩
  .exact hx.elim
 .split at hx
  .rename_i a ha;obtain⟨b,o,d,c',h1,h2,h3,h4⟩:=Are h hx (h.ev ha);exact⟨_,_,c',g,h2,rfl,Le.refl _,h4,h3,λw' _=>Bb λpos af K' hk=>Z4 h1 hk⟩
  .exact hx.elim
 .split at hx
  .rename_i off a h1 h2;obtain⟨hf,hx⟩:=Bj hx;obtain⟨b,o,d,c',h1,h2,h3,h4⟩:=Are h hx (h.ev h2);exact⟨_,_,c',g,h2,rfl,Le.refl _,h4,h3,λw' _=>Bb λpos af K' hk=>Agn hf h1 hk⟩
  .exact hx.elim
 .exact any (A1n h hx)
 .split at hx
  .rename_i T d o ha;obtain⟨b,off,u,h1,h2,h3,h4⟩:=h.ev ha;obtain⟨v,a,h5,h6,h7⟩:=Aqs (k:=λa=>K a c) hx h1 h2 h3 h4;exact one h5 h6 h7
  .rename_i as rs F ha;obtain⟨ht,hx⟩:=Bj hx;obtain⟨v,h1,h2⟩:=Ax8 (ty:=ty) ht (h.ev ha);exact one hx h1 h2
  .exact hx.elim
 .exact any (A2m h hx)
 .exact any (A3t h hx)
 .exact any (A16 h hx)
 .split at hx
  .rename_i j ha;split at hx
   .rename_i l hl;obtain⟨A1,A2,_,_,h3,_⟩:=h.sg.take hl;obtain⟨_,vs,h4,h5⟩:=h3;split at hx
    .rename_i a hi;obtain⟨v,h6,h7⟩:=h5.get' hi;exact one hx h7 λw' _=>Bb λpos af K' hk=>Auv ((h.ev ha).2.trans h4) (by simpa using h6) hk
    .exact hx.elim
   .exact hx.elim
  .exact hx.elim
 .split at hx
  .rename_i n d hd;exact any (A2o h hd hx)
  .exact any (A2d h hx)
 .exact any (A1w h hx)
 .rename_i t ps;split at hx
  .exact any (Atn h hx)
  .exact A2l h hx
 .split at hx
  .rename_i T d ha;obtain⟨ht,hx⟩:=Bj hx;obtain⟨e,ht⟩:=At6 ht;exact one (v:=.iface _ (ev f _)) hx ⟨_,rfl,h.ev ha⟩ λw' _ dst pos af gd=>by simp [execOp,Instr.makeInterface,run_underlying ht]
  .exact hx.elim
 .exact any (A1h h hx)
 .exact any (Asr h (mx:=false) hx)
 .exact any (Asr h (mx:=true) hx)
 .exact hx.elim
end
end
section
section
variable {Y:Sys}
variable {g0 g:Gst} {T AH A:Own} {c:Cf Y} {f:Fr}
theorem RG.upd(h:RG g0 T c f g AH A){i:Nat}{s:Seg Y}(hi:lkS c.sg i=some s):∃A1 A2,SR g i s A1/\i<g.n/\St g.I g.w (A1++(AH++(A2++T)))/\∀(s':Seg Y)(A1':Own)(g':Gst),Le g g'->g'.n=g.n->SR g' i s' A1'->St g'.I g'.w (A1'++(AH++(A2++T)))->RG g0 T {c with sg:=(i,s')::Kc c.sg i} f g' AH (A1'++A2):=by obtain⟨A1,A2,h1,h2,h3,h4⟩:=h.sg.take hi;refine⟨A1,A2,h3,h2,h.st.perm (Jj h1 AH),λs' A1' g' hle hn hs hst=>?_⟩;exact⟨hn.trans h.n,h.le.trans hle.ext,hst.perm (Jj (List.Perm.refl _) AH).symm,h.hr.mono hle,⟨A1',A2,rfl,by show i<g'.n;omega,hs,h4.mono hle⟩,h.hs.mono hle,hle.pt h.pt,λj a hj=>(h.fr j a hj).mono hle⟩
theorem RG.name(h:RG g0 T c f g AH A)(v:Value):RG g0 T {c with nx:=c.nx+1} f (g.new g.w v) AH A:=by have hle:=Le.new (g:=g) (v:=v) (Ext.refl _ _);exact⟨by show g.n+1=c.nx+1;rw[h.n],h.le.trans hle.ext,h.st,h.hr.mono hle,h.sg.mono hle,h.hs.mono hle,hle.pt h.pt,λj a hj=>(h.fr j a hj).mono hle⟩
def Cf.put(c:Cf Y)(N:Nat)(dst:Option Tmp)(a:AV Y)(k:Cf Y->Prop):Prop:=match dst with
 |none=>k c
 |some d=>chk (Nat.blt d N&&!inN d c.pt) (match a with
  | .dat .ptr p=>k ({c with nx:=c.nx+1}.set d (.ptr c.nx p))
  |a=>k (c.set d a))
variable {v:Value}
theorem RG.put{N:Nat}{dst:Option Tmp}{a:AV Y}{k:Cf Y->Prop}(h:RG g0 T c f g AH A)(ha:AR g a v)(hk:c.put N dst a k):∃c' g',k c'/\g'.w=g.w/\g'.I=g.I/\Le g g'/\RG g0 T c' (X.put N f dst v) g' AH A:=by
 unfold Cf.put at hk;split at hk
 .exact⟨_,g,hk,rfl,rfl,Le.refl _,h⟩
 .rename_i d;obtain⟨hd,hk⟩:=Bj hk;split at hk
  .rename_i p;refine⟨_,g.new g.w v,hk,rfl,rfl,Le.new (Ext.refl _ _),(h.name v).set hd ?_⟩;rw[<-h.n];exact⟨Nat.lt_succ_self _,g.Cz _ _,Re.1 ha⟩
  .exact⟨_,g,hk,rfl,rfl,Le.refl _,h.set hd ha⟩
def Ayq(i:Nat)(t:Ty)(xs:List (den Y.D t)):AV Y->AV Y
 | .own j=>if j=i then .dat (.sl t) xs else .own j
 | .sub j T lo=>if j=i then (match Ty.dec T t with | .isTrue _=>.dat (.sl t) (xs.drop lo) | .isFalse _=>.sub j T lo) else .sub j T lo
 |a=>a
def Ayo(i:Nat)(t:Ty)(xs:List (den Y.D t)):List (Nat×AV Y)->List (Nat×AV Y)
 | []=>[]
 |p::l=>(p.1,Ayq i t xs p.2)::Ayo i t xs l
theorem As6{i:Nat}{t:Ty}{xs:List (den Y.D t)}{j:Nat}{a:AV Y}:∀{l:List (Nat×AV Y)},lkF (Ayo i t xs l) j=some a->∃b,lkF l j=some b/\a=Ayq i t xs b
 | [],h=>by simp [Ayo,lkF]at h
 |p::l,h=>by
  unfold Ayo lkF at h;unfold lkF;by_cases hp:p.1=j
  .rw[if_pos hp]at h ⊢;cases h;exact⟨_,rfl,rfl⟩
  .rw[if_neg hp]at h ⊢;exact As6 h
def Au9(i:Nat)(t:Ty)(xs:List (den Y.D t)):List (AV Y)->List (AV Y)
 | []=>[]
 |a::l=>Ayq i t xs a::Au9 i t xs l
def A8p(i:Nat)(t:Ty)(xs:List (den Y.D t)):Seg Y->Seg Y
 | .blk cs=>.blk (Au9 i t xs cs)
 | .tp l=>.tp (Au9 i t xs l)
 | .ag l=>.ag (Au9 i t xs l)
 |s=>s
def A54(i:Nat)(t:Ty)(xs:List (den Y.D t)):List (Nat×Seg Y)->List (Nat×Seg Y)
 | []=>[]
 |p::l=>(p.1,A8p i t xs p.2)::A54 i t xs l
def Cf.frz(c:Cf Y)(i:Nat):Cf Y:=match lkS c.sg i with
 |some (.sl t xs)=>{c with fr:=Ayo i t xs c.fr,sg:=A54 i t xs (Kc c.sg i)}
 |_=>c
variable {t:Ty}
theorem Zy{I:Reg}{w:World}{xs:List (den Y.D t)}(h:@Apv _ (RT Y.toUS t) I w v xs):rp Y.toUS (.sl t) I w v xs:=by obtain⟨a,cap,h1,h2,h3,h4⟩:=@Apv.ex _ (RT Y.toUS t) _ _ _ _ h;exact Abg.2 ⟨a,cap,h1,h2,h3,h4⟩
theorem Aae{I:Reg}{w:World}{xs:List (den Y.D t)}(h:rp Y.toUS (.sl t) I w v xs):@Apv _ (RT Y.toUS t) I w v xs:=by obtain⟨a,cap,h1,h2,h3,h4⟩:=Abg.1 h;exact @Apv.mk _ (RT Y.toUS t) _ _ _ _ ⟨a,cap,h1,h2,h3,h4⟩
theorem Amd{i:Nat}{xs:List (den Y.D t)}(hx:rp Y.toUS (.sl t) g.I g.w (g.μ i) xs){a:AV Y}(ha:AR g a v):AR g (Ayq i t xs a) v:=by
 unfold Ayq;split
 .split
  .rename_i h;subst h;have:=ha.2;subst this;exact hx
  .exact ha
 .split
  .rename_i h;subst h;split
   .rename_i e _;subst e;obtain⟨_,hv,a',len',cap',h5,hl⟩:=ha;letI:Rep (den Y.D _):=RT Y.toUS ‹Ty›
    obtain⟨a,cap,h1,h2,h3,h4⟩:=Anr (Aae hx);rw[h1]at h5;cases h5;have:=h4 _ _ _ hl (Nat.le_refl _) h2 (Nat.le_refl _);rw[List.take_of_length_le (by simp)]at this;rw[hv,h1];exact Zy this
   .exact ha
  .exact ha
 .exact ha
theorem As3{g:Gst}{i:Nat}{t:Ty}{xs:List (den Y.D t)}(hx:rp Y.toUS (.sl t) g.I g.w (g.μ i) xs):∀{l:List (AV Y)}{vs:List Value},F2 (AR g) l vs->F2 (AR g) (Au9 i t xs l) vs
 | [],_,.nil=>.nil
 |_::_,_,.cons h1 h2=>.cons (Amd hx h1) (As3 hx h2)
theorem Aha{g:Gst}{i:Nat}{t:Ty}{xs:List (den Y.D t)}(hx:rp Y.toUS (.sl t) g.I g.w (g.μ i) xs):∀{l:List (AV Y)}{vs:List Value},F2 (λa v=>AR g a v/\v.oneCell'=true) l vs->F2 (λa v=>AR g a v/\v.oneCell'=true) (Au9 i t xs l) vs
 | [],_,.nil=>.nil
 |_::_,_,.cons h1 h2=>.cons ⟨Amd hx h1.1,h1.2⟩ (Aha hx h2)
theorem As5{g:Gst}{i:Nat}{t:Ty}{xs:List (den Y.D t)}(hx:rp Y.toUS (.sl t) g.I g.w (g.μ i) xs):∀{l:List (Nat×Seg Y)}{A:Own},SgR g l A->SgR g (A54 i t xs l) A
 | [],_,h=>h
 |p::l,A,⟨A1,A2,h1,h2,h3,h4⟩=>by
  refine⟨A1,A2,h1,h2,?_,As5 hx h4⟩;show SR g p.1 (A8p i t xs p.2) A1;generalize p.2=s at h3;cases s with
  |blk cs=>obtain⟨b,arr,e,k1,k2,k3⟩:=h3;exact⟨b,arr,e,k1,k2,Aha hx k3⟩
  |sl t xs=>exact h3
  |mp k e m=>exact h3
  |tp l=>obtain⟨k1,vs,k2,k3⟩:=h3;exact⟨k1,vs,k2,As3 hx k3⟩
  |ag l=>obtain⟨k1,vs,k2,k3⟩:=h3;exact⟨k1,vs,k2,Aha hx k3⟩
  |clo f l m=>exact h3
theorem RG.frz(h:RG g0 T c f g AH A)(i:Nat):∃g' A',g'.w=g.w/\g'.n=g.n/\Le g g'/\RG g0 T (c.frz i) f g' AH A':=by
 unfold Cf.frz;split
 .rename_i t xs hi;obtain⟨A1,A2,h1,h2,h3,h4⟩:=h.sg.take hi;have hst:=h.st.perm (Jj h1 AH);obtain⟨I',he,hst',hrep⟩:=@Cc.freeze _ (RT Y.toUS t) _ _ _ _ _ _ h3 hst;have hle:Le g {g with I:=I'}:=⟨he,Nat.le_refl _,λ_ _=>rfl,rfl⟩
  have hx:rp Y.toUS (.sl t) I' g.w (g.μ i) xs:=Zy hrep;refine⟨{g with I:=I'},A2,rfl,rfl,hle,⟨h.n,h.le.trans hle.ext,hst',h.hr.mono hle,As5 (g:={g with I:=I'}) hx (h4.mono hle),h.hs.mono hle,hle.pt h.pt,λj a hj=>?_⟩⟩;obtain⟨b,hb,rfl⟩:=As6 hj;exact Amd (g:={g with I:=I'}) hx ((h.fr j b hb).mono hle)
 .exact⟨g,A,rfl,rfl,Le.refl _,h⟩
end
end
section
section
variable {Y:Sys}
def Avm:List Ty->List (AV Y)->Option (List (Lf Y.D))
 | [],_=>some []
 |t::ts,a::l=>match t.leaf,asD t a,Avm ts l with
  |true,some x,some m=>some (⟨t,x⟩::m)
  |_,_,_=>none
 |_::_,[]=>none
theorem Atp{g:Gst}{q:AV Y->Value->Prop}(hq:∀a v,q a v->AR g a v):∀{ts:List Ty}{l:List (AV Y)}{vs:List Value}{m:List (Lf Y.D)},Avm ts l=some m->F2 q l vs->F2 (λc(l:Lf Y.D)=>rp Y.toUS l.t g.I g.w c l.x) (vs.take ts.length) m
 | [],_,_,_,h,_=>by cases h;simp;exact .nil
 |t::ts,a::l,_::vs,m,h,.cons h1 h2=>by
  unfold Avm at h;split at h
  .rename_i x m' hl hx hm;cases h;exact .cons (E2 hx (hq _ _ h1)) (Atp hq hm h2)
  .cases h
 |_::_,[],_,_,h,_=>by simp [Avm]at h
def rdB(t:TypeId)(cs:List (AV Y))(o:Nat)(k:AV Y->Prop):Prop:=match Y.ty t with
 |some (.u n)=>chk (tyB Y.P t true (Y.sig n).length) (match (Avm (Y.sig n) (cs.drop o)).bind (Y.At3 n) with
  |some x=>k (.dat (.u n) x)
  |none=>False)
 |_=>chk (tyB Y.P t false 1) (match cs[o]? with
  |some a=>k a
  |none=>False)
variable {g:Gst} {o b:Nat} {t ty:TypeId} {f:Fr} {x:Operand} {k:AV Y->Prop}
theorem Ali{A1:Own}{i:Nat}{cs:List (AV Y)}(h:rdB t cs o k)(hs:SR g i (.blk cs) A1)(hi:g.μ i=.pointer (some ⟨b,0,none⟩))(hx:ev f x=.pointer (some ⟨b,o,none⟩)):∃v a,k a/\AR g a v/\∀w':World,(∀p∈A1,w'.heap[p.1]?=some p.2)->Yld Y.P f (.load t x) ty v w':=by
 obtain⟨b',arr,e,rfl,h2,h3⟩:=hs;rw[hi]at h2;cases h2;have mk:∀{w':World},(∀p∈[(b,Obj.cells arr e (0,0))],w'.heap[p.1]?=some p.2)->St (λ_=>False) w' ([(b,Obj.cells arr e (0,0))]++[]):=λhw=>⟨λ_ h=>h.elim,λp hp=>⟨hw p (by simpa using hp),λh=>h⟩,by simp⟩
 unfold rdB at h;split at h
 .rename_i n hn;obtain⟨ht,h⟩:=Bj h;cases hl:Avm (Y.sig n) (cs.drop o) with
  |none=>rw[hl]at h;exact h.elim
  |some l=>
   rw[hl]at h;simp only[Option.bind_some]at h;split at h
   .rename_i y hy;have hf:=Atp (g:=g) (λa v h=>h.1) hl (h3.drop o);have hfl:=Y.Aa3 n _ _ hy;have hlen:((arr.toList.drop o).take (Y.sig n).length).length=(Y.sig n).length:=by rw[hf.len,<-hfl,<-Y.Acd n y,List.length_map]
    refine⟨.agg ⟨_⟩,_,h,Lc.2 ⟨_,rfl,by rw[hfl];exact hf⟩,λw' hw=>Bb λpos af K' hk=>Abm ht (mk hw) hx rfl hlen hk⟩
   .exact h.elim
 .obtain⟨ht,h⟩:=Bj h;split at h
  .rename_i a ha;obtain⟨v,hv,h5⟩:=h3.get' ha;exact⟨v,a,h,h5.1,λw' hw=>Bb λpos af K' hk=>Afg ht (mk hw) hx (by simpa using hv) hk⟩
  .exact h.elim
theorem Awv{A1 T1:Own}{i:Nat}{cs:List (AV Y)}(h:rdB t cs o k)(hs:SR g i (.blk cs) A1)(hst:St g.I g.w (A1++T1))(hi:g.μ i=.pointer (some ⟨b,0,none⟩))(hx:ev f x=.pointer (some ⟨b,o,none⟩)):∃v a,k a/\AR g a v/\Yld Y.P f (.load t x) ty v g.w:=by obtain⟨v,a,h1,h2,h3⟩:=Ali (ty:=ty) h hs hi hx;exact⟨v,a,h1,h2,h3 g.w λp hp=>(hst.own p (List.mem_append_left _ hp)).1⟩
def rdD(t:TypeId)(T:Ty)(d:den Y.D T)(o:Nat)(k:AV Y->Prop):Prop:=ldD t T d o k
theorem A4c{T:Ty}{d:den Y.D T}{off:Nat}{u:Value}(h:rdD t T d o k)(hr:rp Y.toUS T g.I g.w u d)(hp:E3 g.w ⟨b,off,none⟩ u)(hx:ev f x=.pointer (some ⟨b,off+o,none⟩)):∃v a,k a/\AR g a v/\Yld Y.P f (.load t x) ty v g.w:=by
 unfold rdD ldD at h;have cells:∀{T':Ty}{o:Nat}{y:den Y.D T'},tyB Y.P t (isU T') (sz Y.toUS T')=true->ev f x=.pointer (some ⟨b,off+o,none⟩)->Ajj T' (((Ao0 T d).drop o).take (sz Y.toUS T'))=some y->∃v,rp Y.toUS T' g.I g.w v y/\Yld Y.P f (.load t x) ty v g.w:=λ{T' o y}ht hx hy=>by have hf:=((Aoz hr).drop o).take (sz Y.toUS T');obtain⟨v,hv,hry,_⟩:=Am8 hy hf;exact⟨v,hry,Aau ht (Agf hp (by rw[hv])) hry hx⟩
 split at h
 .rename_i T' hT;obtain⟨ht,h⟩:=Bj h;split at h
  .split at h
   .rename_i e _;subst e;exact⟨u,_,h,hr,Aau ht hp hr hx⟩
   .split at h
    .rename_i y hy;obtain⟨v,h1,h2⟩:=cells (o:=0) ht hx hy;exact⟨v,_,h,h1,h2⟩
    .exact h.elim
  .split at h
   .rename_i y hy;obtain⟨v,h1,h2⟩:=cells ht hx hy;exact⟨v,_,h,h1,h2⟩
   .exact h.elim
 .exact h.elim
def rdX(c:Cf Y)(t:TypeId)(a:AV Y)(k:AV Y->Prop):Prop:=match a with
 | .adr i o=>match lkS c.sg i with
  |some (.blk cs)=>rdB t cs o k
  |_=>False
 | .el i T j o=>match lkS c.sg i with
  |some (.sl T' xs)=>match Ty.dec T T' with
   | .isTrue _=>∃h:j<xs.length,rdD t T' xs[j] o k
   | .isFalse _=>False
  |_=>False
 | .hp w _ o=>match lkS c.sg w with
  |some (.blk cs)=>rdB t cs o k
  |_=>False
 |_=>False
theorem Agb{g0:Gst}{T AH A:Own}{c:Cf Y}(h:RG g0 T c f g AH A){a:AV Y}(hx:rdX c t a k)(ha:AR g a (ev f x)):∃v a,k a/\AR g a v/\Yld Y.P f (.load t x) ty v g.w:=by
 unfold rdX at hx;split at hx
 .split at hx
  .rename_i i o cs hs;obtain⟨A1,A2,h1,h2,h3,_⟩:=h.upd hs;obtain⟨_,b,h4,h5⟩:=ha;exact Awv hx h1 h3 h4 h5
  .exact hx.elim
 .split at hx
  .rename_i T1 j o _ T' xs hs;split at hx
   .rename_i e _;subst e;obtain⟨hj,hx⟩:=hx;obtain⟨A1,A2,h1,h2,h3,_⟩:=h.upd hs;obtain⟨_,b,off,len,cap,h4,h5⟩:=ha;rcases @Cc.ex _ (RT Y.toUS T1) _ _ _ _ _ h1 with ⟨_,h6,_⟩|⟨b',arr,cap',e0,off',rfl,hμ,h6,h7,h8,h9⟩
    .subst h6;simp at hj
    rw[h4]at hμ;cases hμ;obtain⟨u,hu,hc⟩:=h9 j hj;refine A4c hx hu ⟨rfl,λi hi=>?_⟩ h5;rw[B6 h3.heap,Nat.add_assoc];exact hc i hi
   .exact hx.elim
  .exact hx.elim
 .rename_i i b o;obtain⟨h1,h2,h3⟩:=ha;split at hx
  .rename_i cs hs;obtain⟨A1,A2,k1,k2,k3,_⟩:=h.upd hs;exact Awv hx k1 k3 h2 h3
  .exact hx.elim
 .exact hx.elim
end
end
end Go.Y
