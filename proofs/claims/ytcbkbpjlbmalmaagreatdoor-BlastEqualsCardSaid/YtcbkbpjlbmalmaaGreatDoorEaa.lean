/-
  The Y layer, part e: the operations of part d, put together ('vop'). (Merged by program out of 22 texts.)
-/
import Derived.WalkKit
import Derived.OrdersHeld
import Derived.OrdersIn
import Derived.RangeFuncRecord
import Derived.Carry
import Derived.DataShut
import Derived.WideShapes4
import Derived.Maps.RangeRun
open Decidable renaming decide->ξ
open List renaming append_assoc->a0,size_toArray->a5,getElem?_toArray->a6,getElem?_eq_getElem->a7,findIdx?_eq_some_iff_getElem->a9,getElem?_append_left->aa,getElem?_take_of_lt->ab,mem_singleton->ah,getElem?_append_right->ai,length_take->al,eq_nil_of_length_eq_zero->an,nil_append->ao,map_cons->aq,perm_append_comm->ar,mem_append_right->au,length_eraseIdx_of_lt->az,getElem_append_left->b0,getElem?_drop->b3,set_append_right->b7,cons_append->b9,mem_map_of_mem->bb,replicate->bf,getElem_append_right->bi,nodup_append->bj,length_drop->bm,length_cons->bn,cons.injEq->br,map_append->bt,foldl_cons->bu,contains_iff_mem->bw,mem_append_left->bx,Perm.refl->bz,take->c0,getElem?_range->c1,getElem_of_mem->c2,range->c4,length_append->c5,findIdx?_cons->c6,mem_cons_self->c7,getElem?_map->c8,flatMap_cons->c9,zipIdx_cons->cb,all_eq_true->cc,mem_append->ce,nodup_cons->cf,mem_cons->cm,drop->cn,map_nil->cr,mem_map->ct,length->ν
open Bool renaming false_eq_true->a1,and_eq_true->a2,not_eq_true'->aw,or_eq_true->bv,true->ψ,false->χ
open Nat renaming mul_le_mul_right->a3,lt_of_lt_of_le->a8,add_mul->ac,add_assoc->ad,add_sub_cancel_left->ak,le_refl->am,one_mul->b4,le_trans->b5,le_of_ble_eq_true->b8,add_le_add_left->bc,le_mul_of_pos_right->bp,add_zero->bq,zero_le->cd,mul_eq_zero->cg,le_max_left->cj,blt_eq->ck,zero_add->co,sub_self->cp,ble->cq,blt->cu
open Array renaming getElem?_toList->a4,setIfInBounds_comm->aj,getD_eq_getD_getElem?->av,getElem?_eq_some_iff->ax,getElem?_append_left->ay,size_append->b6,range->ba,length_toList->be,toList_setIfInBounds->bg,foldl_toList->bh,toList_push->bk,toList_map->bl,toList_modify->c3,foldl->cv
open Option renaming bind_some->ae,map_some->ap,getD_some->ca,some.inj->ci,some->δ,none->τ
namespace Go
theorem GT{c:Prop}{i:Decidable c}(h:¬c){α:Sort _}{t e:α}:ite c t e=e:=if_neg h
theorem UV{c:Prop}{i:Decidable c}(h:c){α:Sort _}{t e:α}:ite c t e=t:=if_pos h
abbrev qG{a:Prop}{b:Sort _}(h:a)(k:¬a):b:=absurd h k
end Go
namespace Go.X
open Go Go.RowKit
section
abbrev Fr:=Nat->Value
def Is(N:Nat)(a:Array Value)(f:Fr):Prop:=a.size=N/\∀i,a.getD i undef=f i
structure FK where
 fn:FuncId
 ro:Option Nat
 ds:List Deferred
inductive RL where
 |lv (j:Option Code) (f:Fr) (ds:List Deferred)
 |pan (ch:List PanicEntry) (f:Fr) (ds:List Deferred)
def A4m:Option Code->List Item->Prop
 |none,td=>td=[]
 |some .ret,td=>∃k,td=.code .ret::k
 |some (.exit id),td=>∃k,td=.code (.exit id)::k/\exitTo id k=τ
 |_,_=>False
def Ends(P:Program)(N:Nat)(b:Frame)(cs:List Frame)(m:Machine):RL->World->Prop
 | .lv j f ds,w=>∃a td,Is N a f/\A4m j td/\Steps P m (lone (b.atR ⟨a,ds⟩ td) cs w)
 | .pan ch f ds,w=>∃a td,Is N a f/\Steps P m (lone {b.atR ⟨a,ds⟩ td with mode:=.panicking ch} cs w)
def WT(P:Program)(φ:FK)(N:Nat)(todo:List Item)(R:RL->World->Prop)(f:Fr)(w:World):Prop:=∀(b:Frame)(cs:List Frame)(a:Array Value),Is N a f->b.fn=φ.fn->b.kind=.normal->b.roundOf=φ.ro->∃e w',R e w'/\Ends P N b cs (lone (b.atR ⟨a,φ.ds⟩ todo) cs w) e w'
theorem Ends.of_steps{P:Program}{N:Nat}{b:Frame}{cs:List Frame}{m m':Machine}{e:RL}{w:World}(s:Steps P m m')(h:Ends P N b cs m' e w):Ends P N b cs m e w:=by
 cases e with
 |lv j f k=>obtain⟨a,c,d,g,i⟩:=h;exact⟨a,c,d,g,s.trans i⟩
 |pan l f k=>obtain⟨a,c,d,g⟩:=h;exact⟨a,c,d,s.trans g⟩
variable {P:Program} {φ:FK} {N:Nat} {k:List Item} {R:RL->World->Prop} {f:Fr} {w:World}
theorem HA{todo todo':List Item}{w':World}(hs:∀(b:Frame)(cs:List Frame)(a:Array Value),Is N a f->b.kind=.normal->b.roundOf=φ.ro->step P (lone (b.atR ⟨a,φ.ds⟩ todo) cs w)=.next (lone (b.atR ⟨a,φ.ds⟩ todo') cs w'))(h:WT P φ N todo' R f w'):WT P φ N todo R f w:=by intro b cs a i l g d;obtain⟨e,c,k,j⟩:=h b cs a i l g d;exact⟨e,c,k,j.of_steps (.one (hs b cs a i g d))⟩
theorem SE(h:WT P φ N k R f w):WT P φ N (.code .skip::k) R f w:=HA (λ_ _ _ _ _ _=>stepR_skip) h
theorem Acl{l:Nat}(h:WT P φ N k R f w):WT P φ N (.code (.label l)::k) R f w:=HA (λ_ _ _ _ _ _=>stepR_label) h
variable {id:Nat}
theorem LR(h:WT P φ N k R f w):WT P φ N (.inBlock id::k) R f w:=HA (λ_ _ _ _ _ _=>stepR_inBlock) h
variable {x y:Code}
theorem DE(h:WT P φ N (.code x::.code y::k) R f w):WT P φ N (.code (.seq x y)::k) R f w:=HA (λ_ _ _ _ _ _=>stepR_seq) h
variable {c:Code}
theorem LS(h:WT P φ N (.code c::.inBlock id::k) R f w):WT P φ N (.code (.block id c)::k) R f w:=HA (λ_ _ _ _ _ _=>stepR_block) h
theorem VX{k':List Item}(a:exitTo id k=δ k')(h:WT P φ N k' R f w):WT P φ N (.code (.exit id)::k) R f w:=HA (λ_ _ _ _ _ _=>stepR_exit a) h
theorem A2f(h:WT P φ N (.code c::.inLoop c::k) R f w):WT P φ N (.inLoop c::k) R f w:=HA (λ_ _ _ _ _ _=>stepR_inLoop) h
theorem Asv(h:WT P φ N (.code c::.inLoop c::k) R f w):WT P φ N (.code (.loop c)::k) R f w:=HA (λ_ _ _ _ _ _=>stepR_loop) h
theorem Anb(h:WT P φ N (.code c::.inScope c::k) R f w):WT P φ N (.code (.scope c)::k) R f w:=
 HA (λb d a _ _ _=>step_lone_go (by rfl)) h
theorem Af0(h:WT P φ N k R f w):WT P φ N (.inScope c::k) R f w:=
 HA (λb d a _ _ _=>step_lone_go (by rfl)) h
def A1r(p:Prop):Prop:=p
theorem A1r.out{p:Prop}(h:A1r p):p:=h
theorem ZW(S:Nat->Fr->World->Prop)(n:Nat)(g:S n f w)(a:∀n f w,S n f w->A1r (∀m f' w',m<n->S m f' w'->WT P φ N (.inLoop c::k) R f' w')->WT P φ N (.code c::.inLoop c::k) R f w):WT P φ N (.code (.loop c)::k) R f w:=by
 have d:∀n f w,S n f w->WT P φ N (.code c::.inLoop c::k) R f w:=by
  intro n;induction n using Nat.strongRecOn with
  |_ n h=>exact λf w e=>a n f w e λm f' w' i b=>A2f (h m i f' w' b)
 grind[Asv]
def ev(f:Fr):Operand->Value
 | .tmp t=>f t
 | .const v=>v
 | .global g=>.pointer (δ ⟨g,0,τ⟩)
 | .func f=>.func (.func f) #[] #[]
def DO(N:Nat)(f:Fr)(d:Nat)(v:Value):Fr:=λj=>if j=d then (if d<N then v else undef) else f j
def put(N:Nat)(f:Fr)(dst:Option Tmp)(v:Value):Fr:=
 match dst with
 |some d=>DO N f d v
 |none=>f
variable {ds:List Deferred} {a:Array Value}
theorem TR(b:Is N a f)(x:Operand):(Act.eval ⟨a,ds⟩) x=ev f x:=by
 cases x with
 |tmp t=>exact b.2 t
 |const v|global g|func g=>rfl
theorem Hu(ha:Is N a f):(Act.eval ⟨a,ds⟩)=ev f:=funext (TR ha)
theorem Is.put(ha:Is N a f)(d:Option Tmp)(v:Value):∃a',(Act.put ⟨a,ds⟩ d v)=⟨a',ds⟩/\Is N a' (put N f d v):=by
 cases d with
 |none=>exact⟨a,rfl,ha⟩
 |some d=>
  refine⟨_,rfl,by simp [ha.1],λi=>?_⟩;have hi:=ha.2 i;have hs:=ha.1;simp only[av]at hi ⊢;show _=DO N f d v i;grind[DO]
theorem ZX{c:Operand}{t:Bool}(b:ev f c=.bool t)(d:t=ψ->WT P φ N (.code x::k) R f w)(e:t=χ->WT P φ N (.code y::k) R f w):WT P φ N (.code (.cond c x y)::k) R f w:=by
 cases t
 .exact HA (λ_ _ _ a _ _=>stepR_cond (t:=χ) (by grind[TR])) (e rfl)
 .exact HA (λ_ _ _ a _ _=>stepR_cond (t:=ψ) (by grind[TR])) (d rfl)
theorem SB{c:Operand}(a:ev f c=.bool ψ)(h:WT P φ N (.code x::k) R f w):WT P φ N (.code (.cond c x y)::k) R f w:=ZX a (λ_=>h) (by simp)
theorem Pg{c:Operand}(a:ev f c=.bool χ)(h:WT P φ N (.code y::k) R f w):WT P φ N (.code (.cond c x y)::k) R f w:=ZX a (by simp) (λ_=>h)
theorem Awb{j:Option Code}{td:List Item}(c:A4m j td)(h:R (.lv j f φ.ds) w):WT P φ N td R f w:=λ_ _ a b _ _ _=>⟨_,w,h,a,td,b,c,Steps.refl _ _⟩
theorem NU(h:R (.lv (δ .ret) f φ.ds) w):WT P φ N (.code .ret::k) R f w:=Awb (j:=δ .ret) ⟨k,rfl⟩ h
theorem Un(h:R (.lv τ f φ.ds) w):WT P φ N [] R f w:=Awb (j:=τ) rfl h
abbrev Rnd(P:Program)(l:Nat)(g:FuncId)(tmps:Array Value)(assign body:Code)(w:World)(R:Ending->World->Prop):Prop:=RoundIn Fence.wide 0 P l g tmps assign body w R
def UP(P:Program)(R:List PanicEntry->World->Prop)(m:Bool)(next:Value->World->Prop):Result Next->Prop
 | .ok (.value v) w=>next v w
 | .ok .skip w=>m=χ/\next undef w
 | .ok (.enter g args) w=>m=χ/\Calls P g args w λe w'=>match e with
  | .returned v=>next v w'
  | .panicked ch=>R ch w'
  | .outgrown=>False
 | .ok (.round l g tmps assign body) w=>m=χ/\Rnd P l g tmps assign body w λe w'=>match e with
  | .returned v=>next v w'
  | .panicked ch=>R ch w'
  | .outgrown=>False
 | .halt (.panic v) w=>m=χ/\R [{v,recovered:=χ}] w
 |_=>False
theorem UP.mono{R:List PanicEntry->World->Prop}{m:Bool}{next next':Value->World->Prop}{r:Result Next}(c:∀v w,next v w->next' v w)(h:UP P R m next r):UP P R m next' r:=by
 have f:∀(e:Ending)(a:World),(match e with | .returned v=>next v a | .panicked b=>R b a | .outgrown=>False:Prop)->(match e with | .returned v=>next' v a | .panicked b=>R b a | .outgrown=>False:Prop):=λe a h=>by grind
 cases r with
 |ok j a=>
  cases j with
  |value v=>exact c _ _ h
  |skip=>exact⟨h.1,c _ _ h.2⟩
  |enter g d=>exact⟨h.1,Calls.mono h.2 f⟩
  |round l g i n k=>exact⟨h.1,RoundIn.mono h.2 f⟩
  |_=>exact False.elim h
 |halt x a=>
  cases x with
  |panic v=>exact h
  |_=>exact False.elim h
variable {next:Value->World->Prop}
theorem Aca{R:List PanicEntry->World->Prop}(r:Result Next)(h:UP P R ψ next r):∃v w',r=.ok (.value v) w'/\next v w':=by
 cases r with
 |ok c w'=>
  cases c with
  |value v=>exact⟨v,w',rfl,h⟩
  |skip|enter g b|round l g a d e=>exact qG h.1 (by decide)
  |_=>exact False.elim h
 |halt x w'=>
  cases x with
  |panic v=>exact qG h.1 (by decide)
  |_=>exact False.elim h
def yl(ops:Array Oper)(f:Fr)(j:Nat):Option Bool:=
 match (ops[j]?).bind (·.dst) with
 |some d=>match f d with
  | .bool b=>δ b
  |_=>τ
 |none=>τ
theorem Wr{ops:Array Oper}(b:Is N a f):yielded ops a=yl ops f:=by
 funext j;unfold yielded yl;cases c:(ops[j]?).bind (·.dst) with
 |none=>rfl
 |some d=>
  have:=b.2 d;simp only[ae];rw[<-this,av];cases h:a[d]? with
  |none=>rfl
  |some v=>cases v<;>rfl
def WL(P:Program)(N:Nat)(ops:Array Oper)(R:List PanicEntry->World->Prop)(m:Bool)(K:Fr->World->Prop):List Oper->Fr->World->Prop
 | [],f,w=>K f w
 |o::os,f,w=>
  if Region.wanted o (yl ops f) then UP P R m (λv w'=>WL P N ops R m K os (put N f o.dst v) w') ((execOp (ev f) o).run P w)
  else WL P N ops R m K os (put N f o.dst undef) w
def FK.NG(φ:FK):Fence:={Fence.wide with round:=φ.ro}
theorem Oa{m m':Machine}(h:StepsIn (Machine.fenced P φ.NG) P m m'):Steps P m m':=h.steps
def Qx(P:Program)(φ:FK)(N:Nat)(k:List Item)(R:RL->World->Prop):Exit->Act->World->Prop
 | .normal,a,w=>a.defers=φ.ds/\∃f,Is N a.tmps f/\WT P φ N k R f w
 | .panic ch,a,w=>a.defers=φ.ds/\∃f,Is N a.tmps f/\R (.pan ch f φ.ds) w
 |_,_,_=>False
abbrev FK.at(φ:FK)(R:RL->World->Prop):List PanicEntry->World->Prop:=λch w=>∀f,R (.pan ch f φ.ds) w
theorem Az6{N:Nat}(h:a.size=N):Is N a λi=>a.getD i undef:=⟨h,λ_=>rfl⟩
theorem Ack(h:∀a,Is N a f->c.wpIn φ.NG 0 P (Qx P φ N k R) ⟨a,φ.ds⟩ w):WT P φ N (.code c::k) R f w:=by
 intro b r a B v z s;obtain⟨e,q,D,m,g⟩:=h a B b k r s trivial (λd j=>(by cases j));cases e with
 |normal=>
  obtain⟨j,u,i,C⟩:=m;obtain⟨t,d⟩:=q;simp only at j;subst j;obtain⟨e,o,p,y⟩:=C b r t i v z s;exact⟨e,o,p,y.of_steps (Oa g)⟩
 |panic A=>
  obtain⟨j,u,i,p⟩:=m;obtain⟨t,d⟩:=q;simp only at j;subst j;obtain⟨n,x⟩:=g;exact⟨.pan A u φ.ds,D,p,t,n,i,Oa x⟩
 |exit E|goto l|ret|outgrown=>exact m.elim
theorem Ae6{g:FuncId}{args:Array Value}{R:Ending->World->Prop}(h:Calls P g args w R):CallsIn φ.NG (0-1) P g args w R:=(callsIn_wide (n:=0-1)).2 h
theorem Adb{l:Nat}{g:FuncId}{tmps:Array Value}{aE bd:Code}{R:Ending->World->Prop}(h:Rnd P l g tmps aE bd w R):RoundIn φ.NG (0-1) P l g tmps aE bd w R:=h
variable {o:Oper}
theorem Ac6{R:List PanicEntry->World->Prop}{ro:Option Nat}{ρ:Operand->Value}{m:Bool}(h:UP P R m next ((execOp ρ o).run P w)):(o.semAt ro ρ).run P w=(execOp ρ o).run P w:=by
 cases ro with
 |none=>rfl
 |some l=>
  by_cases b:∃c,o.op=.defer c
  .obtain⟨c,a⟩:=b;obtain⟨i,p,g,e,n,k⟩:=o;simp only at a;subst a;simp only[Oper.semAt,execOp,Sem.run_bind]at h ⊢;cases f:(resolve ρ c g).run P w with
   |ok d j=>simp_all[Result.andThen,UP]
   |halt x j=>rfl
  grind[Oper.semAt_eq]
theorem Wu{Rp:List PanicEntry->World->Prop}{K':Act->World->Prop}(c:∀ch w,Rp ch w->∃f,Is N a f/\R (.pan ch f φ.ds) w)(b:∀v w',next v w'->K' (Act.put ⟨a,φ.ds⟩ o.dst v) w')(h:UP P Rp χ next ((execOp (Act.eval ⟨a,φ.ds⟩) o).run P w)):o.wpIn φ.NG 0 P ⟨a,φ.ds⟩ w K' (Qx P φ N k R):=by
 refine⟨λf _=>trivial,?_⟩;rw[Ac6 h];generalize (execOp (Act.eval ⟨a,φ.ds⟩) o).run P w=r at h;cases r with
 |ok n w'=>
  cases n with
  |value v=>exact b _ _ h
  |skip=>exact b _ _ h.2
  |enter g m=>
   refine⟨λd=>(by cases d),Ae6 (Calls.mono h.2 λe i=>?_)⟩;cases e with
   |returned v=>grind
   |panicked ch=>exact λh=>⟨rfl,c _ _ h⟩
   |outgrown=>simp
  |round l g j p q=>
   refine⟨λd=>(by cases d),Adb (RoundIn.mono h.2 λe i=>?_)⟩;cases e with
   |returned v=>grind
   |panicked ch=>exact λh=>⟨rfl,c _ _ h⟩
   |outgrown=>simp
  |_=>exact False.elim h
 |halt x w'=>
  cases x with
  |panic v=>exact⟨rfl,c _ _ h.2⟩
  |_=>exact False.elim h
def Amt(ops:Array Oper)(t:Nat):Prop:=∀(i:Nat)(o:Oper),ops[i]?=δ o->o.dst≠δ t
theorem Aog{ops:Array Oper}{i:Nat}{t:Nat}{v:Value}(a:ops[i]?=δ o)(h:Amt ops t):put N f o.dst v t=f t:=by
 have:=h i o a;cases b:o.dst with
 |none=>rfl
 |some d=>rw[b]at this;exact GT λe=>this (by rw[e])
theorem Vk{ops:Array Oper}{Rp:List PanicEntry->World->Prop}{f0:Fr}(n:∀ch w f,(∀t,Amt ops t->f t=f0 t)->Rp ch w->R (.pan ch f φ.ds) w):∀(os:List Oper)(l:List Nat)(f:Fr)(w:World)(a:Array Value),Is N a f->(∀t,Amt ops t->f t=f0 t)->l.map (ops[·]?)=os.map δ->WL P N ops Rp χ (WT P φ N k R) os f w->wpOpsIn φ.NG 0 P ops (Qx P φ N k R) l ⟨a,φ.ds⟩ w
 | [],[],f,w,a,d,_,_,h=>by exact⟨rfl,f,d,h⟩
 |[],_::_,_,_,_,_,_,b,_|_::_,[],_,_,_,_,_,b,_=>by grind
 |o::os,i::l,f,w,a,d,q,b,h=>by
  simp only[aq,br]at b;obtain⟨m,b⟩:=b;simp only[wpOpsIn,m];simp only[WL]at h;rw[Wr d];have g:∀v t,Amt ops t->put N f o.dst v t=f0 t:=λv t p=>(Aog m p).trans (q t p);have c:∀v e,WL P N ops Rp χ (WT P φ N k R) os (put N f o.dst v) e->wpOpsIn φ.NG 0 P ops (Qx P φ N k R) l (Act.put ⟨a,φ.ds⟩ o.dst v) e:=λv e r=>by obtain⟨x,u,s⟩:=d.put o.dst v;rw[u];exact Vk n os l _ _ _ s (g v) b r
  split at h
  .rename_i j;simp only[j,if_true];grind[Wu,Hu]
  .rename_i j;simp only[j,if_false,a1];exact⟨λ_ _=>trivial,c _ _ h⟩
theorem Rw(ops:Array Oper):(c4 ops.size).map (ops[·]?)=ops.toList.map δ:=by
 apply List.ext_getElem
 .simp
 simp
theorem Vj{ops:Array Oper}{Rp:List PanicEntry->World->Prop}(b:∀ch w f',(∀t,Amt ops t->f' t=f t)->Rp ch w->R (.pan ch f' φ.ds) w)(h:WL P N ops Rp χ (WT P φ N k R) ops.toList f w):WT P φ N (.code (.region id ops χ)::k) R f w:=Ack λa c=>wpIn_region (Vk b _ _ _ _ a c (λ_ _=>rfl) (Rw ops) h)
theorem CK{ops:Array Oper}(h:WL P N ops (φ.at R) χ (WT P φ N k R) ops.toList f w):WT P φ N (.code (.region id ops χ)::k) R f w:=Vj (λ_ _ a _ h=>h a) h
def YE:List Value->Fr
 | []=>λ_=>undef
 |v::vs=>fun
  |0=>v
  |j+1=>YE vs j
theorem MT:∀(vs:List Value)(i:Nat),(vs[i]?).getD undef=YE vs i
 | [],i=>by rfl
 |v::vs,0=>rfl
 |v::vs,i+1=>MT vs i
def Lv(P:Program)(F:Func)(N:Nat)(f:Fr)(R:Ending->World->Prop):List Deferred->FrameMode->World->Prop
 | [],.returning,w=>∃v,(∀a,Is N a f->(results F a).run P w=.ok v w)/\R (.returned v) w
 | [],.panicking ch,w=>R (.panicked ch) w
 | [],.run,_=>False
 |d::ds,u,w=>u≠.run/\((∃b,d.target=.collected b/\w.heap[b]?=δ (.deferred (δ []))/\Lv P F N f R ds u (w.putObj b (.deferred τ))) ∨
  (∃fv cap g args,d.target=.fn fv cap/\(invoke d.target d.args).run P w=.ok (.enter g args) w/\CallsD P g args u w fun
   | .returned _,u',w'=>Lv P F N f R ds (settle u') w'
   | .panicked chain,u',w'=>Lv P F N f R ds (raised u' chain) w'
   | .outgrown,_,_=>False))
def Amr(P:Program)(F:Func)(N:Nat)(R:Ending->World->Prop):RL->World->Prop
 | .lv (δ .ret) f ds,w | .lv τ f ds,w=>Lv P F N f R ds .returning w
 | .pan ch f ds,w=>Lv P F N f R ds (.panicking ch) w
 |_,_=>False
theorem step_collected{fr:Frame}{cs:List Frame}{w:World}{d:Deferred}{b:Nat}(h:fr.defers=d::ds)(f:d.target=.collected b)(g:w.heap[b]?=δ (.deferred (δ [])))(i:fr.mode≠.run):step P (lone fr cs w)=.next (lone {fr with defers:=ds} cs (w.putObj b (.deferred τ))):=by obtain⟨t,a⟩:=d;simp only at f;subst f;refine step_lone_go ?_;simp_all[stepG,unwind,Sem.runT_eq,run_takeDeferred,GStep.bare_after]
theorem Ad9{F:Func}{R:Ending->World->Prop}:∀(ds:List Deferred)(u:FrameMode)(w:World)(fr:Frame)(cs:List Frame),fr.mode=u->fr.defers=ds->Is N fr.tmps f->P.funcs[fr.fn]?=δ F->fr.kind=.normal->Lv P F N f R ds u w->∃e w' fr',R e w'/\Comes P (lone fr cs w) (lone fr' cs w') e/\fr'.fn=fr.fn/\fr'.leaving P w' e:=by
 intro ds;induction ds with
 |nil=>
  intro u w fr cs s z A t y h;cases u with
  |run=>exact h.elim
  |returning=>
   obtain⟨v,K,B⟩:=h;exact⟨.returned v,w,fr,B,Steps.refl P _,rfl,s,z,y,F,t,K _ A⟩
  |panicking a=>exact⟨.panicked a,w,fr,h,Steps.refl P _,rfl,s,z,F,t⟩
 |cons d ds H=>
  intro u w fr cs s z A t y h;obtain⟨q,h|h⟩:=h
  .obtain⟨b,k,O,M⟩:=h;have E:=step_collected (P:=P) (cs:=cs) z k O (s▸q);obtain⟨x,m,fr',o,n,i,l⟩:=H u _ {fr with defers:=ds} cs s rfl A t y M;exact⟨x,m,fr',o,Comes.of_steps (.one E) n,i,l⟩
  obtain⟨S,L,g,J,k,D,r⟩:=h;have E:=step_defer (cs:=cs) (s▸q) z k D;obtain⟨e,p,w',Q,B,j,G,C⟩:=r {fr with defers:=ds} cs s;cases e with
  |returned v=>
   have I:=step_going_returned (c:={{fr with defers:=ds} with mode:=p}) (cs:=cs) G C;obtain⟨x,m,fr',o,n,i,l⟩:=H (settle p) w' {{{fr with defers:=ds} with mode:=p} with mode:=settle p} cs rfl rfl A t y B;exact⟨x,m,fr',o,Comes.of_steps (.head E (Steps.trans j (.one I))) n,i,l⟩
  |panicked a=>
   have I:=step_going_panicked (c:={{fr with defers:=ds} with mode:=p}) (cs:=cs) C;obtain⟨x,m,fr',o,n,i,l⟩:=H (raised p a) w' {{{fr with defers:=ds} with mode:=p} with mode:=raised p a} cs rfl rfl A t y B;exact⟨x,m,fr',o,Comes.of_steps (.head E (Steps.trans j (.one I))) n,i,l⟩
  |outgrown=>grind
theorem Jg{q:FuncId}{F:Func}{vs:List Value}{R:Ending->World->Prop}(D:P.funcs[q]?=δ F)(K:F.body=δ c)(I:F.ntmps=N)(O:ν vs<=N)(h:WT P ⟨q,τ,[]⟩ N [.code c] (Amr P F N R) (YE vs) w):Calls P q ⟨vs⟩ w R:=by
 intro m;let b:Frame:={(default:Frame) with fn:=q,kind:=.normal,roundOf:=τ}
 have f:Frame.enter P q ⟨vs⟩ .normal=b.atR ⟨(vs++bf (N-ν vs) undef).toArray,[]⟩ [.code c]:=by simp [Frame.enter,Frame.atR,D,K,I,b]
 obtain⟨e,g,v,y⟩:=h b m (vs++bf (N-ν vs) undef).toArray ⟨by grind,λi=>by rw[<-MT,av,a6];grind⟩ rfl rfl rfl
 rw[<-f]at y;cases e with
 |pan E H k=>
  obtain⟨a,t,A,z⟩:=y;obtain⟨C,o,r,s,n,d,p⟩:=Ad9 k (.panicking E) g {b.atR ⟨a,k⟩ t with mode:=.panicking E} m rfl rfl A D rfl v;exact⟨C,o,r,s,Comes.of_steps z n,d,p⟩
 |lv j H k=>
  obtain⟨a,t,A,G,z⟩:=y;have u:step P (lone (b.atR ⟨a,k⟩ t) m g)=.next (lone {b.atR ⟨a,k⟩ t with mode:=.returning} m g)->Lv P F N H R k .returning g->∃e g B,R e g/\Comes P (lone (Frame.enter P q ⟨vs⟩ .normal) m w) (lone B m g) e/\B.fn=q/\B.leaving P g e:=λx L=>by obtain⟨C,o,r,s,n,d,p⟩:=Ad9 k .returning g {b.atR ⟨a,k⟩ t with mode:=.returning} m rfl rfl A D rfl L;exact⟨C,o,r,s,Comes.of_steps (z.trans (.one x)) n,d,p⟩
  cases j with
  |none=>obtain rfl:t=[]:=G;exact u (stepR_end rfl) v
  |some j=>
   cases j with
   |ret=>obtain⟨M,rfl⟩:=G;exact u (stepR_ret rfl) v
   |_=>exact v.elim
section
variable {R:RL->World->Prop} {Rp:List PanicEntry->World->Prop} {ops:Array Oper} {S:World->Prop} {n:Nat} {l:Array Bool} {E:List Nat} {w1:World} {V:Act->World->Prop}
def OpA(P:Program)(ops:Array Oper)(R:List PanicEntry->World->Prop)(i:Nat)(K:Act->World->Prop)(a:Act)(w:World):Prop:=match ops[i]? with
 |none=>False
 |some o=>if Region.wanted o (yielded ops a.tmps) then UP P R χ (λv w'=>K (a.put o.dst v) w') ((execOp a.eval o).run P w) else K (a.put o.dst undef) w
theorem OpA.mono{i:Nat}{K K':Act->World->Prop}{a:Act}{w:World}(c:∀a w,K a w->K' a w)(h:OpA P ops Rp i K a w):OpA P ops Rp i K' a w:=by
 unfold OpA at *;split at h
 .omega
 .split at h
  .rename_i b;rw[UV b];exact h.mono λv w=>c _ _
  grind
def Yk(P:Program)(ops:Array Oper)(R:List PanicEntry->World->Prop)(V:Act->World->Prop)(S:World->Prop):Nat->Array Bool->Act->World->Prop
 |0,l,a,w=>Region.ready .any ops l=[]/\V a w
 |n+1,l,a,w=>(Region.ready .any ops l=[]->V a w)/\∀i∈Region.ready .any ops l,OpA P ops R i (λa' w'=>S w'/\Yk P ops R V S n (l.setIfInBounds i ψ) a' w') a w
def YX(P:Program)(ops:Array Oper)(R:List PanicEntry->World->Prop)(V:Act->World->Prop)(S:World->Prop)(E:List Nat)(w1:World):Nat->Array Bool->Act->World->Prop
 |0,l,a,w=>Region.ready .any ops l=[]/\V a w
 |n+1,l,a,w=>(Region.ready .any ops l=[]->V a w)/\∀i∈Region.ready .any ops l,
  OpA P ops R i (λa' w'=>if E.contains i then S w'/\Yk P ops R V S n (l.setIfInBounds i ψ) a' w' else w'=w1/\YX P ops R V S E w1 n (l.setIfInBounds i ψ) a' w') a w
theorem Z9(c:S w1):∀(n:Nat)(l:Array Bool)(a:Act)(w:World),YX P ops Rp V S E w1 n l a w->Yk P ops Rp V S n l a w
 |0,_,_,_,h=>h
 |n+1,l,a,w,h=>⟨h.1,λi e=>(h.2 i e).mono λf g b=>by
  by_cases d:E.contains i=ψ
  .grind
  .rw[GT d]at b;exact⟨b.1▸c,Z9 c n _ f g b.2⟩⟩
def WG(P:Program)(φ:FK)(N:Nat)(ops:Array Oper)(k:List Item)(R:RL->World->Prop)(S:World->Prop)(n:Nat)(l:Array Bool)(f:Fr)(w:World):Prop:=∀a,Is N a f->Yk P ops (φ.at R) (λa w=>a.defers=φ.ds/\∃f,Is N a.tmps f/\WT P φ N k R f w) S n l ⟨a,φ.ds⟩ w
theorem Q1{a:Act}{d:Option Tmp}{v:Value}:(a.put d v).defers=a.defers:=by cases d<;>rfl
theorem Ue{a:Act}{d:Option Tmp}{v:Value}:(a.put d v).tmps.size=a.tmps.size:=by cases d<;>simp [Act.put]
theorem Qw:∀(n:Nat)(l:Array Bool)(a:Act)(w:World),a.defers=φ.ds->a.tmps.size=N->Yk P ops (φ.at R) (λa w=>a.defers=φ.ds/\∃f,Is N a.tmps f/\WT P φ N k R f w) S n l a w->wpAnyIn φ.NG 0 P .any ops (Qx P φ N k R) n l a w
 |0,_,_,_,_,_,h=>h
 |n+1,l,⟨a,_⟩,w,e,c,h=>by
  simp only at e;subst e;refine⟨h.1,λi m=>?_⟩;have b:=h.2 i m;unfold OpA at b;unfold wpOpIn;split at b
  .grind
  .rename_i o j;simp only[j];split at b
   .rename_i d;simp only[d,if_true];exact Wu (λp w h=>⟨_,Az6 c,h _⟩) (λv q g=>Qw n _ _ _ Q1 (Ue.trans c) g.2) b
   .rename_i d;simp only[d,if_false,a1];exact⟨λ_ _=>trivial,Qw n _ _ _ Q1 (Ue.trans c) b.2⟩
theorem Ah3{id m:Nat}{l:Array Bool}(S:World->Prop)(c:P.follows .mixedOrders=ψ)(d:ops.size=m)(e:Array.replicate m χ=l)(h:WG P φ N ops k R S m l f {w with drawn:=w.drawn+1}):WT P φ N (.code (.region id ops ψ)::k) R f w:=
 Ack λa b=>wpIn_region_any c (by subst d e;exact Qw _ _ _ _ rfl b.1 (h a b))
theorem QL{i:Nat}{o:Oper}{K:Fr->World->Prop}{K':Act->World->Prop}{ds:List Deferred}{a:Array Value}(d:Is N a f)(hi:ops[i]?=δ o)(k:∀f' w' a',Is N a' f'->K f' w'->K' ⟨a',ds⟩ w')(h:WL P N ops Rp χ K [o] f w):OpA P ops Rp i K' ⟨a,ds⟩ w:=by
 unfold OpA;simp only[hi];simp only[WL]at h;rw[Wr d];have b:∀v w',K (put N f o.dst v) w'->K' (Act.put ⟨a,ds⟩ o.dst v) w':=λv w' j=>by obtain⟨a',g,e⟩:=d.put o.dst v;rw[g];grind
 split at h
 .rename_i c;simp only[c,if_true];rw[Hu d];exact h.mono b
 grind
end
end
section
abbrev Cb:=Nat->Prop
abbrev Bi:=List (Nat×Obj)
structure Ext(I:Cb)(w:World)(I':Cb)(w':World):Prop where
 os:w'.os=w.os
 tape:w'.tape=w.tape
 output:w'.output=w.output
 size:w.heap.size<=w'.heap.size
 sub:∀b,I b->I' b
 BX:∀b,I b->w'.heap[b]?=w.heap[b]?
theorem Ext.refl(I:Cb)(w:World):Ext I w I w:=⟨rfl,rfl,rfl,am _,λ_ h=>h,λ_ _=>rfl⟩
variable {I:Cb} {w w':World}
theorem Ext.trans{I' I'':Cb}{w'':World}(h:Ext I w I' w')(k:Ext I' w' I'' w''):Ext I w I'' w'':=⟨k.os.trans h.os,k.tape.trans h.tape,k.output.trans h.output,b5 h.size k.size,λb a=>k.sub b (h.sub b a),λb a=>(k.BX b (h.sub b a)).trans (h.BX b a)⟩
structure St(I:Cb)(w:World)(T:Bi):Prop where
 imm:∀b,I b->b<w.heap.size
 own:∀p∈T,w.heap[p.1]?=δ p.2/\¬I p.1
 nodup:(T.map (·.1)).Nodup
variable {T:Bi}
theorem St.perm{T':Bi}(h:St I w T)(a:T.Perm T'):St I w T':=⟨h.imm,λp b=>h.own p (a.symm.mem_iff.1 b),(a.map _).nodup_iff.1 h.nodup⟩
theorem St.Y2{A B:Bi}(h:St I w (A++(B++T))):St I w (B++(A++T)):=
 h.perm (by rw[<-a0,<-a0];exact ar.append_right _)
theorem St.drop{A:Bi}(h:St I w (A++T)):St I w T:=
 ⟨h.imm,λp a=>h.own p (au _ a),by have:=h.nodup;grind⟩
theorem St.freeze{I:Cb}{w:World}{A T:Bi}(h:St I w (A++T)):Ext I w (λb=>I b∨∃p∈A,p.1=b) w/\St (λb=>I b∨∃p∈A,p.1=b) w T:=by
 refine⟨⟨rfl,rfl,rfl,am _,λ_ a=>.inl a,λ_ _=>rfl⟩,?_,?_,h.drop.nodup⟩
 .rintro b (a|⟨p,c,rfl⟩)
  .exact h.imm b a
  .have:=(h.own p (bx _ c)).1;grind
 .intro p c;refine⟨(h.own p (au _ c)).1,?_⟩;rintro(a|⟨q,e,f⟩)
  .exact(h.own p (au _ c)).2 a
  .have d:=h.nodup;rw[bt,bj]at d;grind[bb]
theorem World.YD(w:World)(o:Obj):(w.alloc o).heap[w.heap.size]?=δ o:=by show (w.heap.push o)[w.heap.size]?=_;rw[Array.getElem?_push,UV rfl]
theorem St.alloc(h:St I w T)(o:Obj):Ext I w I (w.alloc o)/\St I (w.alloc o) ([(w.heap.size,o)]++T):=by
 have d:∀b,b<w.heap.size->(w.alloc o).heap[b]?=w.heap[b]?:=λb c=>Below.heap_alloc w o b c;have e:∀p∈T,p.1<w.heap.size:=λp a=>(ax.1 (h.own p a).1).1;refine⟨⟨rfl,rfl,rfl,by simp,λ_ c=>c,λb c=>d b (h.imm b c)⟩,?_,?_,?_⟩
 .intro b c;have:=h.imm b c;grind
 .intro p a;rcases ce.1 a with a|a
  .obtain rfl:p=(w.heap.size,o):=by grind
   refine⟨World.YD w o,λc=>?_⟩;have:=h.imm _ c;omega
  .exact⟨by rw[d _ (e p a)];exact(h.own p a).1,(h.own p a).2⟩
 .simp only[b9,ao,aq,cf];refine⟨λf=>?_,h.nodup⟩;grind
theorem St.write{b:Nat}{o o':Obj}(h:St I w ([(b,o)]++T))(k:w'.os=w.os)(n:w'.tape=w.tape)(f:w'.output=w.output)(hs:w'.heap.size=w.heap.size)(l:w'.heap[b]?=δ o')(g:∀c,c≠b->w'.heap[c]?=w.heap[c]?):Ext I w I w'/\St I w' ([(b,o')]++T):=by
 have m:∀c,I c->c≠b:=λc d e=>by subst e;exact(h.own (c,o) (by simp)).2 d
 have i:=h.nodup;simp only[b9,ao,aq,cf]at i;refine⟨⟨k,n,f,by omega,λ_ h=>h,λc d=>g c (m c d)⟩,λc d=>by rw[hs];exact h.imm c d,?_,by grind⟩;intro p a;simp only[b9,ao,cm]at a;rcases a with rfl|a
 .grind
 .have j:p.1≠b:=λe=>i.1 (by grind);have:=h.own p (by simp [a]);grind
theorem St.drew(h:St I w T)(n:Nat):Ext I w I {w with drawn:=n}/\St I {w with drawn:=n} T:=
 ⟨⟨rfl,rfl,rfl,am _,λ_ h=>h,λ_ _=>rfl⟩,h.imm,h.own,h.nodup⟩
def Dn(w:World)(a:Addr)(v:Value):Prop:=a.spot=τ/\∀j,j<v.cells.size->w.cell? ⟨a.block,a.off+j,τ⟩=v.cells[j]?
theorem cell?_of_heap{a:Addr}(h:w'.heap[a.block]?=w.heap[a.block]?):w'.cell? a=w.cell? a:=by grind[World.cell?]
theorem Dn.mono{I I':Cb}{w w':World}{a:Addr}{v:Value}(h:Ext I w I' w')(c:I a.block)(b:Dn w a v):Dn w' a v:=⟨b.1,λj d=>(cell?_of_heap (a:=⟨a.block,a.off+j,τ⟩) (h.BX _ c)).trans (b.2 j d)⟩
def Pd:Nat:=9223372036854775807
class AT(α:Type) where
 size:Nat
 agg:Bool
 rep:Cb->World->Value->α->Prop
 pos:0<size
 cells:∀{I w v x},rep I w v x->v.cells.size=size
 form:∀{I w v x},rep I w v x->if agg then ∃cs,v=.agg cs else v.cells=#[v]
 one:∀{I w v x},rep I w v x->∀c∈v.cells.toList,c.oneCell'=ψ
 mono:∀{I w I' w' v x},Ext I w I' w'->rep I w v x->rep I' w' v x
abbrev rep{α:Type}[AT α](I:Cb)(w:World)(v:Value)(x:α):Prop:=AT.rep I w v x
theorem Ext.rep{α:Type}[AT α]{I I':Cb}{w w':World}{v:Value}{x:α}(h:Ext I w I' w')(r:rep I w v x):X.rep I' w' v x:=AT.mono h r
structure Ar2(v:Value)(n:Int):Prop where
 eq:v=.int .i64 n
 lo:-9223372036854775808<=n
 hi:n<=9223372036854775807
instance:AT Int where
 size:=1
 agg:=χ
 rep _ _ v n:=Ar2 v n
 pos:=by decide
 cells h:=by rw[h.eq];rfl
 form h:=by rw[h.eq];simp [Value.cells]
 one h:=by rw[h.eq];simp [Value.cells,Value.oneCell']
 mono _ h:=h
instance:AT Bool where
 size:=1
 agg:=χ
 rep _ _ v b:=v=.bool b
 pos:=by decide
 cells h:=by subst h;rfl
 form h:=by subst h;simp [Value.cells]
 one h:=by subst h;simp [Value.cells,Value.oneCell']
 mono _ h:=h
instance:AT ByteArray where
 size:=1
 agg:=χ
 rep _ _ v s:=v=.string s/\s.size<=Pd
 pos:=by decide
 cells h:=by rw[h.1];rfl
 form h:=by rw[h.1];simp [Value.cells]
 one h:=by rw[h.1];simp [Value.cells,Value.oneCell']
 mono _ h:=h
def Akm{α:Type}[AT α](I:Cb)(w:World)(a:Option Addr)(xs:List α):Prop:=xs=[]∨∃b off,a=δ ⟨b,off,τ⟩/\I b/\∀j(h:j<ν xs),∃v,rep I w v xs[j]/\Dn w ⟨b,off+j*AT.size α,τ⟩ v
theorem Akm.mono{α:Type}[AT α]{I I':Cb}{w w':World}{a:Option Addr}{xs:List α}(h:Ext I w I' w')(e:Akm I w a xs):Akm I' w' a xs:=by
 rcases e with e|⟨b,c,k,d,g⟩
 .exact .inl e
 .refine .inr ⟨b,c,k,h.sub b d,λj l=>?_⟩;obtain⟨v,i,f⟩:=g j l;exact⟨v,h.rep i,Dn.mono h d f⟩
structure Afk{α:Type}[AT α](I:Cb)(w:World)(v:Value)(xs:List α):Prop where
 ex:∃a cap,v=.slice a (ν xs) cap/\ν xs<=cap/\cap<=Pd/\Akm I w a xs
instance {α:Type} [AT α]:AT (List α) where
 size:=1
 agg:=χ
 rep I w v xs:=Afk I w v xs
 pos:=by decide
 cells h:=by obtain⟨a,cap,h,_⟩:=h.ex;rw[h];rfl
 form h:=by obtain⟨a,cap,h,_⟩:=h.ex;rw[h];simp [Value.cells]
 one h:=by obtain⟨a,cap,h,_⟩:=h.ex;rw[h];simp [Value.cells,Value.oneCell']
 mono h r:=by obtain⟨a,cap,h1,h2,h3,h4⟩:=r.ex;exact⟨a,cap,h1,h2,h3,h4.mono h⟩
theorem Aio{α:Type}[AT α]{I:Cb}{w:World}{a:Option Addr}{cap:Nat}(h:cap<=Pd):rep I w (.slice a 0 cap) ([]:List α):=⟨a,cap,rfl,cd _,h,.inl rfl⟩
end
section
section
variable {P:Program} {N:Nat} {ops:Array Oper} {R:List PanicEntry->World->Prop} {m:Bool} {K:Fr->World->Prop} {os:List Oper} {f:Fr} {w:World}
variable {dst:Option Tmp} {ty:TypeId} {pos:String} {af:Array Edge}
variable {op:Op}
theorem Ao{v:Value}{w':World}(a:(execOp (ev f) ⟨dst,op,ty,pos,af,τ⟩).run P w=.ok (.value v) w')(h:WL P N ops R m K os (put N f dst v) w'):WL P N ops R m K (⟨dst,op,ty,pos,af,τ⟩::os) f w:=by simp_all[WL,Region.wanted,UP]
theorem NW{w':World}(a:(execOp (ev f) ⟨dst,op,ty,pos,af,τ⟩).run P w=.ok .skip w')(h:WL P N ops R χ K os (put N f dst undef) w'):WL P N ops R χ K (⟨dst,op,ty,pos,af,τ⟩::os) f w:=by simp_all[WL,Region.wanted,UP]
theorem Ane{g:Nat×Bool}(a:Region.wanted ⟨dst,op,ty,pos,af,δ g⟩ (yl ops f)=ψ)(h:WL P N ops R m K (⟨dst,op,ty,pos,af,τ⟩::os) f w):WL P N ops R m K (⟨dst,op,ty,pos,af,δ g⟩::os) f w:=by simp only[WL,Region.wanted,if_true]at h;simp only[WL,a,if_true];exact h
theorem Ah5{o:Oper}(a:Region.wanted o (yl ops f)=χ)(h:WL P N ops R m K os (put N f o.dst undef) w):WL P N ops R m K (o::os) f w:=by simp_all[WL,a1]
theorem Aix{c a b:Operand}(v:Value)(d:ev f c=.bool ψ)(e:ev f a=v)(h:WL P N ops R m K os (put N f dst v) w):WL P N ops R m K (⟨dst,.pick c a b,ty,pos,af,τ⟩::os) f w:=
 Ao (by simp_all[execOp,asBool]) h
theorem Aiy{c a b:Operand}(v:Value)(d:ev f c=.bool χ)(e:ev f b=v)(h:WL P N ops R m K os (put N f dst v) w):WL P N ops R m K (⟨dst,.pick c a b,ty,pos,af,τ⟩::os) f w:=
 Ao (by simp_all[execOp,asBool]) h
variable {x y:Operand} {kd:IntKind} {a b:Int} {t u:TypeId}
variable {op:BinOp}
theorem Al6(w:World):(eqGuard op t x y (.int kd a) (.int kd b)).run P w=.ok () w:=by simp only[eqGuard];cases op<;>simp
theorem Tr{v:Value}(c:ev f x=.int kd a)(e:ev f y=.int kd b)(d:(binOp op t (.int kd a) (.int kd b)).run P w=.ok v w)(h:WL P N ops R m K os (put N f dst v) w):WL P N ops R m K (⟨dst,.binOp op t x y u,ty,pos,af,τ⟩::os) f w:=
 Ao (by simp_all[execOp,Sem.run_bind,Al6,Result.andThen_ok]) h
theorem Ai0(d:ev f x=.int kd a)(c:ev f y=.int kd b)(h:WL P N ops R m K os (put N f dst (.int kd (kd.wrap (a+b)))) w):WL P N ops R m K (⟨dst,.binOp .add t x y u,ty,pos,af,τ⟩::os) f w:=Tr d c (by simp [binOp,Op.intArith]) h
theorem Awm(d:ev f x=.int kd a)(c:ev f y=.int kd b)(h:WL P N ops R m K os (put N f dst (.int kd (kd.wrap (a-b)))) w):WL P N ops R m K (⟨dst,.binOp .sub t x y u,ty,pos,af,τ⟩::os) f w:=Tr d c (by simp [binOp,Op.intArith]) h
theorem Awp(d:ev f x=.int kd a)(c:ev f y=.int kd b)(h:WL P N ops R m K os (put N f dst (.int kd (kd.wrap (a*b)))) w):WL P N ops R m K (⟨dst,.binOp .mul t x y u,ty,pos,af,τ⟩::os) f w:=Tr d c (by simp [binOp,Op.intArith]) h
theorem VY{n:Int}(a:-9223372036854775808<=n)(b:n<=9223372036854775807):IntKind.i64.wrap n=n:=IntWalk.i64_in _ ⟨a,b⟩
def Ae4:BinOp->Int->Int->Prop
 | .eql,a,b=>a=b
 | .neq,a,b=>a≠b
 | .lss,a,b=>a<b
 | .leq,a,b=>a<=b
 | .gtr,a,b=>b<a
 | .geq,a,b=>b<=a
 |_,_,_=>False
instance (op:BinOp) (a b:Int):Decidable (Ae4 op a b):=by cases op<;>simp only[Ae4]<;>infer_instance
def PI:BinOp->Bool
 | .eql | .neq | .lss | .leq | .gtr | .geq=>ψ
 |_=>χ
theorem Ate(ho:PI op=ψ):(binOp op t (.int kd a) (.int kd b)).run P w=.ok (.bool (ξ (Ae4 op a b))) w:=by
 cases op<;>first|(simp [PI]at ho;done)|skip
 all_goals simp only[binOp,Op.intCmp,Ae4,ne_eq,not_true_eq_false,if_false,Sem.run_pure]
 all_goals first|rfl|(congr 2;grind)
theorem Ay5(d:PI op=ψ)(c:ev f x=.int kd a)(e:ev f y=.int kd b)(h:WL P N ops R m K os (put N f dst (.bool (ξ (Ae4 op a b)))) w):WL P N ops R m K (⟨dst,.binOp op t x y u,ty,pos,af,τ⟩::os) f w:=Tr c e (Ate d) h
theorem Zu(e:PI op=ψ)(h:ev f x=.int kd a)(g:ev f y=.int kd b)(d:Ae4 op a b->WL P N ops R m K os (put N f dst (.bool ψ)) w)(i:¬Ae4 op a b->WL P N ops R m K os (put N f dst (.bool χ)) w):WL P N ops R m K (⟨dst,.binOp op t x y u,ty,pos,af,τ⟩::os) f w:=by refine Ay5 e h g ?_;by_cases c:Ae4 op a b;all_goals grind
section
variable (hx:ev f x=.int kd a) (hy:ev f y=.int kd b)
include hx hy
theorem A26(h1:a<b->WL P N ops R m K os (put N f dst (.bool ψ)) w)(h0:¬a<b->WL P N ops R m K os (put N f dst (.bool χ)) w):WL P N ops R m K (⟨dst,.binOp .lss t x y u,ty,pos,af,τ⟩::os) f w:=Zu rfl hx hy h1 h0
theorem A27(h1:a<=b->WL P N ops R m K os (put N f dst (.bool ψ)) w)(h0:¬a<=b->WL P N ops R m K os (put N f dst (.bool χ)) w):WL P N ops R m K (⟨dst,.binOp .leq t x y u,ty,pos,af,τ⟩::os) f w:=Zu rfl hx hy h1 h0
theorem A28(h1:b<a->WL P N ops R m K os (put N f dst (.bool ψ)) w)(h0:¬b<a->WL P N ops R m K os (put N f dst (.bool χ)) w):WL P N ops R m K (⟨dst,.binOp .gtr t x y u,ty,pos,af,τ⟩::os) f w:=Zu rfl hx hy h1 h0
theorem A29(h1:b<=a->WL P N ops R m K os (put N f dst (.bool ψ)) w)(h0:¬b<=a->WL P N ops R m K os (put N f dst (.bool χ)) w):WL P N ops R m K (⟨dst,.binOp .geq t x y u,ty,pos,af,τ⟩::os) f w:=Zu rfl hx hy h1 h0
theorem A3c(h1:a=b->WL P N ops R m K os (put N f dst (.bool ψ)) w)(h0:¬a=b->WL P N ops R m K os (put N f dst (.bool χ)) w):WL P N ops R m K (⟨dst,.binOp .eql t x y u,ty,pos,af,τ⟩::os) f w:=Zu rfl hx hy h1 h0
theorem A23(d:¬a=b->WL P N ops R m K os (put N f dst (.bool ψ)) w)(c:a=b->WL P N ops R m K os (put N f dst (.bool χ)) w):WL P N ops R m K (⟨dst,.binOp .neq t x y u,ty,pos,af,τ⟩::os) f w:=Zu rfl hx hy d (λh=>c (Decidable.of_not_not h))
theorem Ao8(h:WL P N ops R m K os (put N f dst (.bool (ξ (a<b)))) w):WL P N ops R m K (⟨dst,.binOp .lss t x y u,ty,pos,af,τ⟩::os) f w:=A26 hx hy (λc=>by grind) (λc=>by grind)
theorem Ay1(h:WL P N ops R m K os (put N f dst (.bool (ξ (a<=b)))) w):WL P N ops R m K (⟨dst,.binOp .leq t x y u,ty,pos,af,τ⟩::os) f w:=A27 hx hy (λc=>by grind) (λc=>by grind)
theorem Ay2(h:WL P N ops R m K os (put N f dst (.bool (ξ (b<a)))) w):WL P N ops R m K (⟨dst,.binOp .gtr t x y u,ty,pos,af,τ⟩::os) f w:=A28 hx hy (λc=>by grind) (λc=>by grind)
theorem Ay3(h:WL P N ops R m K os (put N f dst (.bool (ξ (b<=a)))) w):WL P N ops R m K (⟨dst,.binOp .geq t x y u,ty,pos,af,τ⟩::os) f w:=A29 hx hy (λc=>by grind) (λc=>by grind)
theorem Ay4(h:WL P N ops R m K os (put N f dst (.bool (ξ (a=b)))) w):WL P N ops R m K (⟨dst,.binOp .eql t x y u,ty,pos,af,τ⟩::os) f w:=A3c hx hy (λc=>by grind) (λc=>by grind)
theorem Ao7(h:WL P N ops R m K os (put N f dst (.bool (!ξ (a=b)))) w):WL P N ops R m K (⟨dst,.binOp .neq t x y u,ty,pos,af,τ⟩::os) f w:=A23 hx hy (λc=>by grind) (λc=>by grind)
end
theorem Acm{R:RL->World->Prop}{φ:FK}{k:List Item}{c:Operand}{x y:Code}{p:Prop}[Decidable p](d:ev f c=.bool (decide p))(a:p->WT P φ N (.code x::k) R f w)(b:¬p->WT P φ N (.code y::k) R f w):WT P φ N (.code (.cond c x y)::k) R f w:=ZX d (λh=>a (of_decide_eq_true h)) (λh=>b (of_decide_eq_false h))
variable {c:Bool}
theorem Awn(a:ev f x=.bool c)(h:WL P N ops R m K os (put N f dst (.bool (!c))) w):WL P N ops R m K (⟨dst,.unOp .not t x,ty,pos,af,τ⟩::os) f w:=
 Ao (by simp [execOp,a,Op.unary]) h
theorem Awo(hx:ev f x=.int kd a)(h:WL P N ops R m K os (put N f dst (.int kd (kd.wrap (0-a)))) w):WL P N ops R m K (⟨dst,.unOp .neg t x,ty,pos,af,τ⟩::os) f w:=
 Ao (by simp_all[execOp,Op.unary,Op.intArith]) h
theorem run_equalIn_bool(n:Nat)(c d:Bool)(a:P.underlying t=δ .bool):(Op.equalIn (n+1) t (.bool c) (.bool d)).run P w=.ok (c == d) w:=by simp [Op.equalIn,run_underlying a]
variable {d:Bool}
theorem run_eql_bool(a:P.underlying t=δ .bool):(binOp .eql t (.bool c) (.bool d)).run P w=.ok (.bool (c == d)) w:=by simp only[binOp,Op.equal,Sem.run_bind,Op.maxDepth,run_equalIn_bool 9999 c d a,Result.andThen_ok,Sem.run_pure]
theorem run_neq_bool(a:P.underlying t=δ .bool):(binOp .neq t (.bool c) (.bool d)).run P w=.ok (.bool (!(c == d))) w:=by simp only[binOp,Op.equal,Sem.run_bind,Op.maxDepth,run_equalIn_bool 9999 c d a,Result.andThen_ok,Sem.run_pure]
theorem Xz{op:BinOp}(w:World):(eqGuard op t x y (.bool c) (.bool d)).run P w=.ok () w:=by simp only[eqGuard];cases op<;>simp
theorem A3d(a:ev f x=.bool c)(e:ev f y=.bool d)(b:P.underlying t=δ .bool)(h:WL P N ops R m K os (put N f dst (.bool (c==d))) w):WL P N ops R m K (⟨dst,.binOp .eql t x y u,ty,pos,af,τ⟩::os) f w:=
 Ao (by simp_all[execOp,Sem.run_bind,Xz,Result.andThen_ok,run_eql_bool]) h
theorem A25(a:ev f x=.bool c)(e:ev f y=.bool d)(b:P.underlying t=δ .bool)(h:WL P N ops R m K os (put N f dst (.bool (!(c==d)))) w):WL P N ops R m K (⟨dst,.binOp .neq t x y u,ty,pos,af,τ⟩::os) f w:=
 Ao (by simp_all[execOp,Sem.run_bind,Xz,Result.andThen_ok,run_neq_bool]) h
theorem Alv{vs:Array Value}{i:Nat}{v:Value}(hx:ev f x=.tuple vs)(hv:vs[i]?=δ v)(h:WL P N ops R m K os (put N f dst v) w):WL P N ops R m K (⟨dst,.extract x i,ty,pos,af,τ⟩::os) f w:=Ao (by simp_all[execOp,Instr.extract]) h
variable {vs:List Value}
theorem WZ{g:Fn}{fs cs:Array Operand}{us:List Value}(hf:fs.toList.map (ev f)=vs)(hc:cs.toList.map (ev f)=us)(h:WL P N ops R m K os (put N f dst (.func g ⟨vs⟩ ⟨us⟩)) w):WL P N ops R m K (⟨dst,.makeFunc g fs cs,ty,pos,af,τ⟩::os) f w:=
 Ao (by subst hf hc;simp [execOp,Instr.makeFunc];grind) h
theorem Sj{a:Addr}(b:ev f x=.pointer (δ a))(h:WL P N ops R m K os (put N f dst (.pointer (δ a))) w):WL P N ops R m K (⟨dst,.nilCheck x,ty,pos,af,τ⟩::os) f w:=
 Ao (by simp [execOp,b]) h
def CS(P:Program)(g:FuncId):Bool:=match P.funcs[g]? with
 |some F=>F.name != "runtime.NumGoroutine"&&F.body.isSome
 |none=>χ
variable {g:FuncId}
theorem NC{vs:Array Value}(hg:CS P g=ψ):(callFunc g vs).run P w=.ok (.enter g vs) w:=by
 unfold CS at hg;cases h:P.funcs[g]? with
 |none=>grind
 |some F=>
  simp only[h,a2,bne_iff_ne,ne_eq]at hg;have h2:F.body.isNone=χ:=by simp_all
  have h1:(F.name== "runtime.NumGoroutine")=χ:=by grind
  simp only[callFunc,Sem.run_bind,run_program,Result.andThen_ok,h,h1,h2,a1,if_false,Sem.run_pure]
theorem Xe{aE:Array Operand}{at_:Array TypeId}(hg:CS P g=ψ)(ha:aE.toList.map (ev f)=vs)(h:Calls P g ⟨vs⟩ w λe w'=>match e with
   | .returned v=>WL P N ops R χ K os (put N f dst v) w'
   | .panicked ch=>R ch w'
   | .outgrown=>False):WL P N ops R χ K (⟨dst,.call ⟨.value (.func g),aE,at_⟩,ty,pos,af,τ⟩::os) f w:=by
 have he:(execOp (ev f) ⟨dst,.call ⟨.value (.func g),aE,at_⟩,ty,pos,af,τ⟩).run P w=.ok (.enter g ⟨vs⟩) w:=by subst ha;simp [execOp,resolve,ev,Deferred.ofValue,invoke,NC hg];rw[<-bl]
 simp only[WL,Region.wanted,if_true,he,UP]
 grind
theorem Aiz{fv:Operand}{first captured:Array Value}{aE:Array Operand}{at_:Array TypeId}(hv:ev f fv=.func (.func g) first captured)(hg:CS P g=ψ)(ha:first.toList++aE.toList.map (ev f)++captured.toList=vs)(h:Calls P g ⟨vs⟩ w λe w'=>match e with
   | .returned v=>WL P N ops R χ K os (put N f dst v) w'
   | .panicked ch=>R ch w'
   | .outgrown=>False):WL P N ops R χ K (⟨dst,.call ⟨.value fv,aE,at_⟩,ty,pos,af,τ⟩::os) f w:=by
 have he:(execOp (ev f) ⟨dst,.call ⟨.value fv,aE,at_⟩,ty,pos,af,τ⟩).run P w=.ok (.enter g ⟨vs⟩) w:=by simp_all[execOp,resolve,Deferred.ofValue,invoke,NC]
 simp only[WL,Region.wanted,if_true,he,UP]
 grind
end
end
section
def Az8:TypeDesc->Bool
 | .struct _ | .array _ _=>ψ
 |_=>χ
def Q5(P:Program)(t:TypeId)(agg:Bool)(sz:Nat):Bool:=match P.underlying t,P.info? t with
 |some d,δ i=>Az8 d==agg&&i.size==sz
 |_,_=>χ
def Yl(P:Program)(t e:TypeId)(sz nb:Nat):Bool:=match P.underlying t,P.info? e with
 |some (.slice e'),δ i=>e'==e&&i.size==sz&&i.bytes==nb&&(match i.zero with |some z=>z.cells.size==sz |none=>χ)
 |_,_=>χ
section
variable {P:Program} {w:World} {t e:TypeId} {sz nb:Nat}
theorem HB{agg:Bool}(h:Q5 P t agg sz=ψ):(isAgg t).run P w=.ok agg w/\(sizeOf t).run P w=.ok sz w:=by
 unfold Q5 at h;cases a:P.underlying t with
 |none=>grind
 |some d=>
  cases b:P.info? t with
  |none=>grind
  |some i=>
   simp only[a,b,a2,beq_iff_eq]at h;obtain⟨rfl,rfl⟩:=h;refine⟨?_,by simp [sizeOf,typeInfo,b]⟩;simp only[isAgg,Sem.run_bind,run_underlying a,Result.andThen_ok];cases d<;>rfl
structure Slc(P:Program)(t e:TypeId)(sz nb:Nat):Prop where
 under:P.underlying t=δ (.slice e)
 info:∃i z,P.info? e=δ i/\i.size=sz/\i.bytes=nb/\i.zero=δ z/\z.cells.size=sz
theorem EZ(h:Yl P t e sz nb=ψ):Slc P t e sz nb:=by
 unfold Yl at h;cases a:P.underlying t with
 |none=>grind
 |some d=>
  cases f:P.info? e with
  |none=>cases d<;>simp [a,f]at h
  |some i=>
   cases d<;>simp only[a,f,a1]at h;rename_i k;simp only[a2,beq_iff_eq]at h;obtain⟨⟨⟨rfl,g⟩,j⟩,b⟩:=h;cases c:i.zero with
   |none=>grind
   |some z=>simp only[c,beq_iff_eq]at b;exact⟨a,i,z,f,g,j,c,b⟩
theorem Slc.size(h:Slc P t e sz nb):(sizeOf e).run P w=.ok sz w:=by obtain⟨i,z,a,b,_⟩:=h.info;simp_all[sizeOf,typeInfo]
theorem DZ(b o n:Nat):(⟨b,o,τ⟩:Addr).add n=⟨b,o+n,τ⟩:=by grind[Addr.add]
theorem Pw{a:Addr}{v:Value}(c:Dn w a v):(loadCells a v.cells.size).run P w=.ok v.cells w:=by
 obtain⟨b,o,s⟩:=a;obtain⟨f,c⟩:=c;simp only at f;subst f;have:=run_loadCells_list (P:=P) (w:=w) ⟨b,o,τ⟩ v.cells.toList (λj u e=>by rw[DZ];rw[a4]at e;have d:=(ax.1 e).1;rw[c j d,e])
 omega
end
section
variable {P:Program} {N:Nat} {ops:Array Oper} {R:List PanicEntry->World->Prop} {m:Bool} {K:Fr->World->Prop} {os:List Oper} {f:Fr} {w:World}
variable {dst:Option Tmp} {ty:TypeId} {pos:String} {af:Array Edge} {I:Cb} {T:Bi} {x y:Operand} {t e u:TypeId} {sz nb:Nat}
def flB(P:Program)(t:TypeId)(i off:Nat):Bool:=match P.underlying t with
 |some (.struct fs)=>match fs[i]? with
  |some fd=>fd.offset==off&&(match P.info? fd.type with |some j=>j.size != 0 |none=>χ)
  |none=>χ
 |_=>χ
theorem Au0{i off:Nat}(h:flB P t i off=ψ){a:Addr}:(Instr.fieldAt t (.pointer (δ a)) i).run P w=.ok (.pointer (δ (a.add off))) w:=by
 unfold flB at h;cases hu:P.underlying t with
 |none=>grind
 |some d=>
  cases d<;>simp only[hu,a1]at h;rename_i fs;cases hf:fs[i]? with
  |none=>grind
  |some fd=>
   simp only[hf]at h;cases hi:P.info? fd.type with
   |none=>grind
   |some j=>
    simp only[hi,a2,beq_iff_eq,bne_iff_ne,ne_eq]at h;obtain⟨rfl,h0⟩:=h;simp_all[Instr.fieldAt,run_underlying,Instr.sureAddr,fieldPlace,sizeOf,typeInfo]
end
end
section
variable {α:Type}
def DB[AT α](I:Cb)(w:World)(get:Nat->Option Value)(xs:List α):Prop:=∀j(h:j<ν xs),∃u,rep I w u xs[j]/\∀i,i<u.cells.size->get (j*AT.size α+i)=u.cells[i]?
theorem DB.mono{α:Type}[AT α]{I I':Cb}{w w':World}{get:Nat->Option Value}{xs:List α}(h:Ext I w I' w')(e:DB I w get xs):DB I' w' get xs:=λj b=>by obtain⟨u,a,c⟩:=e j b;exact⟨u,h.rep a,c⟩
theorem DB.append[AT α]{I:Cb}{w:World}{g1 g2 g:Nat->Option Value}{xs ys:List α}(k:DB I w g1 xs)(o:DB I w g2 ys)(l:∀i,i<ν xs*AT.size α->g i=g1 i)(m:∀i,i<ν ys*AT.size α->g (ν xs*AT.size α+i)=g2 i):DB I w g (xs++ys):=by
 have h:∀{n j i:Nat},j<n->i<AT.size α->j*AT.size α+i<n*AT.size α:=λ{n j i}d b=>by have:(j+1)*AT.size α<=n*AT.size α:=a3 _ d;grind
 intro j d;by_cases f:j<ν xs
 .obtain⟨u,c,e⟩:=k j f;grind[b0,AT.cells]
 .have a:j-ν xs<ν ys:=by grind
  obtain⟨u,c,e⟩:=o (j-ν xs) a;refine⟨u,by grind,λi b=>?_⟩;have:=m ((j-ν xs)*AT.size α+i) (h a (by grind[AT.cells]));rw[<-ad,<-ac,Nat.add_sub_cancel' (by omega)]at this;grind
structure Bw{α:Type}[AT α](I:Cb)(w:World)(A:Bi)(v:Value)(xs:List α):Prop where
 ex:(v=.slice τ 0 0/\xs=[]/\A=[])∨∃b arr cap e0 off,A=[(b,.cells arr e0 (0,0))]/\v=.slice (δ ⟨b,off,τ⟩) (ν xs) cap/\ν xs<=cap/\cap<=maxLen/\off+cap*AT.size α<=arr.size/\
  DB I w (λi=>arr[off+i]?) xs
theorem Bw.UB[AT α]{I:Cb}{w:World}{b cap n:Nat}{arr:Array Value}{e0:TypeId}{xs:List α}(d:n=ν xs)(a:ν xs<=cap)(f:cap<=maxLen)(c:cap*AT.size α<=arr.size)(e:DB I w (arr[·]?) xs):Bw I w [(b,.cells arr e0 (0,0))] (.slice (δ ⟨b,0,τ⟩) n cap) xs:=
 ⟨.inr ⟨b,arr,cap,e0,0,rfl,by rw[d],a,f,by omega,by grind⟩⟩
theorem Bw.mono{α:Type}[AT α]{I I':Cb}{w w':World}{A:Bi}{v:Value}{xs:List α}(h:Ext I w I' w')(o:Bw I w A v xs):Bw I' w' A v xs:=by
 rcases o.ex with o|⟨b,d,a,g,c,l,j,k,i,e,f⟩
 .exact⟨.inl o⟩
 .exact⟨.inr ⟨b,d,a,g,c,l,j,k,i,e,f.mono h⟩⟩
theorem Bw.nil{α:Type}[AT α]{I:Cb}{w:World}:Bw I w [] (.slice τ 0 0) ([]:List α):=⟨.inl ⟨rfl,rfl,rfl⟩⟩
theorem Bw.len{α:Type}[AT α]{I:Cb}{w:World}{A:Bi}{v:Value}{xs:List α}(o:Bw I w A v xs):∃a cap,v=.slice a (ν xs) cap/\ν xs<=9223372036854775807:=by
 rcases o.ex with ⟨rfl,rfl,rfl⟩|⟨b,f,cap,h,e,k,c,j,d,g,i⟩
 .simp
 grind[maxLen]
variable {v:Value}
theorem Bw.cast[AT α]{I:Cb}{w:World}{A:Bi}{xs ys:List α}(h:xs=ys)(o:Bw I w A v xs):Bw I w A v ys:=h▸o
theorem Bw.bd{α:Type}[AT α]{I:Cb}{w:World}{A:Bi}{v:Value}{xs:List α}(o:Bw I w A v xs):ν xs<=9223372036854775807:=by obtain⟨_,_,_,h⟩:=o.len;exact h
theorem Bz{w:World}{b o:Nat}{arr:Array Value}{e:TypeId}{fr:Nat×Nat}(h:w.heap[b]?=δ (.cells arr e fr)):w.cell? ⟨b,o,τ⟩=arr[o]?:=by grind[World.cell?]
theorem Bw.freeze{α:Type}[AT α]{I:Cb}{w:World}{A T:Bi}{v:Value}{xs:List α}(o:Bw I w A v xs)(hs:St I w (A++T)):∃I',Ext I w I' w/\St I' w T/\rep I' w v xs:=by
 rcases o.ex with ⟨rfl,rfl,rfl⟩|⟨b,d,a,k,e,rfl,rfl,g,p,s,n⟩
 .grind[Ext.refl,Aio,Pd]
 .obtain⟨f,c⟩:=hs.freeze;refine⟨_,f,c,?_⟩;refine⟨⟨_,a,rfl,g,by grind[maxLen,Pd],.inr ⟨b,e,rfl,.inr ⟨_,ah.2 rfl,rfl⟩,λj m=>?_⟩⟩⟩;obtain⟨u,l,q⟩:=n j m;refine⟨u,f.rep l,rfl,λi h=>?_⟩;have r:=(hs.own (b,.cells d k (0,0)) (by simp)).1;grind[Bz,ad]
theorem Z2[AT α]{I:Cb}{w:World}{xs:List α}(h:rep I w v xs)(r:xs≠[]):∃a cap,v=.slice (δ a) (ν xs) cap/\∃news:List Value,ν news=ν xs*AT.size α/\(∀j u,news[j]?=δ u->w.cell? (a.add j)=δ u)/\(∀u∈news,u.oneCell'=ψ)/\DB I w (news[·]?) xs:=by
 obtain⟨a,cap,z,_,_,g⟩:=h.ex;rcases g with g|⟨b,c,rfl,C,g⟩
 .grind
 have y:0<AT.size α:=AT.pos;have o:∀n,n<ν xs*AT.size α->∃u,w.cell? ⟨b,c+n,τ⟩=δ u/\u.oneCell'=ψ/\∀(d:n/AT.size α<ν xs),True:=by
  intro n p;have d:n/AT.size α<ν xs:=(Nat.div_lt_iff_lt_mul y).2 p;obtain⟨v,l,t⟩:=g _ d;have f:n%AT.size α<v.cells.size:=by rw[AT.cells l];exact Nat.mod_lt _ y
  have:=t.2 _ f;have q:c+n/AT.size α*AT.size α+n%AT.size α=c+n:=by rw[ad,Nat.div_add_mod']
  rw[q,Array.getElem?_eq_getElem f]at this;exact⟨_,this,AT.one l _ (Array.getElem_mem_toList f),λ_=>trivial⟩
 refine⟨⟨b,c,τ⟩,cap,z,(c4 (ν xs*AT.size α)).map λn=>(w.cell? ⟨b,c+n,τ⟩).getD undef,by simp,?_,?_,?_⟩
 .intro j u e;rw[c8]at e;by_cases d:j<ν xs*AT.size α
  .rw[c1 d]at e;obtain⟨A,k,_⟩:=o j d;simp only[ap,k,ca,Option.some.injEq]at e;rw[DZ,k,e]
  grind
 .grind
 .intro j d;obtain⟨u,m,s⟩:=g j d;refine⟨u,m,λi f=>?_⟩;have x:j*AT.size α+i<ν xs*AT.size α:=by
   have k:i<AT.size α:=by grind[AT.cells]
   have:(j+1)*AT.size α<=ν xs*AT.size α:=a3 _ d;grind
  show (List.map _ _)[_]?=_;rw[c8,c1 x];have:=s.2 i f;grind
def grow(I:Cb)(A:Bi):Cb:=λb=>I b∨∃p∈A,p.1=b
theorem Bw.A62[AT α]{I:Cb}{w:World}{A T:Bi}{xs:List α}(o:Bw I w A v xs)(hs:St I w (A++T)):Ext I w (grow I A) w/\St (grow I A) w T/\rep (grow I A) w v xs:=by
 obtain⟨f,c⟩:=hs.freeze;refine⟨f,c,?_⟩;rcases o.ex with ⟨rfl,rfl,rfl⟩|⟨b,d,a,k,e,rfl,rfl,g,p,s,n⟩
 .grind[Aio,Pd]
 .refine⟨⟨_,a,rfl,g,by grind[maxLen,Pd],.inr ⟨b,e,rfl,.inr ⟨_,ah.2 rfl,rfl⟩,λj m=>?_⟩⟩⟩;obtain⟨u,l,q⟩:=n j m;refine⟨u,f.rep l,rfl,λi h=>?_⟩;have r:=(hs.own (b,.cells d k (0,0)) (by simp)).1;grind[Bz,ad]
structure Nws{α:Type}[AT α](I:Cb)(w:World)(v:Value)(xs:List α):Prop where
 sh:∃a cap,v=.slice a (ν xs) cap
 ne:xs≠[]->∃a cap,v=.slice (δ a) (ν xs) cap/\∃news:List Value,ν news=ν xs*AT.size α/\
  (∀j u,news[j]?=δ u->w.cell? (a.add j)=δ u)/\(∀u∈news,u.oneCell'=ψ)/\DB I w (news[·]?) xs
theorem Nws.Ayy{α:Type}[AT α]{I:Cb}{w:World}{v:Value}{xs:List α}(h:rep I w v xs):Nws I w v xs:=⟨(by obtain⟨a,c,d,_⟩:=h.ex;grind),λb=>Z2 h b⟩
theorem Nws.Ayz{α:Type}[AT α]{I:Cb}{w:World}{A T:Bi}{v:Value}{xs:List α}(h:Bw I w A v xs)(hs:St I w (A++T)):Nws I w v xs:=by
 refine⟨(by obtain⟨a,d,l,_⟩:=h.len;grind),λf=>?_⟩;obtain⟨_,_,B⟩:=h.A62 hs;obtain⟨a,d,l,c,x,s,t,H⟩:=Z2 B f;refine⟨a,d,l,c,x,s,t,λj r=>?_⟩;rcases h.ex with ⟨_,D,_⟩|⟨b,m,q,y,E,rfl,k,K,G,J,n⟩
 .grind
 obtain⟨u,p,z⟩:=n j r;rw[l]at k;cases k;refine⟨u,p,λi o=>?_⟩;have g:j*AT.size α+i<ν c:=by
  have C:i<AT.size α:=by grind[AT.cells]
  have:(j+1)*AT.size α<=ν xs*AT.size α:=a3 _ r;grind
 have F:=(hs.own (b,.cells m y (0,0)) (by simp)).1;grind[AT.size,a7,DZ,Bz]
section
variable {P:Program} {I:Cb} {w:World} {T A:Bi} {t e:TypeId} {nb:Nat}
theorem Aho{α:Type}[AT α]{v yv:Value}{xs ys:List α}{ty:TypeId}(hs:St I w (A++T))(ho:Bw I w A v xs)(hy:Nws I w yv ys)(ht:Slc P t e (AT.size α) nb)(hb:(ν xs+ν ys)*nb<=140737488355328)(hl:ν xs+ν ys<=9223372036854775807):∃v' A' w',(Builtin.append_ #[t,t] ty #[v,yv]).run P w=.ok v' w'/\Ext I w I w'/\St I w' (A'++T)/\Bw I w' A' v' (xs++ys):=by
 obtain⟨i,z,p,l,K,hz,N⟩:=ht.info;have r:=ht.under;by_cases E:ys=[]
 .subst E;obtain⟨a',cap',s⟩:=hy.sh;refine⟨v,A,w,?_,Ext.refl _ _,hs,by grind⟩;have M:∀(a:Option Addr)(k:Nat),(Builtin.firstCells (AT.size α) 0 (.slice a 0 k)).run P w=.ok #[] w:=λa k=>by cases a<;>simp [Builtin.firstCells,loadCells,loadCellsFrom]
  rcases ho.ex with ⟨rfl,rfl,rfl⟩|⟨b,f,k,R,d,rfl,rfl,Y,h4,S,V⟩
  .simp [Builtin.append_,run_underlying r,sizeOf,typeInfo,p,l,Builtin.lenOf,s,M]
  .simp [Builtin.append_,run_underlying r,sizeOf,typeInfo,p,l,Builtin.lenOf,s,M,Y,storeCells]
 obtain⟨a,c,s,g,m,n,L,B⟩:=hy.ne E;subst s;have hyl:0<ν ys:=List.length_pos_iff.2 E;have hp:0<AT.size α:=AT.pos;rcases ho.ex with ⟨rfl,rfl,rfl⟩|⟨b,f,k,R,d,rfl,rfl,Y,h4,S,V⟩
 .simp only[List.length_nil,co]at hb hl;have G:=run_append_nil (P:=P) w t ty e i z r p hz a (ν ys) c g (by grind) n hyl (by omega) (by grind);have F:=grownCap_ge w (ν ys) 0 e;have C:=grownCap_le_maxLen w (ν ys) 0 e (by grind[maxLen]);obtain⟨q,J⟩:=hs.drew (w.drawn+1);obtain⟨H,W⟩:=J.alloc (.cells (g.toArray++Builtin.zeroCells z.cells (grownCap w (ν ys) 0 e-ν ys)) e);refine⟨_,_,_,G,q.trans H,W,Bw.UB rfl F C ?_ ?_⟩
  .simp only[b6,a5,size_zeroCells,N,m,<-ac];grind
  .refine(B.mono (q.trans H)).append (ys:=[]) (g2:=λ_=>τ) (λj hj=>by grind) ?_ (by simp) |> λh=>by simpa using h
   grind
 .have Z:=(hs.own (b,.cells f R (0,0)) (by simp)).1;have hle:d+ν xs*AT.size α<=f.size:=b5 (bc (a3 _ Y) _) S;by_cases o:ν xs+ν ys<=k
  .have y:d+ν xs*i.size+ν g<=f.size:=by rw[l,m,ad,<-ac];exact b5 (bc (a3 _ o) _) S
   have X:=run_firstCells_some (P:=P) w i.size (ν ys) a (ν ys) c g (by grind) n;have O:=run_storeCells_at P b (d+ν xs*i.size) R g 0 f w Z (by omega) L;simp only[bq]at O;have G:(Builtin.append_ #[t,t] ty #[.slice (δ ⟨b,d,τ⟩) (ν xs) k,.slice (δ a) (ν ys) c]).run P w=.ok (.slice (δ ⟨b,d,τ⟩) (ν xs+ν ys) k) (w.setRow b (c0 (d+ν xs*i.size) f.toList++g++cn (d+ν xs*i.size+ν g) f.toList).toArray):=by simp [Builtin.append_,run_underlying r,sizeOf,typeInfo,p,Builtin.lenOf,o,X,DZ,O]
   rw[l]at G y;obtain⟨q,J⟩:=hs.write (w':=w.setRow b _) rfl rfl rfl (by simp) (setRow_heap w b f _ R _ Z) (λc hc=>setRow_other w b c _ hc);refine⟨_,_,_,G,q,J,⟨.inr ⟨b,_,k,_,d,rfl,by simp,by grind,h4,?_,?_⟩⟩⟩
   .grind
   .have Q:ν (c0 (d+ν xs*AT.size α) f.toList)=d+ν xs*AT.size α:=by grind
    refine(V.mono q).append (B.mono q) ?_ ?_
    .intro i p;simp only[a6,a0];rw[aa (by omega),ab (by omega),a4]
    .intro i p;simp only[a6,a0];rw[<-ad,ai (by omega),Q,ak,aa (by omega)]
  .have U:ν (f.toList.drop d)=f.size-d:=by rw[bm];rfl
   have D:∀j u,((f.toList.drop d).take (ν xs*AT.size α))[j]?=δ u->w.cell? ((⟨b,d,τ⟩:Addr).add j)=δ u:=by
    intro j u r;rw[DZ,Bz Z];by_cases hj:j<ν xs*AT.size α
    .rw[ab hj,b3,a4]at r;exact r
    .rw[List.getElem?_eq_none (by rw[al];omega)]at r;simp at r
   have x:ν ((f.toList.drop d).take (ν xs*AT.size α))=ν xs*i.size:=by rw[al,U,l];omega
   have G:=run_append_grow (P:=P) w t ty e i z r p hz ⟨b,d,τ⟩ (ν xs) k ((f.toList.drop d).take (ν xs*AT.size α)) x D a (ν ys) c g (by rw[l];exact m) n (by omega) (by omega)
    (growslice_fits (by omega) (by rw[K];exact hb))
   have F:=grownCap_ge w (ν xs+ν ys) k e;have C:=grownCap_le_maxLen w (ν xs+ν ys) k e (by unfold maxLen;omega);obtain⟨q,J⟩:=hs.drop.drew (w.drawn+1);obtain⟨H,W⟩:=J.alloc (.cells (((f.toList.drop d).take (ν xs*AT.size α)).toArray++g.toArray++Builtin.zeroCells z.cells (grownCap w (ν xs+ν ys) k e-(ν xs+ν ys))) e);refine⟨_,_,_,G,q.trans H,W,Bw.UB (by simp) (by simpa using F) C ?_ ?_⟩
   .simp only[b6,a5,size_zeroCells,N,m,x,l,<-ac];exact a3 _ (by omega)
   .rw[l]at x;refine(V.mono (q.trans H)).append (B.mono (q.trans H)) ?_ ?_
    .intro i p;rw[ay (by simp only[b6,a5];omega),ay (by simp only[a5];omega)];simp only[a6];rw[ab p,b3,a4]
    .intro i p;rw[ay (by simp only[b6,a5];omega),Array.getElem?_append_right (by simp only[a5];omega)];simp only[a6,a5,x,ak]
end
end
section
section
variable {P:Program} {N:Nat} {ops:Array Oper} {R:List PanicEntry->World->Prop} {m:Bool} {K:Fr->World->Prop} {os:List Oper} {f:Fr} {w:World}
variable {dst:Option Tmp} {ty:TypeId} {pos:String} {af:Array Edge} {I:Cb} {T A:Bi} {x y:Operand} {t e u:TypeId} {sz nb:Nat}
variable {α:Type} {v:Value}
theorem Zv[AT α]{yv:Value}{xs ys:List α}(g:Yl P t e (AT.size α) nb=ψ)(hs:St I w (A++T))(j:Bw I w A v xs)(k:Nws I w yv ys)(l:ev f x=v)(c:ev f y=yv)(d:(ν xs+ν ys)*nb<=140737488355328)(i:ν xs+ν ys<=9223372036854775807)(h:∀v' A' w',Ext I w I w'->St I w' (A'++T)->Bw I w' A' v' (xs++ys)->WL P N ops R m K os (put N f dst v') w'):WL P N ops R m K (⟨dst,.call ⟨.builtin .append,#[x,y],#[t,t]⟩,ty,pos,af,τ⟩::os) f w:=by obtain⟨v',A',w',n,o,a,b⟩:=Aho (ty:=ty) hs j k (EZ g) d i;refine Ao ?_ (h v' A' w' o a b);simp_all[execOp,resolve,invoke,builtin]
theorem Ay6[AT α]{d:α}(hs:St I w T)(l:rep I w v d)(i:ev f x=v)(h:∀a I' w',Ext I w I' w'->St I' w' T->I' a.block->Dn w' a v->rep I' w' v d->WL P N ops R m K os (put N f dst (.pointer (δ a))) w'):WL P N ops R m K (⟨dst,.box e x,ty,pos,af,τ⟩::os) f w:=by
 obtain⟨b,g⟩:=hs.alloc (.cells v.cells e);obtain⟨c,k⟩:=g.freeze;refine Ao (v:=.pointer (δ ⟨w.heap.size,0,τ⟩)) ?_ (h ⟨w.heap.size,0,τ⟩ _ _ (b.trans c) k (.inr ⟨_,ah.2 rfl,rfl⟩) ⟨rfl,λj n=>?_⟩ ((b.trans c).rep l))
 .simp_all[execOp,Instr.box,newVar,newRow]
 simp
def zrB(P:Program)(t:TypeId)(z:Value):Prop:=(P.info? t).bind (·.zero)=δ z
variable {b:Nat}
theorem St.heap{o:Obj}(hs:St I w ([(b,o)]++T)):w.heap[b]?=δ o:=(hs.own (b,o) (by simp)).1
variable {o:Nat} {cs:Array Value}
theorem Wd{fr:Nat×Nat}(d:Q5 P t χ 1=ψ)(hs:St I w ([(b,.cells cs e fr)]++T))(g:ev f x=.pointer (δ ⟨b,o,τ⟩))(c:cs[o]?=δ v)(h:WL P N ops R m K os (put N f dst v) w):WL P N ops R m K (⟨dst,.load t x,ty,pos,af,τ⟩::os) f w:=by
 refine Ao ?_ h;have a:w.cell? ⟨b,o,τ⟩=δ v:=by rw[Bz hs.heap,c]
 simp [execOp,Instr.loadAt,g,Instr.sureAddr,loadVar,(HB (w:=w) d).1,a]
variable {n:Nat} {vs:List Value}
theorem Tq{fr:Nat×Nat}(c:Q5 P t ψ n=ψ)(hs:St I w ([(b,.cells cs e fr)]++T))(d:ev f x=.pointer (δ ⟨b,o,τ⟩))(g:(cs.toList.drop o).take n=vs)(i:ν vs=n)(h:WL P N ops R m K os (put N f dst (.agg ⟨vs⟩)) w):WL P N ops R m K (⟨dst,.load t x,ty,pos,af,τ⟩::os) f w:=by
 refine Ao ?_ h;have:=run_loadCells_list (P:=P) (w:=w) ⟨b,o,τ⟩ vs (λj u a=>by rw[DZ,Bz hs.heap];grind)
 rw[i]at this;simp [execOp,Instr.loadAt,d,Instr.sureAddr,loadVar,(HB (w:=w) c).1,(HB (w:=w) c).2,this]
theorem Xc{i off:Nat}(a:flB P t i off=ψ)(c:ev f x=.pointer (δ ⟨b,o,τ⟩))(h:WL P N ops R m K os (put N f dst (.pointer (δ ⟨b,o+off,τ⟩))) w):WL P N ops R m K (⟨dst,.fieldAddr t x i,ty,pos,af,τ⟩::os) f w:=
 Ao (by simp [execOp,c,Au0 a,DZ]) h
theorem Apc{i off:Nat}(j:∃fs fd,P.underlying t=δ (.struct fs)/\fs[i]?=δ fd/\fd.offset=off/\Q5 P fd.type χ 1=ψ)(e:ev f x=.agg cs)(b:cs[off]?=δ v)(h:WL P N ops R m K os (put N f dst v) w):WL P N ops R m K (⟨dst,.field t x i,ty,pos,af,τ⟩::os) f w:=by obtain⟨fs,fd,d,a,g,c⟩:=j;refine Ao ?_ h;subst g;simp [execOp,Instr.field,run_underlying d,a,e,asAgg,part,(HB (w:=w) c).1,b]
def enum:Nat->List Value->List (Nat×Value)
 |_,[]=>[]
 |n,v::vs=>(n,v)::enum (n+1) vs
theorem ZG{s:Nat}(hs:0<s):∀(vs:List Value)(n:Nat)(pre post:List Value),ν pre=n*s->ν post=ν vs*s->(∀v∈vs,v.cells.size=s)->Instr.fill (λi=>δ (i*s,s)) (pre++post).toArray (enum n vs)=δ (pre++vs.flatMap (·.cells.toList)).toArray
 | [],n,pre,post,_,d,_=>by have:post=[]:=an (by simpa using d);subst this;simp [enum,Instr.fill]
 |v::vs,n,pre,post,e,d,r=>by
  have h:v.cells.size=s:=r v (by simp);have o:ν post=s+ν vs*s:=by rw[d,bn,ac,b4,Nat.add_comm]
  simp only[enum,Instr.fill,h];have t:(ξ (s≠s) ||decide (n*s+s>(pre++post).toArray.size))=χ:=by simp [e,o]
  rw[t];simp only[a1,if_false];have k:∀(g:List Value)(j:Nat)(a b c:List Value),ν b=j->ν c=ν g->
    (g.zipIdx j).foldl (λq(p:Value×Nat)=>q.setIfInBounds (n*s+p.2) p.1) ((pre++(b++(c++a))).toArray)=(pre++(b++(g++a))).toArray:=by
   intro g
   induction g with
   |nil=>intro j a b c m l;have:c=[]:=an (by simpa using l);subst this;simp
   |cons x g B=>
    intro j a b c m l;cases c with
    |nil=>simp at l
    |cons y c=>
     simp only[cb,bu];have w:(pre++(b++(y::c++a))).toArray.setIfInBounds (n*s+j) x=(pre++((b++[x])++(c++a))).toArray:=by apply Array.ext';simp only[bg];rw[b7 _ _ (by omega),e,ak,b7 _ _ (by omega),m,cp];simp
     rw[w,B (j+1) a (b++[x]) c (by simp [m]) (by simpa using l)];simp
  have f:=k v.cells.toList 0 (post.drop s) [] (post.take s) rfl (by rw[al,show ν v.cells.toList=v.cells.size from rfl];omega);simp only[ao,List.take_append_drop]at f;have z:(cv (λg(p:Value×Nat)=>g.setIfInBounds (n*s+p.2) p.1) (pre++post).toArray v.cells.zipIdx)=(pre++(v.cells.toList++post.drop s)).toArray:=by rw[<-f,<-bh];simp
  have:=ZG hs vs (n+1) (pre++v.cells.toList) (post.drop s) (by rw[c5,e,show ν v.cells.toList=v.cells.size from rfl,h,ac,b4]) (by rw[bm];omega) (λu A=>r u (by simp [A]));simp only[a0]at this;rw[show (cv (λg(x:Value×Nat)=>match x with|(c,j)=>g.setIfInBounds (n*s+j) c) (pre++post).toArray v.cells.zipIdx)=(pre++(v.cells.toList++post.drop s)).toArray from z,this];simp
theorem PZ{α:Type}[AT α]:∀(xs:List α)(vs:List Value),ν vs=ν xs->(∀j(h:j<ν xs)(k:j<ν vs),rep I w vs[j] xs[j])->DB I w ((vs.flatMap (·.cells.toList))[·]?) xs
 | [],_,_,_=>λj c=>by grind
 |x::xs,[],h,_=>by grind
 |x::xs,v::vs,h,d=>by
  have b:rep I w v x:=d 0 (by simp) (by simp);have e:=PZ xs vs (by grind) (λj l f=>d (j+1) (by grind) (by grind));have:=DB.append (xs:=[x]) (g1:=λi=>v.cells.toList[i]?) (g2:=λi=>(vs.flatMap (·.cells.toList))[i]?) (g:=λi=>((v::vs).flatMap (·.cells.toList))[i]?) (I:=I) (w:=w)
   (λj c=>by grind) e
   (λi a=>by simp only[List.length_singleton,b4]at a;rw[c9,aa (by rw[show ν v.cells.toList=v.cells.size from rfl,AT.cells b];exact a)])
   (λi a=>by rw[c9,ai (by rw[show ν v.cells.toList=v.cells.size from rfl,AT.cells b];simp)];congr 1;rw[show ν v.cells.toList=v.cells.size from rfl,AT.cells b];simp)
  grind
theorem Me[AT α]{ps:Array (Nat×Value)}{xs:List α}(ht:Slc P t e (AT.size α) nb)(hp:ps.toList=enum 0 vs)(hl:ν vs=ν xs)(hr:∀j(h:j<ν xs)(h':j<ν vs),rep I w vs[j] xs[j])(hn:ν xs*AT.size α<=16777216):(Instr.buildSlice t (ν xs) ps).run P w=.ok (.slice (δ ⟨w.heap.size,0,τ⟩) (ν xs) (ν xs)) (w.alloc (.cells (vs.flatMap (·.cells.toList)).toArray e)):=by
 obtain⟨i,z,hi,hsz,hnb,hz,hzs⟩:=ht.info;have hpos:0<AT.size α:=AT.pos;have hvs:∀v∈vs,v.cells.size=AT.size α:=λv hv=>by obtain⟨j,hj,rfl⟩:=c2 hv;grind[AT.cells]
 have hf:=ZG hpos vs 0 [] ((c4 (ν xs*AT.size α)).map λn=>z.cells[n%z.cells.size]!) (by simp) (by grind) hvs;simp only[ao]at hf;have h24:¬(16777216<ν xs*AT.size α):=by omega
 simp only[Instr.buildSlice,Sem.run_bind,run_underlying ht.under,Result.andThen_ok,ht.size];simp only[Nat.reducePow,gt_iff_lt,h24,if_false];by_cases h0:ν xs*AT.size α=0
 .have hx0:ν xs=0:=by rcases cg.1 h0 with h|h<;>omega
  have hvs0:vs=[]:=an (by omega);subst hvs0;simp [hp,enum,Instr.fill,newRow,hx0,show ba 0=#[] from rfl]
 .have harr:(ba (ν xs*AT.size α)).map (λn=>z.cells[n%z.cells.size]!)=((c4 (ν xs*AT.size α)).map λn=>z.cells[n%z.cells.size]!).toArray:=by grind
  simp only[h0,if_false,Sem.run_bind,zeroValue,typeInfo,run_program,Result.andThen_ok,hi,Sem.run_pure,hz,hp,harr,hf,newRow,run_newObj];rfl
def Afj{α:Type}[AT α](I:Cb)(w:World):List Value->List α->Prop
 | [],[]=>True
 |v::vs,x::xs=>rep I w v x/\Afj I w vs xs
 |_,_=>False
theorem Afj.get{α:Type}[AT α]{I:_}{w:World}:∀{vs:List Value}{xs:List α},Afj I w vs xs->ν vs=ν xs/\∀j(h:j<ν xs)(e:j<ν vs),rep I w vs[j] xs[j]
 | [],[],_=>⟨rfl,λj h=>by simp⟩
 |[],_::_,h|_::_,[],h=>h.elim
 |v::vs,x::xs,h=>by
  obtain⟨d,c⟩:=Afj.get h.2;refine⟨by simp [d],λj b a=>?_⟩;cases j with
  |zero=>exact h.1
  |succ j=>grind
theorem A3f[AT α]{ps:Array (Nat×Operand)}{xs:List α}(s:Yl P t e (AT.size α) nb=ψ)(hs:St I w T)(l:(ps.toList.map λp=>(p.1,ev f p.2))=enum 0 vs)(d:Afj I w vs xs)(c:cq (ν xs*AT.size α) 16777216=ψ)(B:ν xs=n)(h:∀v I' w',Ext I w I' w'->St I' w' T->rep I' w' v xs->WL P N ops R m K os (put N f dst v) w'):WL P N ops R m K (⟨dst,.buildSlice t n ps,ty,pos,af,τ⟩::os) f w:=by
 subst B;obtain⟨k,g⟩:=d.get;have r:=b8 c;have a:=Me (ps:=ps.map λp=>(p.1,ev f p.2)) (EZ s) (by simp_all) k g r;obtain⟨C,u⟩:=hs.alloc (.cells (vs.flatMap (·.cells.toList)).toArray e);obtain⟨o,A⟩:=u.freeze;have b:=C.trans o;refine Ao (by simp only[execOp,Sem.run_bind];rw[show (ps.map λ(x:Nat×Operand)=>match x with|(i,x)=>(i,ev f x))=ps.map (λp=>(p.1,ev f p.2)) from rfl,a];rfl) (h _ _ _ b A ?_);refine⟨⟨_,_,rfl,am _,?_,.inr ⟨w.heap.size,0,rfl,.inr ⟨_,ah.2 rfl,rfl⟩,λj q=>?_⟩⟩⟩
 .have:ν xs<=ν xs*AT.size α:=bp _ AT.pos;grind[Pd]
 .obtain⟨v,z,D⟩:=(PZ xs vs k g).mono b j q;exact⟨v,z,rfl,λi y=>by simp_all⟩
theorem Apd[AT α]{ps:Array (Nat×Operand)}{xs:List α}(z:Yl P t e (AT.size α) nb=ψ)(hs:St I w T)(r:(ps.toList.map λp=>(p.1,ev f p.2))=enum 0 vs)(k:Afj I w vs xs)(d:cq (ν xs*AT.size α) 16777216=ψ)(E:ν xs=n)(h:∀v A w',Ext I w I w'->St I w' (A++T)->Bw I w' A v xs->WL P N ops R m K os (put N f dst v) w'):WL P N ops R m K (⟨dst,.buildSlice t n ps,ty,pos,af,τ⟩::os) f w:=by
 subst E;obtain⟨o,c⟩:=k.get;have y:=b8 d;have a:=Me (ps:=ps.map λp=>(p.1,ev f p.2)) (EZ z) (by simp_all) o c y;obtain⟨q,s⟩:=hs.alloc (.cells (vs.flatMap (·.cells.toList)).toArray e);refine Ao (by simp only[execOp,Sem.run_bind];rw[show (ps.map λ(x:Nat×Operand)=>match x with|(i,x)=>(i,ev f x))=ps.map (λp=>(p.1,ev f p.2)) from rfl,a];rfl) (h _ _ _ q s ?_);have F:ν xs<=ν xs*AT.size α:=bp _ AT.pos;refine Bw.UB rfl (am _) (by grind[maxLen]) ?_ ?_
 .have:∀(l:List Value),(∀v∈l,v.cells.size=AT.size α)->ν (l.flatMap (·.cells.toList))=ν l*AT.size α:=by
   intro l;induction l with
   |nil=>simp
   |cons v l B=>grind
  simp only[a5];rw[this vs (λv b=>by obtain⟨j,g,rfl⟩:=c2 b;grind[AT.cells]),o];omega
 .refine λj g=>?_;obtain⟨v,D,H⟩:=(PZ xs vs o c).mono q j g;grind
end
end
section
section
variable {P:Program} {N:Nat} {ops:Array Oper} {R:List PanicEntry->World->Prop} {m:Bool} {K:Fr->World->Prop} {os:List Oper} {f:Fr} {w:World}
variable {dst:Option Tmp} {ty:TypeId} {pos:String} {af:Array Edge} {I:Cb} {T A:Bi} {x y z:Operand} {t e u:TypeId} {sz nb:Nat} {kd:IntKind} {a b c:Int}
theorem Adf{α:Type}[AT α]{v:Value}{xs:List α}(o:rep I w v xs):∃a cap,v=.slice a (ν xs) cap/\ν xs<=cap/\cap<=Pd/\∀lo hi m,lo<=hi->hi<=ν xs->hi<=m->m<=cap->rep I w (.slice (if m=lo then a else a.map (·.add (lo*AT.size α))) (hi-lo) (m-lo)) ((xs.drop lo).take (hi-lo)):=by
 obtain⟨a,cap,q,h,k,d⟩:=o.ex;refine⟨a,cap,q,h,k,λlo hi m t i r s=>?_⟩;have c:ν ((xs.drop lo).take (hi-lo))=hi-lo:=by simp;omega
 refine⟨⟨_,m-lo,by rw[c],by omega,by omega,?_⟩⟩;by_cases n:hi=lo
 .exact .inl (by rw[n,cp];simp)
 rcases d with d|⟨b,g,rfl,p,d⟩
 .subst d;simp at i;omega
 rw[GT (by omega)];refine .inr ⟨b,g+lo*AT.size α,by simp [DZ],p,λj l=>?_⟩;rw[c]at l;obtain⟨u,f,e⟩:=d (lo+j) (by omega);refine⟨u,?_,?_⟩
 .rw[List.getElem_take,List.getElem_drop];exact f
 .rw[ad,<-ac];exact e
end
end
section
section
variable {P:Program} {I:Cb} {w:World} {T A:Bi} {t e:TypeId} {nb:Nat} {α:Type} [AT α]
variable {xs:List α}
theorem DB.take{get:Nat->Option Value}(n:Nat)(h:DB I w get xs):DB I w get (xs.take n):=λj hj=>by obtain⟨u,h1,h2⟩:=h j (by grind);grind
theorem DB.drop{get:Nat->Option Value}(n:Nat)(h:DB I w get xs):DB I w (λk=>get (n*AT.size α+k)) (xs.drop n):=λj hj=>by obtain⟨u,h1,h2⟩:=h (n+j) (by grind);grind
theorem DB.congr{g g':Nat->Option Value}(h:DB I w g xs)(hg:∀i,i<ν xs*AT.size α->g' i=g i):DB I w g' xs:=by have:=DB.append (ys:=[]) (g2:=λ_=>τ) h (λj hj=>by grind) hg (by simp);grind
def At(v:Value)(sz j:Nat)(a:Addr):Prop:=∃b off len cap,v=.slice (δ ⟨b,off,τ⟩) len cap/\a=⟨b,off+j*sz,τ⟩
theorem Akw{v y:Value}{x:α}{j:Nat}{a:Addr}{u:TypeId}(V:Bw I w A v xs)(hs:St I w (A++T))(N:At v (AT.size α) j a)(R:j<ν xs)(r:rep I w y x)(U:Q5 P u (AT.agg α) (AT.size α)=ψ):∃A' w',(Instr.storeAt u (.pointer (δ a)) y).run P w=.ok () w'/\Ext I w I w'/\St I w' (A'++T)/\Bw I w' A' v (xs.set j x):=by
 rcases V.ex with ⟨_,rfl,_⟩|⟨b,d,C,E,e,rfl,rfl,Q,W,S,X⟩
 .simp at R
 obtain⟨Z,L,J,G,O,rfl⟩:=N;cases O;have s:=AT.cells r;have D:e+(j+1)*AT.size α<=d.size:=b5 (bc (a3 _ (by omega)) _) S;rw[ac,b4]at D;have g:=run_storeCells_at P b (e+j*AT.size α) E y.cells.toList 0 d w hs.heap (by rw[show ν y.cells.toList=y.cells.size from rfl];omega) (AT.one r);simp only[bq]at g;generalize l:(c0 (e+j*AT.size α) d.toList++y.cells.toList++cn (e+j*AT.size α+ν y.cells.toList) d.toList).toArray=q at g;obtain⟨t,M⟩:=hs.write (w':=w.setRow b q) rfl rfl rfl (by simp [World.setRow]) (setRow_heap w b d _ E _ hs.heap) (λc Y=>setRow_other w b c _ Y);refine⟨_,_,?_,t,M,⟨.inr ⟨b,_,C,_,e,rfl,by simp,by simpa using Q,W,?_,?_⟩⟩⟩
 .simp [Instr.storeAt,Instr.sureAddr,storeVar,(HB (w:=w) U).2,s,g]
 all_goals subst l
 .simp only[a5,c5,al,bm,be];omega
 .have o:ν (c0 (e+j*AT.size α) d.toList)=e+j*AT.size α:=by rw[al,show ν d.toList=d.size from rfl];omega
  have m:∀i,(c0 (e+j*AT.size α) d.toList++y.cells.toList++cn (e+j*AT.size α+ν y.cells.toList) d.toList)[e+i]? =
    if i<j*AT.size α then d[e+i]? else if i<(j+1)*AT.size α then y.cells[i-j*AT.size α]? else d[e+i]?:=by
   intro i
   rw[a0,ac,b4]
   split
   .rename_i h;rw[aa (by omega),ab (by omega),a4]
   .rw[ai (by omega),o,Nat.add_sub_add_left]
    split
    .rw[aa (by rw[show ν y.cells.toList=y.cells.size from rfl];omega),a4]
    .rw[ai (by rw[show ν y.cells.toList=y.cells.size from rfl];omega),b3,a4,show ν y.cells.toList=y.cells.size from rfl]
     congr 1;omega
  intro k F;rw[List.length_set]at F;simp only[a6,m];have p:∀{k j i:Nat},k<j->i<AT.size α->k*AT.size α+i<j*AT.size α:=λ{k j i}f n=>by have:(k+1)*AT.size α<=j*AT.size α:=a3 _ f;rw[ac,b4]at this;omega
  by_cases f:k=j
  .subst f;refine⟨y,by rw[List.getElem_set_self];exact t.rep r,λi n=>?_⟩;rw[GT (by omega),UV (by rw[ac,b4];omega),ak]
  .obtain⟨z,H,K⟩:=X k F;refine⟨z,by rw[List.getElem_set_ne (Ne.symm f)];exact t.rep H,λi n=>?_⟩;have B:i<AT.size α:=by rw[<-AT.cells H];exact n
   rcases Nat.lt_or_gt_of_ne f with h|h
   .rw[UV (p h B)];exact K i n
   .have:=a3 (AT.size α) h;rw[GT (by grind),GT (by grind)];grind
def Yv(v:Value)(j sz:Nat):Value:=match v with
 | .slice a len cap=>.slice (if cap=j then a else a.map (·.add (j*sz))) (len-j) (cap-j)
 |v=>v
theorem Bw.sub{v:Value}{xs:List α}{j:Nat}(ho:Bw I w A v xs)(hj:j<=ν xs):Bw I w A (Yv v j (AT.size α)) (xs.drop j):=by
 rcases ho.ex with ⟨rfl,rfl,rfl⟩|⟨b,arr,cap,e0,off,rfl,rfl,h3,h4,h5,h6⟩
 .simp at hj;subst hj;exact Bw.nil
 .have hm:(cap-j)*AT.size α+j*AT.size α=cap*AT.size α:=by rw[<-ac];grind
  by_cases hc:cap=j
  .have hd:xs.drop j=[]:=List.drop_eq_nil_of_le (by omega);refine⟨.inr ⟨b,arr,cap-j,e0,off,rfl,by grind[Yv],by grind,by omega,by omega,?_⟩⟩;rw[hd];intro k hk;grind
  .refine⟨.inr ⟨b,arr,cap-j,e0,off+j*AT.size α,rfl,by grind[Yv,DZ],by grind,by omega,by omega,(h6.drop j).congr λi hi=>by rw[ad]⟩⟩
end
section
variable {P:Program} {N:Nat} {ops:Array Oper} {R:List PanicEntry->World->Prop} {m:Bool} {K:Fr->World->Prop} {os:List Oper} {f:Fr} {w:World}
variable {dst:Option Tmp} {ty:TypeId} {pos:String} {af:Array Edge} {I:Cb} {T A:Bi} {x y z:Operand} {t e u:TypeId} {sz nb:Nat} {kd:IntKind} {a b c:Int}
theorem Atx{α:Type}[AT α]{n:Nat}(l:Yl P t e (AT.size α) nb=ψ)(hs:St I w T)(p:ev f x=.int .i64 0)(q:ev f y=.int .i64 b)(F:b=(n:Int))(L:n<=9223372036854775807)(g:nb*n<=281474976710656)(h:∀v A w',Ext I w I w'->St I w' (A++T)->Bw I w' A v ([]:List α)->WL P N ops R m K os (put N f dst v) w'):WL P N ops R m K (⟨dst,.makeSlice t x y,ty,pos,af,τ⟩::os) f w:=by
 obtain⟨i,z,r,c,d,E,G⟩:=(EZ l).info;have s:=(EZ l).under;subst F;have u:IntKind.i64.wrap (n:Int)=n:=VY (by omega) (by omega);have a:IntKind.i64.wrap 0=0:=by decide
 obtain⟨D,C⟩:=hs.alloc (.cells ((ba (n*AT.size α)).map λk=>(if n*AT.size α=0 then (#[]:Array Value) else z.cells)[k%(if n*AT.size α=0 then (#[]:Array Value) else z.cells).size]!) e);refine Ao (v:=.slice (δ ⟨w.heap.size,0,τ⟩) 0 n) ?_ (h _ _ _ D C (Bw.UB rfl (cd _) (by grind[maxLen]) (by simp) λj H=>by grind));have J:¬((i.bytes:Int)*(n:Int)>281474976710656):=by grind
 by_cases o:n*AT.size α=0
 .simp [execOp,Instr.makeSlice,run_underlying s,p,q,asInt,asIntOf,typeInfo,r,u,a,sizeOf,c,o,newRow];omega
 .simp [execOp,Instr.makeSlice,run_underlying s,p,q,asInt,asIntOf,typeInfo,r,u,a,sizeOf,c,o,newRow,zeroValue,E];omega
end
end
section
structure Kq(P:Program)(t:TypeId)(κ:Type)[AT κ][DecidableEq κ]:Prop where
 find:∀(I:Cb)(w:World)(v:Value)(k:κ)(es:List MapEntry)(ks:List κ),rep I w v k->ν es=ν ks->(∀j(h:j<ν es)(h':j<ν ks),rep I w es[j].key ks[j])->
  (Instr.findKey t v es).run P w=.ok ((ks.findIdx? (·==k)).bind λi=>(es[i]?).map λe=>(i,e.val)) w
 check:∀(I:Cb)(w:World)(v:Value)(k:κ)(e:Bool),rep I w v k->(Instr.checkKey e 10000 t v).run P w=.ok () w
 same:∀(I:Cb)(w:World)(v u:Value)(k:κ),rep I w v k->rep I w u k->Instr.sameBits 10000 v u=ψ
theorem Vw{k:Int}:∀(a:List MapEntry)(ks:List Int)(n:Nat),ν a=ν ks->(∀j(h:j<ν a)(o:j<ν ks),a[j].key=.int .i64 ks[j])->Instr.findNow (.int .i64) (.int .i64 k) a n=δ ((ks.findIdx? (·==k)).bind λi=>(a[i]?).map λe=>(n+i,e.val))
 | [],[],n,_,_=>rfl
 |[],_::_,_,h,_|_::_,[],_,h,_=>by grind
 |e::a,x::ks,n,h,d=>by
  have f:e.key=.int .i64 x:=d 0 (by simp) (by simp);have g:=Vw (k:=k) a ks (n+1) (by grind) (λj m l=>d (j+1) (by grind) (by grind));simp only[Instr.findNow,f,Instr.sameNow,if_true];by_cases b:k=x
  .grind
  .have c:¬x=k:=λh=>b h.symm;have:(k==x)=χ:=by grind
   rw[this];simp only[g,c6,show (x == k)=χ by grind];cases ks.findIdx? (· == k) with
   |none=>simp
   |some i=>grind
theorem Kq.int{P:Program}{t:TypeId}(b:P.underlying t=δ (.int .i64)):Kq P t Int where
 find I w v k g i a c l:=by obtain rfl:=Ar2.eq a;have:=Vw (k:=k) g i 0 c (λj h f=>(l j h f).eq);simp_all[co,Instr.findKey,run_underlying]
 check I w v k e a:=by
  obtain rfl:=Ar2.eq a;have:∀n,(Instr.checkKey e (n+1) t (.int .i64 k)).run P w=.ok () w:=λn=>by simp [Instr.checkKey,run_underlying b]
  grind
 same I w v u k a d:=by obtain rfl:=Ar2.eq a;obtain rfl:=Ar2.eq d;simp [Instr.sameBits]
def Ag{κ β:Type}[DecidableEq κ]:List (κ×β)->κ->Option β
 | [],_=>τ
 |p::m,k=>if p.1=k then δ p.2 else Ag m k
def C4{κ β:Type}[DecidableEq κ]:List (κ×β)->κ->β->List (κ×β)
 | [],k,v=>[(k,v)]
 |p::m,k,v=>if p.1=k then (p.1,v)::m else p::C4 m k v
def Dl{κ β:Type}[DecidableEq κ]:List (κ×β)->κ->List (κ×β)
 | [],_=>[]
 |p::m,k=>if p.1=k then m else p::Dl m k
structure C3{κ β:Type}[AT κ][AT β](I:Cb)(w:World)(A:Bi)(v:Value)(m:List (κ×β)):Prop where
 ex:∃b es clock,A=[(b,.map es clock)]/\v=.map (δ b)/\ν es.toList=ν m/\∀j(h:j<ν es.toList)(h':j<ν m),rep I w es.toList[j].key m[j].1/\rep I w es.toList[j].val m[j].2
 bo:∀b es clock,A=[(b,.map es clock)]->(es.toList.map (·.born)).Nodup/\∀e∈es.toList,e.born<clock
theorem C3.mono{κ β:Type}[AT κ][AT β]{I I':Cb}{w w':World}{A:Bi}{v:Value}{m:List (κ×β)}(h:C3 I w A v m)(e:Ext I w I' w'):C3 I' w' A v m:=by obtain⟨b,k,c,l,i,g,f⟩:=h.ex;exact⟨⟨b,k,c,l,i,g,λj d a=>⟨e.rep (f j d a).1,e.rep (f j d a).2⟩⟩,h.bo⟩
theorem WV{b b':Nat}{es es':Array MapEntry}{c c':Nat}(h:(es.toList.map (·.born)).Nodup/\∀e∈es.toList,e.born<c)(e:([(b,.map es c)]:Bi)=[(b',.map es' c')]):(es'.toList.map (·.born)).Nodup/\∀e∈es'.toList,e.born<c':=by grind
theorem Tw{κ β:Type}[DecidableEq κ]:∀(m:List (κ×β))(k:κ),Ag m k=((m.map (·.1)).findIdx? (·==k)).bind λi=>(m[i]?).map (·.2)
 | [],k=>rfl
 |p::m,k=>by
  have a:=Tw m k;unfold Ag;by_cases h:p.1=k
  .grind
  .rw[GT h,a,aq,c6,show (p.1 == k)=χ by grind];cases (m.map (·.1)).findIdx? (· == k)<;>simp
theorem Adw{κ β:Type}[DecidableEq κ]:∀(m:List (κ×β))(k:κ)(v:β),C4 m k v=match (m.map (·.1)).findIdx? (·==k) with
  |some i=>m.modify i λp=>(p.1,v)
  |none=>m++[(k,v)]
 | [],k,v=>rfl
 |p::m,k,v=>by have a:=Adw m k v;unfold C4;grind
theorem Ad0{κ β:Type}[DecidableEq κ]:∀(m:List (κ×β))(k:κ),Dl m k=match (m.map (·.1)).findIdx? (·==k) with
  |some i=>m.eraseIdx i
  |none=>m
 | [],k=>rfl
 |p::m,k=>by have a:=Ad0 m k;unfold Dl;grind
structure Afn(P:Program)(t kt et:TypeId)(κ β:Type)[AT κ][AT β][DecidableEq κ]:Prop where
 und:P.underlying t=δ (.map kt et)
 key:Kq P kt κ
section
variable {P:Program} {N:Nat} {ops:Array Oper} {R:List PanicEntry->World->Prop} {mo:Bool} {K:Fr->World->Prop} {os:List Oper} {f:Fr} {w:World}
variable {dst:Option Tmp} {ty:TypeId} {pos:String} {af:Array Edge} {I:Cb} {T A:Bi} {t kt et:TypeId}
variable {κ β:Type} [AT κ] [AT β] [DecidableEq κ] {x y z:Operand}
theorem Zt(κ β:Type)[AT κ][AT β](hs:St I w T)(h:∀v A w',Ext I w I w'->St I w' (A++T)->C3 I w' A v ([]:List (κ×β))->WL P N ops R mo K os (put N f dst v) w'):WL P N ops R mo K (⟨dst,.makeMap t τ,ty,pos,af,τ⟩::os) f w:=by obtain⟨a,b⟩:=hs.alloc (.map #[] 0);refine Ao (v:=.map (δ w.heap.size)) ?_ (h _ _ _ a b ⟨⟨_,_,_,rfl,rfl,rfl,λj c=>by simp⟩,λ_ _ _ e=>WV ⟨by simp,by simp⟩ e⟩);rfl
theorem Mp{b c:Nat}{es:Array MapEntry}(hs:St I w ([(b,.map es c)]++T)):(getObj b).run P w=.ok (.map es c) w:=by have:=hs.heap;grind[getObj,Sem.run]
variable {v:Value} {m:List (κ×β)}
theorem Apa{aE:Array TypeId}(d:C3 I w A v m)(hs:St I w (A++T))(g:ev f x=v)(i:Afn P t kt et κ β)(a:aE[0]?=δ t)(h:WL P N ops R mo K os (put N f dst (.int .i64 (ν m))) w):WL P N ops R mo K (⟨dst,.call ⟨.builtin .len,#[x],aE⟩,ty,pos,af,τ⟩::os) f w:=by obtain⟨b,j,c,rfl,rfl,e,_⟩:=d.ex;refine Ao ?_ (by rw[<-e]at h;exact h);simp [execOp,resolve,invoke,builtin,Builtin.len_,a,g,run_underlying i.und,Mp hs,goInt]
theorem C3.find{v kv:Value}{m:List (κ×β)}{k:κ}(ht:Afn P t kt et κ β)(ho:C3 I w A v m)(hk:rep I w kv k):∃b es c,A=[(b,.map es c)]/\v=.map (δ b)/\(Instr.findKey kt kv es.toList).run P w=.ok (((m.map (·.1)).findIdx? (·==k)).bind λi=>(es.toList[i]?).map λe=>(i,e.val)) w/\ν es.toList=ν m/\∀j(h:j<ν es.toList)(h':j<ν m),rep I w es.toList[j].key m[j].1/\rep I w es.toList[j].val m[j].2:=by obtain⟨b,es,c,h1,h2,hl,hr⟩:=ho.ex;exact⟨b,es,c,h1,h2,ht.key.find I w kv k _ _ hk (by grind) (λj h h'=>by grind),hl,hr⟩
variable {kv:Value} {k:κ}
theorem Xb{zv:Value}{zd:β}(g:Afn P t kt et κ β)(z:C3 I w A v m)(hs:St I w (A++T))(q:ev f x=v)(s:ev f y=kv)(r:rep I w kv k)(B:(zeroValue et).run P w=.ok zv w)(l:rep I w zv zd)(h:∀u,rep I w u ((Ag m k).getD zd)->WL P N ops R mo K os (put N f dst u) w):WL P N ops R mo K (⟨dst,.lookup t x y χ,ty,pos,af,τ⟩::os) f w:=by
 obtain⟨b,j,c,rfl,rfl,e,D,C⟩:=z.find g r;have o:=Mp (P:=P) hs;have p:=g.key.check I w kv k j.isEmpty r;rw[Tw]at h;cases n:(m.map (·.1)).findIdx? (· == k) with
 |none=>
  rw[n]at e h;refine Ao (v:=zv) ?_ (h zv (by grind));simp [execOp,Instr.lookup,run_underlying g.und,q,s,o,p,e,B]
 |some i=>
  rw[n]at e h;have d:i<ν m:=by grind[a9]
  have a:i<ν j.toList:=by omega
  rw[ae,a7 a,ap]at e;refine Ao (v:=j.toList[i].val) ?_ (h _ ?_)
  .simp only[execOp,Instr.lookup];simp [run_underlying g.und,q,s,o,p,e]
  grind
theorem Xa{zv:Value}{zd:β}(ht:Afn P t kt et κ β)(ho:C3 I w A v m)(hs:St I w (A++T))(hx:ev f x=v)(hy:ev f y=kv)(hk:rep I w kv k)(hz:(zeroValue et).run P w=.ok zv w)(hzr:rep I w zv zd)(h:∀u,rep I w u ((Ag m k).getD zd)->WL P N ops R mo K os (put N f dst (.tuple #[u,.bool (Ag m k).isSome])) w):WL P N ops R mo K (⟨dst,.lookup t x y ψ,ty,pos,af,τ⟩::os) f w:=by
 obtain⟨b,es,c,rfl,rfl,hf,hl,hr⟩:=ho.find ht hk;have hg:=Mp (P:=P) hs;have hc:=ht.key.check I w kv k es.isEmpty hk;rw[Tw]at h;cases hi:(m.map (·.1)).findIdx? (· == k) with
 |none=>
  rw[hi]at hf h;refine Ao (v:=.tuple #[zv,.bool χ]) ?_ (h zv (by grind));simp [execOp,Instr.lookup,run_underlying ht.und,hx,hy,hg,hc,hf,hz]
 |some i=>
  rw[hi]at hf h;have hlt:i<ν m:=by grind[a9]
  have hlt':i<ν es.toList:=by omega
  rw[ae,a7 hlt',ap]at hf;simp only[ae,a7 hlt,ap,ca,Option.isSome_some]at h;refine Ao (v:=.tuple #[es.toList[i].val,.bool ψ]) ?_ (h _ (hr i hlt' hlt).2);simp only[execOp,Instr.lookup];simp [run_underlying ht.und,hx,hy,hg,hc,hf]
theorem Oc{b c:Nat}{es:Array MapEntry}{o':Obj}(hs:St I w ([(b,.map es c)]++T)):∃w',(setObj b o').run P w=.ok () w'/\Ext I w I w'/\St I w' ([(b,o')]++T):=by
 have hh:=hs.heap;have hlt:b<w.heap.size:=by grind
 obtain⟨e,s⟩:=hs.write (w':={w with heap:=w.heap.setIfInBounds b o'}) (o':=o') rfl rfl rfl (by simp) (by grind) (λc hc=>by grind);grind[setObj,Sem.run]
theorem Ads{uv:Value}{u:β}(G:Afn P t kt et κ β)(L:C3 I w A v m)(hs:St I w (A++T))(O:ev f x=v)(M:ev f y=kv)(Z:ev f z=uv)(D:rep I w kv k)(hu:rep I w uv u)(h:∀A' w',Ext I w I w'->St I w' (A'++T)->C3 I w' A' v (C4 m k u)->WL P N ops R χ K os (put N f dst undef) w'):WL P N ops R χ K (⟨dst,.mapUpdate t x y z,ty,pos,af,τ⟩::os) f w:=by
 obtain⟨b,g,c,rfl,rfl,H,hl,J⟩:=L.find G D;have hg:=Mp (P:=P) hs;have hc:=G.key.check I w kv k χ D;rw[Adw]at h;cases W:(m.map (·.1)).findIdx? (· == k) with
 |none=>
  rw[W]at H h;obtain⟨w',Y,a,V⟩:=Oc (P:=P) hs (o':=.map (g.push {key:=kv,val:=uv,born:=c}) (c+1));refine NW ?_ (h _ w' a V ⟨⟨_,_,_,rfl,rfl,by simp [hl],λj Q o=>?_⟩,λ_ _ _ e=>WV ?_ e⟩)
  .simp only[execOp,Instr.mapUpdate];simp [run_underlying G.und,O,M,Z,hg,hc,H,Y]
  .simp only[bk];by_cases s:j<ν g.toList
   .rw[b0 s,b0 (by omega)];exact⟨a.rep (J j s (by omega)).1,a.rep (J j s (by omega)).2⟩
   .rw[bi (by omega),bi (by omega)];simp only[List.getElem_singleton];exact⟨a.rep D,a.rep hu⟩
  .obtain⟨b1,b2⟩:=L.bo _ _ _ rfl;refine⟨?_,λe q=>?_⟩
   .simp only[bk,bt,aq,cr];rw[bj];refine⟨b1,by simp,λx O y M=>?_⟩;obtain⟨e,q,rfl⟩:=ct.1 O;have:=b2 e q;simp only[ah]at M;omega
   .simp only[bk,ce,ah]at q;rcases q with q|rfl
    .have:=b2 e q;omega
    .simp
 |some i=>
  rw[W]at H h;obtain⟨B,U,_⟩:=a9.1 W;have B:i<ν m:=by simpa using B
  have d:i<ν g.toList:=by omega
  have X:i<g.size:=by omega
  have p:m[i].1=k:=by grind
  rw[ae,a7 d,ap]at H;have r:=G.key.same I w g.toList[i].key kv k (p▸(J i d B).1) D;obtain⟨w',Y,a,V⟩:=Oc (P:=P) hs (o':=.map (g.modify i λe=>{e with key:=kv,val:=uv}) c);have F:∀(l:List MapEntry)(i:Nat),(l.modify i λe=>{e with key:=kv,val:=uv}).map (·.born)=l.map (·.born):=λl=>by
   induction l with
   |nil=>intro i;cases i<;>rfl
   |cons x l ih=>grind
  have C:((g.modify i λe=>{e with key:=kv,val:=uv}).toList.map (·.born))=g.toList.map (·.born):=by grind
  refine NW ?_ (h _ w' a V ⟨⟨_,_,_,rfl,rfl,by grind,λj Q o=>?_⟩,λ_ _ _ e=>WV ⟨C▸(L.bo _ _ _ rfl).1,λe q=>?_⟩ e⟩)
  .have n:Instr.sameBits 10000 g[i].key kv=ψ:=by grind
   simp only[execOp,Instr.mapUpdate];simp [run_underlying G.und,O,M,Z,hg,hc,H,X,Instr.keyThatStays,n,Y]
  .simp only[c3,List.length_modify]at Q o;simp only[c3,List.getElem_modify];by_cases E:i=j
   .subst E;simp only[if_true];exact⟨a.rep (p▸D),a.rep hu⟩
   .simp only[GT E];exact⟨a.rep (J j Q o).1,a.rep (J j Q o).2⟩
  .have h5:e.born∈g.toList.map (·.born):=C▸bb q;obtain⟨e',S,h6⟩:=ct.1 h5;rw[<-h6];exact(L.bo _ _ _ rfl).2 e' S
theorem Adt{at_:Array TypeId}(u:Afn P t kt et κ β)(B:C3 I w A v m)(hs:St I w (A++T))(E:ev f x=v)(L:ev f y=kv)(G:rep I w kv k)(q:at_[0]?=δ t)(h:∀A' w',Ext I w I w'->St I w' (A'++T)->C3 I w' A' v (Dl m k)->WL P N ops R mo K os (put N f dst (.tuple #[])) w'):WL P N ops R mo K (⟨dst,.call ⟨.builtin .delete,#[x,y],at_⟩,ty,pos,af,τ⟩::os) f w:=by
 obtain⟨b,p,c,rfl,rfl,r,H,o⟩:=B.find u G;have J:=Mp (P:=P) hs;have F:=u.key.check I w kv k p.isEmpty G;rw[Ad0]at h;cases C:(m.map (·.1)).findIdx? (· == k) with
 |none=>
  rw[C]at r h;obtain⟨w',z,g,D⟩:=Oc (P:=P) hs (o':=.map p c);refine Ao (v:=.tuple #[]) ?_ (h _ w' g D ⟨⟨_,_,_,rfl,rfl,H,λj s l=>⟨g.rep (o j s l).1,g.rep (o j s l).2⟩⟩,λ_ _ _ e=>WV (B.bo _ _ _ rfl) e⟩);simp only[execOp,resolve,invoke,builtin,Builtin.delete_];simp [q,run_underlying u.und,E,L,J,F,r,z]
 |some i=>
  rw[C]at r h;obtain⟨n,Q,_⟩:=a9.1 C;have n:i<ν m:=by grind
  have a:i<ν p.toList:=by omega
  rw[ae,a7 a,ap]at r;obtain⟨w',z,g,D⟩:=Oc (P:=P) hs (o':=.map (p.eraseIdxIfInBounds i) c);have d:(p.eraseIdxIfInBounds i).toList=p.toList.eraseIdx i:=by simp
  refine Ao (v:=.tuple #[]) ?_ (h _ w' g D ⟨⟨_,_,_,rfl,rfl,by rw[d,az a,az n,H],λj s l=>?_⟩,λ_ _ _ e=>WV ?_ e⟩)
  .simp only[execOp,resolve,invoke,builtin,Builtin.delete_];simp [q,run_underlying u.und,E,L,J,F,r,z]
  .simp only[d,List.getElem_eraseIdx];rw[d,az a]at s;split
   .exact⟨g.rep (o j (by omega) (by omega)).1,g.rep (o j (by omega) (by omega)).2⟩
   .exact⟨g.rep (o (j+1) (by omega) (by omega)).1,g.rep (o (j+1) (by omega) (by omega)).2⟩
  .rw[d];obtain⟨M,O⟩:=B.bo _ _ _ rfl;grind
end
end
section
def fvB(P:Program)(t:TypeId)(i off:Nat):Bool:=match P.underlying t with
 |some (.struct fs)=>match fs[i]? with
  |some fd=>fd.offset==off&&Q5 P fd.type χ 1
  |none=>χ
 |_=>χ
section
variable {P:Program} {N:Nat} {ops:Array Oper} {R:List PanicEntry->World->Prop} {m:Bool} {K:Fr->World->Prop} {os:List Oper} {f:Fr} {w:World}
variable {dst:Option Tmp} {ty:TypeId} {pos:String} {af:Array Edge} {I:Cb} {T A:Bi} {x y z:Operand} {t e u:TypeId} {sz nb:Nat} {kd:IntKind} {a b:Int}
variable {fn:FuncId} {k:List Item}
theorem Apb{i off:Nat}{cs:Array Value}{v:Value}(hf:fvB P t i off=ψ)(hx:ev f x=.agg cs)(hv:cs[off]?=δ v)(h:WL P N ops R m K os (put N f dst v) w):WL P N ops R m K (⟨dst,.field t x i,ty,pos,af,τ⟩::os) f w:=by
 unfold fvB at hf;cases hu:P.underlying t with
 |none=>grind
 |some d=>
  cases d<;>simp only[hu,a1]at hf;rename_i fs;cases hi:fs[i]? with
  |none=>grind
  |some fd=>
   simp_all[a2,beq_iff_eq,Apc]
theorem RM{α:Type}[AT α]{z:Value}{zd:α}{n:Nat}(hz:rep I w z zd):DB I w (((ba (n*AT.size α)).map λk=>z.cells[k%z.cells.size]!)[·]?) (bf n zd):=by
 intro j hj;rw[List.length_replicate]at hj;refine⟨z,by grind,λi hi=>?_⟩;have hs:=AT.cells hz;have hlt:j*AT.size α+i<n*AT.size α:=by have:(j+1)*AT.size α<=n*AT.size α:=a3 _ hj;grind
 grind[AT.size,Nat.mul_comm,Nat.mul_add_mod,Nat.mod_eq_of_lt]
theorem Atw{α:Type}[AT α]{n:Nat}{zv:Value}{zd:α}(C:Yl P t e (AT.size α) nb=ψ)(hs:St I w T)(u:ev f x=.int .i64 a)(D:ev f y=.int .i64 b)(G:a=(n:Int))(M:b=(n:Int))(c:zrB P e zv)(d:∀(I:Cb)(w:World),rep I w zv zd)(j:n*nb<=281474976710656)(Q:n<=9223372036854775807)(h:∀v A w',Ext I w I w'->St I w' (A++T)->Bw I w' A v (bf n zd)->WL P N ops R m K os (put N f dst v) w'):WL P N ops R m K (⟨dst,.makeSlice t x y,ty,pos,af,τ⟩::os) f w:=by
 obtain⟨i,z,o,p,q,B,L⟩:=(EZ C).info;have F:=(EZ C).under;obtain rfl:z=zv:=by grind[zrB]
 subst G M;have J:IntKind.i64.wrap (n:Int)=n:=VY (by omega) (by omega);have O:¬((i.bytes:Int)*(n:Int)>281474976710656):=by grind
 obtain⟨g,s⟩:=hs.alloc (.cells ((ba (n*AT.size α)).map λk=>z.cells[k%z.cells.size]!) e);by_cases E:n*AT.size α=0
 .have l:n=0:=by grind[cg,AT.pos]
  subst l;refine Ao (v:=.slice (δ ⟨w.heap.size,0,τ⟩) 0 0) ?_ (h _ _ _ g s (Bw.UB (by simp) (by simp) (by omega) (by simp) ((RM (d I w)).mono g)));have r:IntKind.i64.wrap 0=0:=by decide
  simp [execOp,Instr.makeSlice,run_underlying F,u,D,asInt,asIntOf,typeInfo,o,r,sizeOf,newRow,show ba 0=#[] from rfl]
 .refine Ao (v:=.slice (δ ⟨w.heap.size,0,τ⟩) n n) ?_ (h _ _ _ g s (Bw.UB (by simp) (by simp) (by grind[maxLen]) (by simp) ((RM (d I w)).mono g)));simp [execOp,Instr.makeSlice,run_underlying F,u,D,asInt,asIntOf,typeInfo,o,J,sizeOf,p,E,newRow,zeroValue,B];omega
end
end
section
instance:AT (Option Nat) where
 size:=1
 agg:=χ
 rep _ _ v p:=v=.pointer (p.map λb=>⟨b,0,τ⟩)
 pos:=by decide
 cells h:=by subst h;rfl
 form h:=by subst h;simp [Value.cells]
 one h:=by subst h;simp [Value.cells,Value.oneCell']
 mono _ h:=h
structure HK(ω:Type) where
 ob:ω->Cb->World->Bi->Nat->Prop
 mono:∀{o:ω}{I:Cb}{w:World}{I':Cb}{w':World}{A:Bi}{b:Nat},Ext I w I' w'->ob o I w A b->ob o I' w' A b
 self:∀{o:ω}{I:Cb}{w:World}{A:Bi}{b:Nat},ob o I w A b->∃x A',A=(b,x)::A'
 gl:Cb->World->Prop
 glm:∀{I:Cb}{w:World}{I':Cb}{w':World},Ext I w I' w'->gl I w->gl I' w'
abbrev Hp(ω:Type):=Nat->Option ω
def Ac{ω:Type}(H:Hp ω)(b:Nat)(o:ω):Hp ω:=λc=>if c=b then δ o else H c
theorem Ah{ω:Type}(H:Hp ω)(b:Nat)(o:ω):Ac H b o b=δ o:=UV rfl
theorem Ad{ω:Type}(H:Hp ω){b c:Nat}(o:ω)(h:c≠b):Ac H b o c=H c:=GT h
theorem LP{ω:Type}{H:Hp ω}{b:Nat}{o:ω}(h:H b=δ o):Ac H b o=H:=by
 funext c;unfold Ac;split
 .rename_i e;rw[e,h]
 .rfl
theorem Z8{ω:Type}(H:Hp ω)(b:Nat)(o o':ω):Ac (Ac H b o) b o'=Ac H b o':=by funext c;unfold Ac;split<;>rfl
def lk{ω:Type}:List (Nat×ω)->Nat->Option ω
 | [],_=>τ
 |p::l,b=>if b=p.1 then δ p.2 else lk l b
section
variable {ω:Type} {K:HK ω} {I:Cb} {w:World}
def HpL(K:HK ω)(I:Cb)(w:World):List (Nat×ω)->Bi->Prop
 | [],A=>A=[]/\K.gl I w
 |p::l,A=>∃A1 A2,A=A1++A2/\K.ob p.2 I w A1 p.1/\HpL K I w l A2
structure Ip(K:HK ω)(I:Cb)(w:World)(H:Hp ω)(A:Bi):Prop where
 ex:∃L,(∀b,lk L b=H b)/\HpL K I w L A
structure HpX(K:HK ω)(I:Cb)(w:World)(H:Hp ω)(b:Nat)(A:Bi):Prop where
 ex:∃L,(∀c,c≠b->lk L c=H c)/\HpL K I w L A
theorem HpL.mono{I':Cb}{w':World}(e:Ext I w I' w'):∀{L:List (Nat×ω)}{A:Bi},HpL K I w L A->HpL K I' w' L A
 | [],_,h=>⟨h.1,K.glm e h.2⟩
 |_::_,_,⟨c,d,a,f,b⟩=>⟨c,d,a,K.mono e f,HpL.mono e b⟩
theorem HpL.gl:∀{L:List (Nat×ω)}{A:Bi},HpL K I w L A->K.gl I w
 | [],_,h=>h.2
 |_::_,_,⟨_,_,_,_,h⟩=>HpL.gl h
theorem Ip.mono{I':Cb}{w':World}{H:Hp ω}{A:Bi}(h:Ip K I w H A)(e:Ext I w I' w'):Ip K I' w' H A:=by obtain⟨L,a,b⟩:=h.ex;exact⟨L,a,b.mono e⟩
theorem HpX.mono{I':Cb}{w':World}{H:Hp ω}{b:Nat}{A:Bi}(h:HpX K I w H b A)(e:Ext I w I' w'):HpX K I' w' H b A:=by obtain⟨L,a,c⟩:=h.ex;exact⟨L,a,c.mono e⟩
theorem HpL.split{b:Nat}{o:ω}:∀{L:List (Nat×ω)}{A:Bi},HpL K I w L A->lk L b=δ o->∃A1 A2 L',A.Perm (A1++A2)/\K.ob o I w A1 b/\HpL K I w L' A2/\∀c,c≠b->lk L' c=lk L c
 | [],_,_,a=>by simp [lk]at a
 |p::l,A,⟨A1,A2,i,g,f⟩,a=>by
  unfold lk at a;by_cases d:b=p.1
  .rw[UV d]at a;obtain rfl:=ci a;subst d;exact⟨A1,A2,l,i▸bz _,g,f,λc d=>by rw[lk,GT d]⟩
  .rw[GT d]at a;obtain⟨k,h,L',j,n,m,q⟩:=HpL.split f a;refine⟨k,A1++h,p::L',?_,n,⟨A1,h,rfl,g,m⟩,λc e=>by rw[lk,lk,q c e]⟩;subst i;refine(j.append_left A1).trans ?_;rw[<-a0,<-a0];exact ar.append_right _
variable {H:Hp ω} {A:Bi} {b:Nat} {o:ω}
theorem Ip.take{T:Bi}(h:Ip K I w H A)(k:H b=δ o)(s:St I w (A++T)):∃A1 A2,K.ob o I w A1 b/\HpX K I w H b A2/\St I w (A1++(A2++T)):=by obtain⟨L,a,j⟩:=h.ex;obtain⟨A1,A2,l,d,g,f,e⟩:=j.split ((a b).trans k);exact⟨A1,A2,g,⟨l,λc i=>(e c i).trans (a c),f⟩,s.perm (by rw[<-a0];exact d.append_right T)⟩
variable {A1:Bi}
theorem HpX.lay{A2:Bi}(h:HpX K I w H b A2)(d:K.ob o I w A1 b):Ip K I w (Ac H b o) (A1++A2):=by
 obtain⟨L,f,e⟩:=h.ex;refine⟨(b,o)::L,λc=>?_,A1,A2,rfl,d,e⟩;unfold lk Ac;by_cases a:c=b
 .rw[UV a,UV a]
 .rw[GT a,GT a,f c a]
theorem HpX.back{A2:Bi}(h:HpX K I w H b A2)(c:H b=δ o)(a:K.ob o I w A1 b):Ip K I w H (A1++A2):=by have:=h.lay a;rwa [LP c]at this
theorem HpL.fresh{b:Nat}:∀{L:List (Nat×ω)}{A:Bi},HpL K I w L A->(∀p∈A,p.1≠b)->lk L b=τ
 | [],_,_,_=>rfl
 |p::l,A,⟨j,h,c,f,d⟩,a=>by subst c;obtain⟨x,i,rfl⟩:=K.self f;rw[lk,GT,HpL.fresh d (λq g=>a q (au _ g))];exact λe=>a (p.1,x) (by simp) e.symm
theorem Ip.fresh{T:Bi}(h:Ip K I w H A)(d:K.ob o I w A1 b)(s:St I w (A1++(A++T))):H b=τ:=by obtain⟨L,f,g⟩:=h.ex;rw[<-f b];refine g.fresh λp c e=>?_;obtain⟨x,i,rfl⟩:=K.self d;have a:=s.nodup;rw[bt,bj]at a;exact a.2.2 b (by simp) p.1 (bb (bx _ c)) e.symm
theorem Ip.new(h:Ip K I w H A)(a:K.ob o I w A1 b):Ip K I w (Ac H b o) (A1++A):=by obtain⟨L,e,d⟩:=h.ex;exact HpX.lay ⟨L,λc _=>e c,d⟩ a
end
end
section
def A4k(P:Program)(r:Result Next)(v:Value)(w:World):Prop:=r=.ok (.value v) w∨∃g args,r=.ok (.enter g args) w/\Calls P g args w λe w'=>e=.returned v/\w'=w
def Anf(md:Region.Mode)(ops:Array Oper)(listed:Array Bool)(C:List Nat)(i:Nat):Bool:=
 C.all λc=>!(listed.getD c ψ)&&match ops[c]? with
  |some o=>o.after.any λe=>Region.binds md e&&(e.on==i ||C.contains e.on)
  |none=>χ
def A38(listed:Array Bool)(E C:List Nat):Bool:=E.all λe=>C.contains e ||listed.getD e ψ
theorem Hg{i:Nat}{listed:Array Bool}(h:listed.getD i ψ=χ)(a:listed.getD i χ=ψ):False:=by
 rcases Nat.lt_or_ge i listed.size with b|b
 .simp [b]at h a;rw[h]at a;cases a
 .simp [Array.getElem?_eq_none b]at a
section
variable {P:Program} {ops:Array Oper} {R:List PanicEntry->World->Prop} {V:Act->World->Prop} {S:World->Prop} {E:List Nat} {w1:World}
def YG(P:Program)(ops:Array Oper)(S:World->Prop)(o:Oper)(v:Value)(a:Act):Prop:=(Region.wanted o (yielded ops a.tmps)=ψ/\∀w,S w->A4k P ((execOp a.eval o).run P w) v w)∨(Region.wanted o (yielded ops a.tmps)=χ/\v=undef)
variable {i:Nat} {v:Value} {a:Act}
theorem YG.opA{o:Oper}(hi:ops[i]?=δ o)(m:YG P ops S o v a){K:Act->World->Prop}{w:World}(f:S w)(h:K (a.put o.dst v) w):OpA P ops R i K a w:=by
 unfold OpA;simp only[hi];rcases m with ⟨c,k⟩|⟨c,rfl⟩
 .simp only[c,if_true];rcases k w f with b|⟨g,d,b,l⟩
  .rw[b];exact h
  .rw[b];refine⟨rfl,Calls.mono l λe n j=>?_⟩;obtain⟨rfl,rfl⟩:=j;exact h
 .simp only[c,a1,if_false];exact h
theorem YG.of_same{o:Oper}{a':Act}(c:YG P ops S o v a)(b:execOp a'.eval o=execOp a.eval o)(d:Region.wanted o (yielded ops a'.tmps)=Region.wanted o (yielded ops a.tmps)):YG P ops S o v a':=by unfold YG at *;rw[b,d];exact c
variable {oi:Oper}
theorem OpA.put{j:Nat}{oj:Oper}(o:ops[j]?=δ oj)(g:oi.apart ops oj=ψ)(f:∀cs b,oi.op≠.select cs b)(e:∀cs b,oj.op≠.select cs b){K:Act->World->Prop}{w:World}(m:YG P ops S oi v a)(h:OpA P ops R j K (a.put oi.dst v) w):OpA P ops R j (λa' w'=>YG P ops S oi v a'/\K (a'.put oi.dst v) w') a w:=by
 obtain⟨l,k,i⟩:=Oper.apart_spec g;have c:∀u,YG P ops S oi v (a.put oj.dst u):=λu=>m.of_same (execOp_put oi f a oj.dst u i) (wanted_put oi a oj.dst u i);unfold OpA at *;simp only[o]at *;rw[wanted_put oj a oi.dst v l]at h;split
 .rename_i d;simp only[d,if_true]at h;rw[execOp_put oj e a oi.dst v l]at h;exact h.mono λu w' n=>⟨c u,by rw[<-Act.put_comm a v u k];exact n⟩
 .rename_i d;simp only[d]at h;exact⟨c _,by rw[<-Act.put_comm a v undef k];exact h⟩
theorem TH{j:Nat}{listed:Array Bool}(c:listed.getD j ψ=χ)(a:∀j oj,ops[j]?=δ oj->j≠i->listed.getD j ψ=χ->(∀e∈oj.after,Region.binds .any e=ψ->e.on≠i)->oi.apart ops oj=ψ):∀k ok,ops[k]?=δ ok->k≠i->(listed.setIfInBounds j ψ).getD k ψ=χ->(∀e∈ok.after,Region.binds .any e=ψ->e.on≠i)->oi.apart ops ok=ψ:=λk ok h f b g=>by
 refine a k ok h f ?_ g;by_cases d:j=k
 .subst d;exact c
 .rw[getD_set_ne ψ d]at b;exact b
theorem Ahv(hi:ops[i]?=δ oi)(l:∀(j:Nat)(o:Oper)cs b,ops[j]?=δ o->o.op≠.select cs b):∀(d:Nat)(c:Array Bool)(a:Act)(w:World),(∀j oj,ops[j]?=δ oj->j≠i->c.getD j ψ=χ->(∀e∈oj.after,Region.binds .any e=ψ->e.on≠i)->oi.apart ops oj=ψ)->i∈Region.ready .any ops c->YG P ops S oi v a->S w->Yk P ops R V S d (c.setIfInBounds i ψ) (a.put oi.dst v) w->Yk P ops R V S (d+1) c a w:=by
 intro d;induction d with
 |zero=>
  intro c a w _ m s q H;refine⟨λh=>(by rw[h]at m;cases m),λj x=>?_⟩;by_cases f:j=i
  .subst f;exact s.opA hi q ⟨q,H⟩
  .have:=ready_mono x f;rw[H.1]at this;cases this
 |succ d E=>
  intro c a w g m s q H;refine⟨λh=>(by rw[h]at m;cases m),λj x=>?_⟩;by_cases f:j=i
  .subst f;exact s.opA hi q ⟨q,H⟩
  .have A:=H.2 j (ready_mono x f);have z:=(mem_ready.1 m).1;obtain⟨k,oj,n,r⟩:=mem_ready.1 x;have p:∀e∈oj.after,Region.binds .any e=ψ->e.on≠i:=λe B F y=>by have u:=r e B F;rw[y]at u;exact Hg z u
   have u:=OpA.put n (g j oj n f k p) (λcs b=>l i oi cs b hi) (λcs b=>l j oj cs b n) s A;refine u.mono λC D t=>⟨t.2.1,E (c.setIfInBounds j ψ) C D (TH k g) (ready_mono m (Ne.symm f)) t.1 t.2.1 ?_⟩
   rw[aj _ _ f];exact t.2.2
theorem Ahx{C:List Nat}(hi:ops[i]?=δ oi)(r:∀(j:Nat)(o:Oper)cs b,ops[j]?=δ o->o.op≠.select cs b)(t:E.contains i=χ):∀(g:Nat)(d:Array Bool)(a:Act),(∀j oj,ops[j]?=δ oj->j≠i->d.getD j ψ=χ->(∀e∈oj.after,Region.binds .any e=ψ->e.on≠i)->oi.apart ops oj=ψ)->i∈Region.ready .any ops d->(∀c∈C,d.getD c ψ=χ/\∃o,ops[c]?=δ o/\∃e∈o.after,Region.binds .any e=ψ/\(e.on=i∨e.on∈C))->(∀e∈E,e∈C∨d.getD e ψ=ψ)->YG P ops (·=w1) oi v a->YX P ops R V S E w1 g (d.setIfInBounds i ψ) (a.put oi.dst v) w1->YX P ops R V S E w1 (g+1) d a w1:=by
 intro g;induction g with
 |zero=>
  intro d a _ s _ _ B H;refine⟨λh=>(by rw[h]at s;cases s),λj D=>?_⟩;by_cases f:j=i
  .subst f;exact B.opA hi rfl (by rw[t];exact⟨rfl,H⟩)
  .have:=ready_mono D f;rw[H.1]at this;cases this
 |succ g O=>
  intro d a m s G L B H;refine⟨λh=>(by rw[h]at s;cases s),λj D=>?_⟩;by_cases f:j=i
  .subst f;exact B.opA hi rfl (by rw[t];exact⟨rfl,H⟩)
  .have x:=(mem_ready.1 s).1;obtain⟨k,oj,n,p⟩:=mem_ready.1 D;have w:j∉C:=λA=>by
    obtain⟨_,o,K,e,y,I,l⟩:=G j A;rw[n]at K;obtain rfl:=ci K;have q:=p e y I;rcases l with l|l
    .rw[l]at q;exact Hg x q
    .exact Hg (G _ l).1 q
   have F:E.contains j=χ:=by
    rw[Bool.eq_false_iff];intro h;rcases L j (by simpa using h) with l|l
    .exact w l
    .rw[k]at l;cases l
   have l:=H.2 j (ready_mono D f);have z:∀e∈oj.after,Region.binds .any e=ψ->e.on≠i:=λe y I J=>by have q:=p e y I;rw[J]at q;exact Hg x q
   have q:=OpA.put n (m j oj n f k z) (λcs b=>r i oi cs b hi) (λcs b=>r j oj cs b n) B l;refine q.mono λN U M=>?_;rw[F]at M ⊢;obtain⟨Q,rfl,T⟩:=M;refine⟨rfl,O (d.setIfInBounds j ψ) N (TH k m) (ready_mono s (Ne.symm f)) (λc A=>?_) (λe y=>?_) Q ?_⟩
   .have:=G c A;exact⟨by rw[getD_set_ne ψ (λh:j=c=>w (h.symm▸A))];exact this.1,this.2⟩
   .refine(L e y).imp id λh=>?_;by_cases u:j=e
    .subst u;rw[k]at h;cases h
    .rw[getD_set_ne ψ u];exact h
   .rw[aj _ _ f];exact T
theorem V5(hi:ops[i]?=δ oi)(l:∀(j:Nat)(o:Oper)cs b,ops[j]?=δ o->o.op≠.select cs b)(p:E.contains i=χ)(F:S w1):∀(f:Nat)(c:Array Bool)(a:Act),(∀j oj,ops[j]?=δ oj->j≠i->c.getD j ψ=χ->(∀e∈oj.after,Region.binds .any e=ψ->e.on≠i)->oi.apart ops oj=ψ)->i∈Region.ready .any ops c->YG P ops S oi v a->YX P ops R V S E w1 f (c.setIfInBounds i ψ) (a.put oi.dst v) w1->YX P ops R V S E w1 (f+1) c a w1:=by
 intro f;induction f with
 |zero=>
  intro c a _ m w H;refine⟨λh=>(by rw[h]at m;cases m),λj t=>?_⟩;by_cases d:j=i
  .subst d;exact w.opA hi F (by rw[p];exact⟨rfl,H⟩)
  .have:=ready_mono t d;rw[H.1]at this;cases this
 |succ f I=>
  intro c a g m w H;refine⟨λh=>(by rw[h]at m;cases m),λj t=>?_⟩;by_cases d:j=i
  .subst d;exact w.opA hi F (by rw[p];exact⟨rfl,H⟩)
  .have z:=(mem_ready.1 m).1;obtain⟨k,oj,n,q⟩:=mem_ready.1 t;have K:=H.2 j (ready_mono t d);have s:∀e∈oj.after,Region.binds .any e=ψ->e.on≠i:=λe J L B=>by have x:=q e J L;rw[B]at x;exact Hg z x
   have x:=OpA.put n (g j oj n d k s) (λcs b=>l i oi cs b hi) (λcs b=>l j oj cs b n) w K;refine x.mono λC G u=>?_;by_cases r:E.contains j=ψ
   .rw[UV r]at u ⊢;obtain⟨A,D,y⟩:=u;refine⟨D,Ahv hi l f _ C G (TH k g) (ready_mono m (Ne.symm d)) A D ?_⟩;rw[aj _ _ d];exact y
   .rw[GT r]at u ⊢;obtain⟨A,rfl,y⟩:=u;refine⟨rfl,I (c.setIfInBounds j ψ) C (TH k g) (ready_mono m (Ne.symm d)) A ?_⟩;rw[aj _ _ d];exact y
end
section
variable {P:Program} {φ:FK} {N:Nat} {k:List Item} {R:RL->World->Prop} {f:Fr} {w:World} {ops:Array Oper} {S:World->Prop} {n:Nat} {l:Array Bool} {E:List Nat}
def VG(P:Program)(φ:FK)(N:Nat)(k:List Item)(R:RL->World->Prop):Act->World->Prop:=λa w=>a.defers=φ.ds/\∃f,Is N a.tmps f/\WT P φ N k R f w
def WE(P:Program)(φ:FK)(N:Nat)(ops:Array Oper)(k:List Item)(R:RL->World->Prop)(S:World->Prop)(E:List Nat)(n:Nat)(l:Array Bool)(f:Fr)(w:World):Prop:=∀a,Is N a f->YX P ops (φ.at R) (VG P φ N k R) S E w n l ⟨a,φ.ds⟩ w
theorem Aby(E:List Nat)(b:S w)(h:WE P φ N ops k R S E n l f w):WG P φ N ops k R S n l f w:=λa c=>Z9 b _ _ _ _ (h a c)
theorem Aqw(c:Region.ready .any ops l=[])(h:WT P φ N k R f w):WE P φ N ops k R S E n l f w:=λa b=>by
 cases n with
 |zero=>exact⟨c,rfl,f,b,h⟩
 |succ n=>exact⟨λ_=>⟨rfl,f,b,h⟩,by rw[c];simp⟩
variable {d:Nat} {o:Oper} {f2:Fr}
theorem Aqv{w:World}(_:o.dst=δ d)(c:cu d N=ψ)(a:WL P N ops (λ_ _=>False) ψ (λf' w'=>f'=f2/\w'=w) [o] f w):∃v,put N f o.dst v=f2/\((Region.wanted o (yl ops f)=ψ/\(execOp (ev f) o).run P w=.ok (.value v) w)∨(Region.wanted o (yl ops f)=χ/\v=undef)):=by
 have g:d<N:=by simpa [ck] using c
 by_cases b:Region.wanted o (yl ops f)=ψ
 .simp only[WL,b,if_true]at a;obtain⟨v,k,i,h,e⟩:=Aca _ a;exact⟨v,h,.inl ⟨b,by rw[i,e]⟩⟩
 .simp only[WL,b,if_false,a1]at a;exact⟨undef,a.1,.inr ⟨by simpa using b,rfl⟩⟩
variable {i:Nat}
theorem A39{l':Array Bool}(C:List Nat)(hi:ops[i]?=δ o)(z:o.dst=δ d)(t:cu d N=ψ)(b:(Region.noSelect ops&&Region.free .any ops l i&&(Region.ready .any ops l).contains i&&!(E.contains i)&&Anf .any ops l C i&&A38 l E C)=ψ)(x:l.setIfInBounds i ψ=l')(q:WL P N ops (λ_ _=>False) ψ (λf' w'=>f'=f2/\w'=w) [o] f w)(h:WE P φ N ops k R S E n l' f2 w):WE P φ N ops k R S E (n+1) l f w:=by
 intro a j;simp only[a2,aw]at b;obtain⟨v,rfl,D⟩:=Aqv z t q;obtain⟨u,A,m⟩:=j.put (ds:=φ.ds) o.dst v;refine Ahx (C:=C) (v:=v) hi (Region.noSelect_spec b.1.1.1.1.1) b.1.1.2 _ _ _ (Region.free_spec hi b.1.1.1.1.2) (by simpa using b.1.1.1.2) (λc y=>?_) (λe g=>?_) ?_ ?_
 .have:=cc.1 b.1.2 c y;simp only[a2,aw]at this;refine⟨this.1,?_⟩;cases s:ops[c]? with
  |none=>rw[s]at this;simp at this
  |some o=>
   rw[s]at this;have r:=this.2;simp only[<-Array.any_toList,List.any_eq_true]at r;obtain⟨e,g,p⟩:=r;simp only[a2,bv,beq_iff_eq,bw]at p;exact⟨o,rfl,e,by simpa using g,p.1,p.2⟩
 .have:=cc.1 b.2 e g;simpa [bv,bw] using this
 .unfold YG;rw[Wr j,Hu j];exact D.imp (λ⟨q,m⟩=>⟨q,λw B=>by rw[B];exact .inl m⟩) id
 .rw[A];subst x;exact h u m
theorem N5{l':Array Bool}(hi:ops[i]?=δ o)(j:o.dst=δ d)(g:cu d N=ψ)(c:(Region.noSelect ops&&Region.free .any ops l i&&(Region.ready .any ops l).contains i&&!(E.contains i))=ψ)(D:l.setIfInBounds i ψ=l')(x:S w)(t:∀w,S w->WL P N ops (λ_ _=>False) ψ (λf' w'=>f'=f2/\w'=w) [o] f w)(h:WE P φ N ops k R S E n l' f2 w):WE P φ N ops k R S E (n+1) l f w:=by
 intro a q;simp only[a2,aw]at c;have m:d<N:=by simpa [ck] using g
 obtain⟨v,rfl,B⟩:=Aqv j g (t w x);obtain⟨A,y,C⟩:=q.put (ds:=φ.ds) o.dst v;have b:∀u,put N f o.dst u d=u:=λu=>by rw[j];simp [put,DO,m]
 refine V5 (v:=v) hi (Region.noSelect_spec c.1.1.1) c.2 x _ _ _ (Region.free_spec hi c.1.1.2) (by simpa using c.1.2) ?_ ?_
 .unfold YG;rw[Wr q,Hu q];refine B.imp (λ⟨s,_⟩=>⟨s,λw' r=>.inl ?_⟩) id;obtain⟨u,z,p⟩:=Aqv j g (t w' r);have:u=v:=by rw[<-b u,z,b]
  subst this;rcases p with ⟨_,e⟩|⟨e,_⟩
  .exact e
  .rw[s]at e;cases e
 .rw[y];subst D;exact h A C
theorem Ajv{v:Value}(hi:ops[i]?=δ o)(_:o.dst=δ d)(b:(Region.noSelect ops&&Region.free .any ops l i&&(Region.ready .any ops l).contains i&&!(E.contains i))=ψ)(m:S w)(e:Region.wanted o (yl ops f)=ψ)(g:∀w,S w->A4k P ((execOp (ev f) o).run P w) v w)(h:WE P φ N ops k R S E n (l.setIfInBounds i ψ) (put N f o.dst v) w):WE P φ N ops k R S E (n+1) l f w:=by
 intro a c;simp only[a2,aw]at b;obtain⟨j,q,r⟩:=c.put (ds:=φ.ds) o.dst v;refine V5 (v:=v) hi (Region.noSelect_spec b.1.1.1) b.2 m _ _ _ (Region.free_spec hi b.1.1.2) (by simpa using b.1.2) ?_ ?_
 .unfold YG;rw[Wr c,Hu c];exact .inl ⟨e,g⟩
 .rw[q];exact h j r
theorem A4b{rs:List Nat}(c:Region.ready .any ops l=rs)(b:rs≠[])(h:∀i∈rs,∀a,Is N a f->OpA P ops (φ.at R) i (λa' w'=>if E.contains i then S w'/\Yk P ops (φ.at R) (VG P φ N k R) S n (l.setIfInBounds i ψ) a' w' else w'=w/\YX P ops (φ.at R) (VG P φ N k R) S E w n (l.setIfInBounds i ψ) a' w') ⟨a,φ.ds⟩ w):WE P φ N ops k R S E (n+1) l f w:=λa g=>
 ⟨λd=>qG (c▸d) b,λi e=>h i (c▸e) a g⟩
end
end
section
def YS(P:Program)(g:FuncId)(vs:List Value)(I:Cb)(w:World)(Q X:Value->Cb->World->Prop):Prop:=Calls P g ⟨vs⟩ w λe w'=>(∃v I',e=.returned v/\Ext I w I' w'/\Q v I' w')∨(∃v I',e=.panicked [{v,recovered:=χ}]/\Ext I w I' w'/\X v I' w')
theorem YS.mono{P:Program}{g:FuncId}{vs:List Value}{I:Cb}{w:World}{Q Q' X X':Value->Cb->World->Prop}(h:YS P g vs I w Q X)(f:∀v I' w',Ext I w I' w'->Q v I' w'->Q' v I' w')(d:∀v I' w',Ext I w I' w'->X v I' w'->X' v I' w'):YS P g vs I w Q' X':=Calls.mono h λ_ _ i=>i.imp (λ⟨v,I',c,a,b⟩=>⟨v,I',c,a,f _ _ _ a b⟩) (λ⟨v,I',c,a,b⟩=>⟨v,I',c,a,d _ _ _ a b⟩)
section
variable {P:Program} {N:Nat} {ops:Array Oper} {R:List PanicEntry->World->Prop} {m:Bool} {K:Fr->World->Prop} {os:List Oper} {f:Fr} {w:World}
variable {dst:Option Tmp} {ty:TypeId} {pos:String} {af:Array Edge} {I:Cb} {T A:Bi} {x y z:Operand} {t e u:TypeId} {kd:IntKind}
variable {k:List Item}
variable {vs:List Value} {Q X:Value->Cb->World->Prop}
theorem Ao4{g:FuncId}{aE:Array Operand}{at_:Array TypeId}(k:CS P g=ψ)(j:YS P g vs I w Q X)(l:aE.toList.map (ev f)=vs)(d:∀v I' w',Ext I w I' w'->X v I' w'->R [{v,recovered:=χ}] w')(h:∀v I' w',Ext I w I' w'->Q v I' w'->WL P N ops R χ K os (put N f dst v) w'):WL P N ops R χ K (⟨dst,.call ⟨.value (.func g),aE,at_⟩,ty,pos,af,τ⟩::os) f w:=
 Xe k l (Calls.mono j λe w' i=>by grind)
theorem Aiv{g:FuncId}{fv:Operand}{first captured:Array Value}{aE:Array Operand}{at_:Array TypeId}(l:CS P g=ψ)(k:YS P g vs I w Q X)(d:ev f fv=.func (.func g) first captured)(m:first.toList++aE.toList.map (ev f)++captured.toList=vs)(i:∀v I' w',Ext I w I' w'->X v I' w'->R [{v,recovered:=χ}] w')(h:∀v I' w',Ext I w I' w'->Q v I' w'->WL P N ops R χ K os (put N f dst v) w'):WL P N ops R χ K (⟨dst,.call ⟨.value fv,aE,at_⟩,ty,pos,af,τ⟩::os) f w:=
 Aiz d l m (Calls.mono k λe w' j=>by grind)
theorem Sb{q:FuncId}{F:Func}{c:Code}(b:P.funcs[q]?=δ F)(a:F.body=δ c)(d:F.ntmps=N)(f:cq (ν vs) N=ψ)(h:WT P ⟨q,τ,[]⟩ N [.code c] (Amr P F N λe w'=>(∃v I',e=.returned v/\Ext I w I' w'/\Q v I' w')∨(∃v I',e=.panicked [{v,recovered:=χ}]/\Ext I w I' w'/\X v I' w')) (YE vs) w):YS P q vs I w Q X:=Jg b a d (b8 f) h
theorem Px(n:Nat)(p:Option Addr)(a:P.underlying t=δ (.pointer e)):(Op.equalIn (n+1) t (.pointer p) (.pointer τ)).run P w=.ok p.isNone w:=by cases p<;>simp [Op.equalIn,run_underlying a]
variable {p:Option Addr}
theorem Agg(a:P.underlying t=δ (.pointer e)):(binOp .eql t (.pointer p) (.pointer τ)).run P w=.ok (.bool p.isNone) w:=by simp only[binOp,Op.equal,Sem.run_bind,Op.maxDepth,Px 9999 p a,Result.andThen_ok,Sem.run_pure]
theorem Agf(a:P.underlying t=δ (.pointer e)):(binOp .neq t (.pointer p) (.pointer τ)).run P w=.ok (.bool (!p.isNone)) w:=by simp only[binOp,Op.equal,Sem.run_bind,Op.maxDepth,Px 9999 p a,Result.andThen_ok,Sem.run_pure]
theorem ZA{op:BinOp}{q:Option Addr}:(eqGuard op t x y (.pointer p) (.pointer q)).run P w=.ok () w:=by simp only[eqGuard];cases op<;>simp
theorem Adl{p:Option Nat}:(p.map λb=>(⟨b,0,τ⟩:Addr)).isNone=ξ (p=τ):=by cases p<;>simp
variable {v:Value}
theorem A3b{p:Option Nat}(c:∃e,P.underlying t=δ (.pointer e))(a:rep I w v p)(d:ev f x=v)(g:ev f y=.pointer τ)(h:WL P N ops R m K os (put N f dst (.bool (ξ (p=τ)))) w):WL P N ops R m K (⟨dst,.binOp .eql t x y u,ty,pos,af,τ⟩::os) f w:=by obtain⟨e,c⟩:=c;have a:v=.pointer (p.map λb=>⟨b,0,τ⟩):=a;subst a;exact Ao (by simp only[execOp,d,g,Sem.run_bind,ZA,Result.andThen_ok,Agg c,Sem.run_pure,Adl]) h
theorem A24{p:Option Nat}(c:∃e,P.underlying t=δ (.pointer e))(a:rep I w v p)(d:ev f x=v)(g:ev f y=.pointer τ)(h:WL P N ops R m K os (put N f dst (.bool (ξ (¬(p=τ))))) w):WL P N ops R m K (⟨dst,.binOp .neq t x y u,ty,pos,af,τ⟩::os) f w:=by obtain⟨e,c⟩:=c;have a:v=.pointer (p.map λb=>⟨b,0,τ⟩):=a;subst a;exact Ao (by simp only[execOp,d,g,Sem.run_bind,ZA,Result.andThen_ok,Agf c,Sem.run_pure,Adl,decide_not]) h
variable {a b:ByteArray}
theorem UH{op:BinOp}:(eqGuard op t x y (.string a) (.string b)).run P w=.ok () w:=by simp only[eqGuard];cases op<;>simp
theorem Aro(a b:ByteArray):(a.toList==b.toList)=ξ (a=b):=by
 by_cases h:a=b
 .grind
 .rw[decide_eq_false h];refine beq_eq_false_iff_ne.2 λe=>h ?_;rw[ByteArray.toList_eq,ByteArray.toList_eq]at e;cases a with|mk a=>simp_all
theorem A3a(d:ev f x=.string a)(c:ev f y=.string b)(h:WL P N ops R m K os (put N f dst (.bool (ξ (a=b)))) w):WL P N ops R m K (⟨dst,.binOp .eql t x y u,ty,pos,af,τ⟩::os) f w:=
 Ao (by simp only[execOp,d,c,Sem.run_bind,UH,Result.andThen_ok,binOp,Op.stringOp,Sem.run_pure,Aro]) h
theorem A22(d:ev f x=.string a)(c:ev f y=.string b)(h:WL P N ops R m K os (put N f dst (.bool (ξ (¬(a=b))))) w):WL P N ops R m K (⟨dst,.binOp .neq t x y u,ty,pos,af,τ⟩::os) f w:=
 Ao (by simp only[execOp,d,c,Sem.run_bind,UH,Result.andThen_ok,binOp,Op.stringOp,Sem.run_pure,Aro,decide_not]) h
theorem Atv{tv:TypeId}(a:ev f x=.iface tv v)(h:R [{v:=.iface tv v,recovered:=χ}] w):WL P N ops R χ K (⟨dst,.panic x,ty,pos,af,τ⟩::os) f w:=by simp_all[WL,Region.wanted,execOp,Instr.panic,UP]
end
end
section
def Bl(k:IntKind)(n:Int):Prop:=k.min<=n/\n<=k.max
theorem Jy(k:IntKind)(n:Int):Bl k (k.wrap n):=by unfold Bl;have:=(Lit.wf_int_iff k _).1 (WideShapes.wf_wrap k n);exact this
theorem A0b(b:UInt8):Bl .u8 (b.toNat:Int):=by
 have a:IntKind.u8.min=0:=by decide
 have c:IntKind.u8.max=255:=by decide
 have:=b.toNat_lt;unfold Bl;omega
theorem FO{k:IntKind}{n:Int}(h:Bl k n):k.wrap n=n:=by unfold Bl at h;cases k<;>simp [IntKind.min,IntKind.max,IntKind.bits,IntKind.signed]at h<;>simp [IntKind.wrap,IntKind.bits,IntKind.signed]<;>omega
theorem Abw{a d:Int}(b:0<d):(0<=a->0<=a.fdiv d/\a.fdiv d<=a)/\(a<0->a<=a.fdiv d/\a.fdiv d<0):=by rw[Int.fdiv_eq_ediv_of_nonneg a (by omega)];refine⟨λh=>⟨Int.ediv_nonneg h (by omega),Int.ediv_le_self d h⟩,λh=>⟨?_,Int.ediv_neg_of_neg_of_pos h b⟩⟩;rw[Int.le_ediv_iff_mul_le b];have:=Int.mul_le_mul_of_nonpos_left (a:=a) (show a<=0 by omega) (show (1:Int)<=d by omega);omega
theorem Al1(k:IntKind):k.min<=0/\0<=k.max:=by cases k<;>decide
theorem Aul{k:IntKind}{a b:Int}(h:Bl k a)(_:0<=b):Bl k (a.fdiv (2^(min b.toNat k.bits))):=by
 have e:=Abw (a:=a) (d:=2^(min b.toNat k.bits)) (Int.pow_pos (by decide));have f:=Al1 k;unfold Bl at *;rcases Int.lt_or_le a 0 with c|c
 .have:=e.2 c;omega
 .have:=e.1 c;omega
section
variable {P:Program} {N:Nat} {ops:Array Oper} {R:List PanicEntry->World->Prop} {m:Bool} {K:Fr->World->Prop} {os:List Oper} {f:Fr} {w:World}
variable {dst:Option Tmp} {ty:TypeId} {pos:String} {af:Array Edge} {I:Cb} {T A:Bi} {x y z:Operand} {t e u:TypeId} {kd kd2:IntKind} {a b:Int}
def GI(op:BinOp)(k:IntKind)(a b:Int):Int:=match op with
 | .and=>k.wrap (BitVec.ofInt k.bits a&&&BitVec.ofInt k.bits b).toNat
 | .or=>k.wrap (BitVec.ofInt k.bits a|||BitVec.ofInt k.bits b).toNat
 | .xor=>k.wrap (BitVec.ofInt k.bits a ^^^ BitVec.ofInt k.bits b).toNat
 |_=>k.wrap (BitVec.ofInt k.bits a&&&~~~ BitVec.ofInt k.bits b).toNat
theorem QQ{op:BinOp}{k:IntKind}{a b:Int}:Bl k (GI op k a b):=by unfold GI;split<;>exact Jy _ _
theorem Awq(c:ev f x=.int kd a)(d:ev f y=.int kd b)(h:WL P N ops R m K os (put N f dst (.int kd (GI .and kd a b))) w):WL P N ops R m K (⟨dst,.binOp .and t x y u,ty,pos,af,τ⟩::os) f w:=
 Tr c d (by simp [binOp,Op.intBits,GI]) h
theorem A21(d:ev f x=.int kd a)(c:ev f y=.int kd b)(h:WL P N ops R m K os (put N f dst (.int kd (GI .or kd a b))) w):WL P N ops R m K (⟨dst,.binOp .or t x y u,ty,pos,af,τ⟩::os) f w:=
 Tr d c (by simp [binOp,Op.intBits,GI]) h
theorem Awl(c:ev f x=.int kd a)(d:ev f y=.int kd b)(h:WL P N ops R m K os (put N f dst (.int kd (GI .xor kd a b))) w):WL P N ops R m K (⟨dst,.binOp .xor t x y u,ty,pos,af,τ⟩::os) f w:=
 Tr c d (by simp [binOp,Op.intBits,GI]) h
theorem Xy{op:BinOp}:(eqGuard op t x y (.int kd a) (.int kd2 b)).run P w=.ok () w:=by simp only[eqGuard];cases op<;>simp
theorem A20(c:ev f x=.int kd a)(d:ev f y=.int kd2 b)(e:0<=b)(h:WL P N ops R m K os (put N f dst (.int kd (kd.wrap (a*2^(min b.toNat kd.bits))))) w):WL P N ops R m K (⟨dst,.binOp .shl t x y u,ty,pos,af,τ⟩::os) f w:=
 Ao (by
  have:¬b<0:=by omega
  simp only[execOp,c,d,Sem.run_bind,Xy,Result.andThen_ok,binOp,Op.shift,GT this,Sem.run_pure]) h
theorem A2z(c:ev f x=.int kd a)(d:ev f y=.int kd2 b)(e:0<=b)(h:WL P N ops R m K os (put N f dst (.int kd (a.fdiv (2^(min b.toNat kd.bits))))) w):WL P N ops R m K (⟨dst,.binOp .shr t x y u,ty,pos,af,τ⟩::os) f w:=
 Ao (by
  have:¬b<0:=by omega
  simp only[execOp,c,d,Sem.run_bind,Xy,Result.andThen_ok,binOp,Op.shift,GT this,Sem.run_pure]) h
theorem Xd{kt ku:IntKind}(c:P.underlying t=δ (.int kt))(b:P.underlying e=δ (.int ku))(d:ev f x=.int kd a)(h:WL P N ops R m K os (put N f dst (.int ku (ku.wrap a))) w):WL P N ops R m K (⟨dst,.convert t e x,ty,pos,af,τ⟩::os) f w:=
 Ao (by simp only[execOp,d,convert,Sem.run_bind,run_underlying c,run_underlying b,Result.andThen_ok,Conv.intToInt,Sem.run_pure]) h
theorem Ao6(e:ev f x=.int kd a)(d:ev f y=.int kd b)(g:b≠0)(c:Bl kd (a.tdiv b))(h:WL P N ops R m K os (put N f dst (.int kd (a.tdiv b))) w):WL P N ops R m K (⟨dst,.binOp .quo t x y u,ty,pos,af,τ⟩::os) f w:=
 Tr e d (by simp [binOp,Op.intDiv,g,FO c]) h
theorem Ao5(e:ev f x=.int kd a)(d:ev f y=.int kd b)(g:b≠0)(_:Bl kd (a.tmod b))(h:WL P N ops R m K os (put N f dst (.int kd (a.tmod b))) w):WL P N ops R m K (⟨dst,.binOp .rem t x y u,ty,pos,af,τ⟩::os) f w:=
 Tr e d (by simp [binOp,Op.intDiv,g]) h
theorem Ao9{s:ByteArray}{j:Nat}(d:P.underlying t=δ .string)(c:j<s.size)(g:ev f x=.string s)(e:ev f y=.int kd a)(b:a=(j:Int))(h:WL P N ops R m K os (put N f dst (.int .u8 (s[j].toNat:Int))) w):WL P N ops R m K (⟨dst,.index t x y,ty,pos,af,τ⟩::os) f w:=
 Ao (by subst b;simp [execOp,g,e,Instr.index,asIntOf,run_underlying d,c]) h
end
end
section
section
variable {P:Program} {φ:FK} {N:Nat} {k:List Item} {R:RL->World->Prop} {f:Fr} {w:World}
def VI(fn:FuncId)(a:Array Value)(ps:Array Tmp)(aE bd:Code)(b:Nat):Loop:={state:=.ready,pending:=τ,fn:=fn,tmps:=a,params:=ps,assign:=aE,body:=bd,defers:=b}
def FK.mark(φ:FK)(b:Nat):FK:={φ with ds:=⟨.collected b,#[]⟩::φ.ds}
theorem ZV(t:φ.ro=τ){g:Operand}{ps:Array Tmp}{aE bd:Code}{q:FuncId}{first cap:Array Value}(M:ev f g=.func (.func q) first cap)(h:∀a,Is N a f->CS P q=ψ/\Calls P q ⟨first.toList++[.func (.yield (w.heap.size+1)) #[] #[]]++cap.toList⟩ ((w.alloc (.deferred (δ []))).alloc (.loop (VI φ.fn a ps aE bd w.heap.size))) λe w'=>match e with
   | .returned _=>∃r,w'.heap[w.heap.size+1]?=δ (.loop r)/\r.state≠.busy/\WT P (φ.mark w.heap.size) N ((r.pending.map Item.code).toList++k) R f (w'.putObj (w.heap.size+1) (.loop {r with state:=.exhausted}))
   | .panicked ch=>R (.pan ch f (φ.mark w.heap.size).ds) w'
   | .outgrown=>False):WT P φ N (.code (.rangeFunc g ps aE bd)::k) R f w:=by
 intro b cs a p D J C
 obtain⟨E,h⟩:=h a p
 have K:(Instr.enterLoop b.fn a ps aE bd b.roundOf).run P w=.ok (w.heap.size+1,[⟨.collected w.heap.size,#[]⟩]) ((w.alloc (.deferred (δ []))).alloc (.loop (VI φ.fn a ps aE bd w.heap.size))):=by rw[C,t,D,run_enterLoop_outer];rfl
 have A:(Act.eval ⟨a,φ.ds⟩) g=.func (.func q) first cap:=by rw[TR p];exact M
 have n:∀o:World,∃d,(resolve (Act.eval ⟨a,φ.ds⟩) (rangeCall g (w.heap.size+1)) 0).run P o=.ok d o/\(invoke d.target d.args).run P o=.ok (.enter q ⟨first.toList++[.func (.yield (w.heap.size+1)) #[] #[]]++cap.toList⟩) o:=λo=>by have z:(Act.eval ⟨a,φ.ds⟩) (.const (.func (.yield (w.heap.size+1)) #[] #[]))=.func (.yield (w.heap.size+1)) #[] #[]:=rfl;refine⟨_,by simp only[resolve,A,Sem.run_pure,Deferred.ofValue];rfl,?_⟩;simp [invoke,NC E,z]
 obtain⟨d,G,H⟩:=n ((w.alloc (.deferred (δ []))).alloc (.loop (VI φ.fn a ps aE bd w.heap.size)))
 have c:=stepR_rangeFunc (P:=P) (b:=b) (a:=⟨a,φ.ds⟩) (k:=k) (cs:=cs) (w:=w) K G H
 obtain⟨e,m,Q,u,i,I,j⟩:=h (b.atR ⟨a,(φ.mark w.heap.size).ds⟩ (.inRangeFunc (w.heap.size+1)::k)::cs)
 cases e with
 |outgrown=>exact u.elim
 |returned v=>
  obtain⟨r,x,s,F⟩:=u;have l:=run_endLoop (P:=P) x s;obtain⟨O,L,B,z⟩:=F b cs a p D J C;refine⟨O,L,B,z.of_steps (.head c (i.trans (.head ?_ (.one (stepR_endRangeFunc l)))))⟩;rw[<-finish_atR_inRangeFunc _ v];exact step_leave_returned j
 |panicked ch=>
  refine⟨.pan ch f (φ.mark w.heap.size).ds,m,u,a,.inRangeFunc (w.heap.size+1)::k,p,.head c (i.trans (.one ?_))⟩;rw[<-Frame.raise_atR];exact step_leave_panicked j
def Av9(P:Program)(l:Nat)(R:Ending->World->Prop):RL->World->Prop
 | .lv j _ [],w=>∃v w',(Instr.endRound l j).run P w=.ok v w'/\R (.returned v) w'
 | .pan ch _ [],w=>R (.panicked ch) w
 |_,_=>False
theorem Yp{l:Nat}{w':World}(a:φ.ro=δ l)(c:(Instr.beginRound l).run P w=.ok () w')(h:WT P φ N k R f w'):WT P φ N (.beginRound::k) R f w:=HA (λ_ _ _ _ _ b=>stepR_beginRound (b.trans a) c) h
theorem Ak2{l:Nat}{fn:FuncId}{tmps:Array Value}{aE bd:Code}{R:Ending->World->Prop}(hF:∃F,P.funcs[fn]?=δ F)(B:Is N tmps f)(h:WT P ⟨fn,δ l,[]⟩ N [.code aE,.beginRound,.code bd] (Av9 P l R) f w):Rnd P l fn tmps aE bd w R:=by
 refine⟨trivial,λc k _=>?_⟩;let b:Frame:={(default:Frame) with fn:=fn,kind:=.normal,roundOf:=δ l}
 have t:Frame.round l fn tmps aE bd .normal=b.atR ⟨tmps,[]⟩ [.code aE,.beginRound,.code bd]:=by simp [Frame.round,Frame.atR,b]
 obtain⟨e,x,m,r⟩:=h b (c::k) tmps B rfl rfl rfl;rw[<-t]at r;cases e with
 |pan C A u=>
  cases u with
  |cons _ _=>exact m.elim
  |nil=>
   obtain⟨a,s,_,q⟩:=r;exact⟨.panicked C,x,m,comesIn_wide.2 (q.trans (.one (step_leave_panicked ⟨rfl,rfl,hF⟩)))⟩
 |lv j A u=>
  cases u with
  |cons _ _=>exact m.elim
  |nil=>
   obtain⟨a,s,_,n,q⟩:=r;obtain⟨v,y,d,m⟩:=m;have i:step P (lone (b.atR ⟨a,[]⟩ s) (c::k) x)=.next (lone (c.finish v) k y)->∃e o,R e o/\ComesIn (Machine.fenced P Fence.wide) P (lone (Frame.round l fn tmps aE bd .normal) (c::k) w) (match e with
     | .returned v=>lone (c.finish v) k o
     | .panicked g=>lone (c.raise g) k o
     | .outgrown=>lone c k o) e:=λp=>⟨.returned v,y,m,comesIn_wide.2 (q.trans (.one p))⟩
   cases j with
   |none=>obtain rfl:s=[]:=n;exact i (stepR_round_end rfl rfl d)
   |some j=>
    cases j with
    |ret=>obtain⟨z,rfl⟩:=n;exact i (stepR_round_ret rfl rfl d)
    |exit E=>obtain⟨z,rfl,D⟩:=n;exact i (stepR_round_exit rfl rfl D d)
    |_=>exact n.elim
def Afx(N:Nat):List Tmp->List Value->Fr->Fr
 |p::ps,v::vs,f=>Afx N ps vs (DO N f p v)
 |_,_,f=>f
def Clb(P:Program)(v:Value)(vs:List Value)(w:World)(R:Ending->World->Prop):Prop:=(∃g first cap,v=.func (.func g) first cap/\CS P g=ψ/\Calls P g ⟨first.toList++vs++cap.toList⟩ w R)∨(∃l r,v=.func (.yield l) #[] #[]/\w.heap[l]?=δ (.loop r)/\ν vs=r.params.size/\Rnd P l r.fn ((r.params.zip ⟨vs⟩).foldl (λtmps(t,a)=>tmps.setIfInBounds t a) r.tmps) r.assign r.body w R)
theorem Clb.mono{v:Value}{vs:List Value}{R R':Ending->World->Prop}(h:Clb P v vs w R)(i:∀e w,R e w->R' e w):Clb P v vs w R':=by
 rcases h with ⟨g,a,f,b,c,d⟩|⟨l,r,b,c,d,j⟩
 .exact .inl ⟨g,a,f,b,c,Calls.mono d i⟩
 .exact .inr ⟨l,r,b,c,d,RoundIn.mono j i⟩
theorem ZD:∀(ps:List Tmp)(vs:List Value)(f:Fr)(a:Array Value),Is N a f->Is N ((ps.zip vs).foldl (λ(b:Array Value)(p:Tmp×Value)=>b.setIfInBounds p.1 p.2) a) (Afx N ps vs f)
 |[],_,f,a,h|_::_,[],f,a,h=>by simpa [Afx] using h
 |p::ps,v::vs,f,a,h=>by
  obtain⟨d,c,e⟩:=h.put (ds:=[]) (δ p) v;have:d=a.setIfInBounds p v:=by simp only[Act.put]at c;injection c with c;exact c.symm
  subst this;simp only[List.zip_cons_cons,bu,Afx];exact ZD ps vs _ _ e
theorem Az4{ps:Array Tmp}{vs:List Value}{a:Array Value}(h:Is N a f):Is N ((ps.zip ⟨vs⟩).foldl (λtmps(t,a)=>tmps.setIfInBounds t a) a) (Afx N ps.toList vs f):=by have:=ZD ps.toList vs f a h;rw[<-bh];simpa using this
section
variable {Rp:List PanicEntry->World->Prop} {ops:Array Oper} {K:Fr->World->Prop} {os:List Oper} {dst:Option Tmp} {ty:TypeId} {pos:String} {af:Array Edge}
theorem A3e{fv:Operand}{aE:Array Operand}{at_:Array TypeId}{vs:List Value}(k:aE.toList.map (ev f)=vs)(h:Clb P (ev f fv) vs w λe w'=>match e with
   | .returned v=>WL P N ops Rp χ K os (put N f dst v) w'
   | .panicked ch=>Rp ch w'
   | .outgrown=>False):WL P N ops Rp χ K (⟨dst,.call ⟨.value fv,aE,at_⟩,ty,pos,af,τ⟩::os) f w:=by
 rcases h with ⟨g,c,o,i,j,d⟩|⟨l,r,i,j,d,m⟩
 .exact Aiz i j (by rw[k]) d
 .have p:(execOp (ev f) ⟨dst,.call ⟨.value fv,aE,at_⟩,ty,pos,af,τ⟩).run P w=.ok (.round l r.fn ((r.params.zip ⟨vs⟩).foldl (λb(t,a)=>b.setIfInBounds t a) r.tmps) r.assign r.body) w:=by
   have n:(aE.map (ev f))=⟨vs⟩:=by rw[<-k];exact(Array.toArray_toList).symm.trans (by rw[bl])
   simp only[execOp,resolve,i,Sem.run_bind,Sem.run_pure,Result.andThen_ok,Deferred.ofValue,invoke,n];have:=run_yield (P:=P) (args:=⟨vs⟩) j d;rw[Array.empty_append];exact this
  simp only[WL,Region.wanted,if_true,p,UP];exact⟨trivial,m⟩
end
end
end
section
section
variable {P:Program} {φ:FK} {N:Nat} {k:List Item} {R:RL->World->Prop} {f:Fr} {w:World}
def Qd(P:Program)(φ:FK)(N:Nat)(k:List Item)(R:RL->World->Prop):Exit->Act->World->Prop
 | .normal,a,w=>∃f,Is N a.tmps f/\WT P {φ with ds:=a.defers} N k R f w
 | .panic ch,a,w=>a.defers=φ.ds/\∃f,Is N a.tmps f/\R (.pan ch f φ.ds) w
 |_,_,_=>False
theorem Ako{c:Code}(h:∀a,Is N a f->c.wpIn φ.NG 0 P (Qd P φ N k R) ⟨a,φ.ds⟩ w):WT P φ N (.code c::k) R f w:=by
 intro b r a B v z s;obtain⟨e,q,D,j,g⟩:=h a B b k r s trivial (λd o=>(by cases o));cases e with
 |normal=>
  obtain⟨u,i,C⟩:=j;obtain⟨t,d⟩:=q;obtain⟨e,n,p,y⟩:=C b r t i v z s;exact⟨e,n,p,y.of_steps (Oa g)⟩
 |panic A=>
  obtain⟨o,u,i,p⟩:=j;obtain⟨t,d⟩:=q;simp only at o;subst o;obtain⟨m,x⟩:=g;exact⟨.pan A u φ.ds,D,p,t,m,i,Oa x⟩
 |exit E|goto l|ret|outgrown=>exact j.elim
theorem Acn{Rp:List PanicEntry->World->Prop}{o:Oper}{a:Array Value}{K':Act->World->Prop}{next:Value->World->Prop}(c:∀ch w,Rp ch w->∃f,Is N a f/\R (.pan ch f φ.ds) w)(b:∀v w',next v w'->K' (Act.put ⟨a,φ.ds⟩ o.dst v) w')(h:UP P Rp χ next ((execOp (Act.eval ⟨a,φ.ds⟩) o).run P w)):o.wpIn φ.NG 0 P ⟨a,φ.ds⟩ w K' (Qd P φ N k R):=by
 refine⟨λf _=>trivial,?_⟩;rw[Ac6 h];generalize (execOp (Act.eval ⟨a,φ.ds⟩) o).run P w=r at h;cases r with
 |ok n w'=>
  cases n with
  |value v=>exact b _ _ h
  |skip=>exact b _ _ h.2
  |enter g m=>
   refine⟨λd=>(by cases d),Ae6 (Calls.mono h.2 λe i=>?_)⟩;cases e with
   |returned v=>exact b _ _
   |panicked ch=>exact λh=>⟨rfl,c _ _ h⟩
   |outgrown=>exact λh=>h.elim
  |round l g j p q=>
   refine⟨λd=>(by cases d),Adb (RoundIn.mono h.2 λe i=>?_)⟩;cases e with
   |returned v=>exact b _ _
   |panicked ch=>exact λh=>⟨rfl,c _ _ h⟩
   |outgrown=>exact λh=>h.elim
  |_=>exact False.elim h
 |halt x w'=>
  cases x with
  |panic v=>exact⟨rfl,c _ _ h.2⟩
  |_=>exact False.elim h
theorem SG{ops:Array Oper}{cl:Call}{ty:TypeId}{pos:String}{af:Array Edge}(j:φ.ro=τ):∀(os:List Oper)(l:List Nat)(f:Fr)(w:World)(a:Array Value),Is N a f->l.map (ops[·]?)=(os++[(⟨τ,.defer cl,ty,pos,af,τ⟩:Oper)]).map δ->WL P N ops (φ.at R) χ (λf w=>∃d w',(resolve (ev f) cl ty).run P w=.ok d w'/\WT P {φ with ds:=d::φ.ds} N k R f w') os f w->wpOpsIn φ.NG 0 P ops (Qd P φ N k R) l ⟨a,φ.ds⟩ w
 | [],[],_,_,_,_,b,_=>by simp at b
 | [],[i],f,w,a,e,b,h=>by
  simp only[aq,cr,ao,br,and_true]at b;obtain⟨d,w',s,g⟩:=h;simp only[wpOpsIn,b];rw[Wr e];have m:Region.wanted (⟨τ,.defer cl,ty,pos,af,τ⟩:Oper) (yl ops f)=ψ:=by simp [Region.wanted]
  simp only[m,if_true];refine⟨λ_ _=>trivial,?_⟩;have n:(Oper.semAt φ.NG.round (Act.eval ⟨a,φ.ds⟩) ⟨τ,.defer cl,ty,pos,af,τ⟩).run P w=.ok (.defer d) w':=by show (Oper.semAt φ.ro _ _).run P w=_;rw[j];rw[Hu e];simp [Oper.semAt,execOp,s]
  rw[n];exact⟨f,e,g⟩
 |[],_::_::_,_,_,_,_,b,_|_::_,[],_,_,_,_,b,_=>by simp at b
 |o::os,i::l,f,w,a,e,b,h=>by
  simp only[b9,aq,br]at b;obtain⟨r,b⟩:=b;simp only[wpOpsIn,r];simp only[WL]at h;rw[Wr e];have c:∀v w',WL P N ops (φ.at R) χ (λf w=>∃d w',(resolve (ev f) cl ty).run P w=.ok d w'/\WT P {φ with ds:=d::φ.ds} N k R f w') os (put N f o.dst v) w'->wpOpsIn φ.NG 0 P ops (Qd P φ N k R) l (Act.put ⟨a,φ.ds⟩ o.dst v) w':=λv w' q=>by obtain⟨u,t,p⟩:=e.put o.dst v;rw[t];exact SG j os l _ _ _ p b q
  split at h
  .rename_i g;simp only[g,if_true];exact Acn (Rp:=φ.at R) (λx w h=>⟨f,e,h f⟩) c (by rw[Hu e];exact h)
  .rename_i g;simp only[g,if_false,a1];exact⟨λ_ _=>trivial,c _ _ h⟩
theorem Acj{id:Nat}{ops:Array Oper}{os:List Oper}{cl:Call}{ty:TypeId}{pos:String}{af:Array Edge}(c:φ.ro=τ)(b:ops.toList=os++[⟨τ,.defer cl,ty,pos,af,τ⟩])(h:WL P N ops (φ.at R) χ (λf w=>∃d w',(resolve (ev f) cl ty).run P w=.ok d w'/\WT P {φ with ds:=d::φ.ds} N k R f w') os f w):WT P φ N (.code (.region id ops χ)::k) R f w:=
 Ako λa e=>wpIn_region (SG c os _ _ _ a e (by rw[Rw,b]) h)
end
end
section
section
variable {P:Program} {N:Nat} {ops:Array Oper} {R:List PanicEntry->World->Prop} {mo:Bool} {K:Fr->World->Prop} {os:List Oper} {f:Fr} {w:World}
variable {dst:Option Tmp} {ty:TypeId} {pos:String} {af:Array Edge} {I:Cb} {T A:Bi} {t kt et:TypeId} {x:Operand}
variable {b c:Nat} {es:Array MapEntry}
theorem Aiw(g:P.underlying t=δ (.map kt et))(hs:St I w ([(b,.map es c)]++T))(a:ev f x=.map (δ b))(h:∀r w',Ext I w I w'->St I w' ([(r,.mapIter (δ b) c #[] c)]++([(b,.map es c)]++T))->WL P N ops R mo K os (put N f dst (.pointer (δ ⟨r,0,τ⟩))) w'):WL P N ops R mo K (⟨dst,.range t x,ty,pos,af,τ⟩::os) f w:=by obtain⟨e,d⟩:=hs.alloc (.mapIter (δ b) c #[] c);refine Ao ?_ (h w.heap.size _ e d);simp [execOp,a,run_range_map w t kt et b es c g hs.heap]
variable {r:Nat}
theorem Ac4{o o':Obj}(hs:St I w ((r,o)::T)):Ext I w I (ChangeMaps.setBlock w r o')/\St I (ChangeMaps.setBlock w r o') ((r,o')::T):=by
 have d:=(hs.own (r,o) (by simp)).1;have a:r<w.heap.size:=(ax.1 d).1;refine hs.write (b:=r) (o:=o) (o':=o') (T:=T) rfl rfl rfl ?_ ?_ λc f=>?_
 .simp [ChangeMaps.setBlock]
 .simp [ChangeMaps.setBlock,a]
 .simp [ChangeMaps.setBlock];exact Array.getElem?_setIfInBounds_ne (λe=>f e.symm)
theorem Ay0{seen:Array Nat}(hs:St I w ([(r,.mapIter (δ b) c seen c)]++([(b,.map es c)]++T)))(s:∀e∈es.toList,e.born<c)(i:ev f x=.pointer (δ ⟨r,0,τ⟩))(n:(leftOf es seen).size=0->WL P N ops R mo K os (put N f dst (.tuple #[.bool χ])) w)(p:∀e∈(leftOf es seen).toList,∀w',Ext I w I w'->St I w' ([(r,.mapIter (δ b) c (seen.push e.born) c)]++([(b,.map es c)]++T))->WL P N ops R mo K os (put N f dst (.tuple #[.bool ψ,e.key,e.val])) w'):WL P N ops R mo K (⟨dst,.next x χ,ty,pos,af,τ⟩::os) f w:=by
 have m:=hs.heap;have j:=hs.Y2.heap;rcases run_next_at (P:=P) w ty r b c c seen es c m j s (am _) with ⟨k,a⟩|⟨e,o,g,d,a⟩
 .refine Ao ?_ (n k);simp [execOp,i,a]
 .have h:Ext I w I g/\St I g ([(r,.mapIter (δ b) c seen c)]++([(b,.map es c)]++T)):=by
   rcases d with rfl|rfl
   .exact⟨Ext.refl _ _,hs⟩
   .exact hs.drew (w.drawn+1)
  obtain⟨l,q⟩:=Ac4 (o':=.mapIter (δ b) c (seen.push e.born) c) h.2;refine Ao ?_ (p e o _ (h.1.trans l) q);simp [execOp,i,a]
theorem Aty{seen:Array Nat}{e:MapEntry}(hs:St I w ([(r,.mapIter (δ b) c (seen.push e.born) c)]++([(b,.map es c)]++T)))(a:e∈es.toList)(d:(es.toList.map (·.born)).Nodup)(g:ev f x=.pointer (δ ⟨r,0,τ⟩))(h:WL P N ops R mo K os (put N f dst (.tuple #[e.key,e.val])) w):WL P N ops R mo K (⟨dst,.entry x,ty,pos,af,τ⟩::os) f w:=by refine Ao ?_ h;simp [execOp,g,run_entry_at (P:=P) w r b c seen es c e hs.heap hs.Y2.heap a d]
end
theorem Apy{es:Array MapEntry}:leftOf es #[]=es:=by unfold leftOf;simp
end
end Go.X
namespace Go.Y
open Go Go.RowKit Go.X
section
inductive Ty where
 |int (k:IntKind)
 |bool
 |str
 |ptr
 |mref
 |sl (e:Ty)
 |u (n:Nat)
abbrev I6:Ty:=.int .i64
def Ty.dec:(a b:Ty)->Decidable (a=b)
 | .int j,.int k=>if h:j=k then .isTrue (by rw[h]) else .isFalse (by intro e;cases e;exact h rfl)
 |.bool,.bool|.str,.str|.ptr,.ptr|.mref,.mref=>.isTrue rfl
 | .sl a,.sl b=>match Ty.dec a b with
  | .isTrue h=>.isTrue (by rw[h])
  | .isFalse h=>.isFalse (by intro e;cases e;exact h rfl)
 | .u a,.u b=>if h:a=b then .isTrue (by rw[h]) else .isFalse (by intro e;cases e;exact h rfl)
 | .int _,.mref | .bool,.mref | .str,.mref | .ptr,.mref | .sl _,.mref | .u _,.mref=>.isFalse (by intro e;cases e)
 | .mref,.int _ | .mref,.bool | .mref,.str | .mref,.ptr | .mref,.sl _ | .mref,.u _=>.isFalse (by intro e;cases e)
 | .int _,.bool | .int _,.str | .int _,.ptr | .int _,.sl _ | .int _,.u _=>.isFalse (by intro e;cases e)
 | .bool,.int _ | .bool,.str | .bool,.ptr | .bool,.sl _ | .bool,.u _=>.isFalse (by intro e;cases e)
 | .str,.int _ | .str,.bool | .str,.ptr | .str,.sl _ | .str,.u _=>.isFalse (by intro e;cases e)
 | .ptr,.int _ | .ptr,.bool | .ptr,.str | .ptr,.sl _ | .ptr,.u _=>.isFalse (by intro e;cases e)
 | .sl _,.int _ | .sl _,.bool | .sl _,.str | .sl _,.ptr | .sl _,.u _=>.isFalse (by intro e;cases e)
 | .u _,.int _ | .u _,.bool | .u _,.str | .u _,.ptr | .u _,.sl _=>.isFalse (by intro e;cases e)
instance:DecidableEq Ty:=Ty.dec
abbrev den(D:Nat->Type):Ty->Type
 | .int _=>Int
 | .bool=>Bool
 | .str=>ByteArray
 |.ptr|.mref=>Option Nat
 | .sl e=>List (den D e)
 | .u n=>D n
structure Lf(D:Nat->Type) where
 t:Ty
 x:den D t
def Ty.leaf:Ty->Bool
 | .u _=>χ
 |_=>ψ
structure US where
 D:Nat->Type
 sig:Nat->List Ty
 flat:(n:Nat)->D n->List (Lf D)
 Akr:(n:Nat)->List (Lf D)->Option (D n)
 TJ:∀n x,(flat n x).map (·.t)=sig n
 SN:∀n l x,Akr n l=δ x->flat n x=l
 Ac2:∀n,∀t∈sig n,t.leaf=ψ
 Aij:∀n,0<ν (sig n)
section
variable (S:US)
def sz:Ty->Nat
 | .u n=>ν (S.sig n)
 |_=>1
inductive F2{α β:Type}(R:α->β->Prop):List α->List β->Prop
 |nil:F2 R [] []
 |cons {a b aE bs}:R a b->F2 R aE bs->F2 R (a::aE) (b::bs)
theorem F2.len{α β:Type}{R:α->β->Prop}{l:List α}{m:List β}(h:F2 R l m):ν l=ν m:=by
 induction h with
 |nil=>rfl
 |cons _ _ ih=>grind
theorem F2.mono{α β:Type}{R R':α->β->Prop}{l:List α}{m:List β}(h:F2 R l m)(f:∀a b,R a b->R' a b):F2 R' l m:=by
 induction h with
 |nil=>exact .nil
 |cons h _ c=>exact .cons (f _ _ h) c
variable {α β:Type}
theorem F2.mem{R:α->β->Prop}{l:List α}{m:List β}(h:F2 R l m):∀a∈l,∃b∈m,R a b:=by
 induction h with
 |nil=>simp
 |cons h _ ih=>
  grind
theorem F2.get{R:α->β->Prop}{l:List α}{m:List β}(h:F2 R l m):∀{i:Nat}{b:β},m[i]?=δ b->∃a,l[i]?=δ a/\R a b:=by
 induction h with
 |nil=>simp
 |cons h _ ih=>
  grind
theorem F2.get'{R:α->β->Prop}{l:List α}{m:List β}(h:F2 R l m):∀{i:Nat}{a:α},l[i]?=δ a->∃b,m[i]?=δ b/\R a b:=by
 induction h with
 |nil=>simp
 |cons h _ ih=>
  grind
theorem F2.take{R:α->β->Prop}{l:List α}{m:List β}(h:F2 R l m):∀n,F2 R (l.take n) (m.take n):=by
 induction h with
 |nil=>intro n;simp;exact .nil
 |cons h _ a=>
  intro n;cases n with
  |zero=>exact .nil
  |succ n=>exact .cons h (a n)
theorem F2.drop{R:α->β->Prop}{l:List α}{m:List β}(h:F2 R l m):∀n,F2 R (l.drop n) (m.drop n):=by
 induction h with
 |nil=>intro n;simp;exact .nil
 |cons h h2 ih=>
  intro n;cases n with
  |zero=>exact .cons h h2
  |succ n=>grind
theorem F2.app{R:α->β->Prop}{l l':List α}{m m':List β}(h:F2 R l m)(a:F2 R l' m'):F2 R (l++l') (m++m'):=by
 induction h with
 |nil=>exact a
 |cons h _ b=>exact .cons h b
def WH(ru:(n:Nat)->Cb->World->Value->S.D n->Prop):(t:Ty)->Cb->World->Value->den S.D t->Prop
 | .int k,_,_,v,n=>v=.int k n/\Bl k n
 | .bool,_,_,v,b=>v=.bool b
 | .str,_,_,v,s=>v=.string s/\s.size<=Pd
 | .ptr,_,_,v,p=>v=.pointer (p.map λb=>⟨b,0,τ⟩)
 | .mref,_,_,v,p=>v=.map p
 | .sl e,I,w,v,xs=>∃a cap,v=.slice a (ν xs) cap/\ν xs<=cap/\cap<=Pd/\
  (xs=[]∨∃b off,a=δ ⟨b,off,τ⟩/\I b/\∀j(h:j<ν xs),∃v,WH ru e I w v xs[j]/\Dn w ⟨b,off+j*sz S e,τ⟩ v)
 | .u n,I,w,v,x=>ru n I w v x
def VC:Nat->(n:Nat)->Cb->World->Value->S.D n->Prop
 |0=>λ_ _ _ _ _=>False
 |f+1=>λn I w v x=>∃cs:List Value,v=.agg ⟨cs⟩/\F2 (λc(l:Lf S.D)=>WH S (VC f) l.t I w c l.x) cs (S.flat n x)
theorem Aam{ru ru':(n:Nat)->Cb->World->Value->S.D n->Prop}(h:∀n I w v x,ru n I w v x->ru' n I w v x):∀(t:Ty)(I:Cb)(w:World)(v:Value)(x:den S.D t),WH S ru t I w v x->WH S ru' t I w v x
 |.int _,_,_,_,_,r|.bool,_,_,_,_,r|.str,_,_,_,_,r|.ptr,_,_,_,_,r|.mref,_,_,_,_,r=>r
 | .sl e,I,w,v,y,⟨a,c,l,p,m,i⟩=>⟨a,c,l,p,m,i.imp id λ⟨b,d,q,s,k⟩=>⟨b,d,q,s,λj o=>by obtain⟨v,g,f⟩:=k j o;exact⟨v,Aam h e _ _ _ _ g,f⟩⟩⟩
 | .u n,I,w,v,x,r=>h n I w v x r
theorem Zk:∀(f n:Nat)(I:Cb)(w:World)(v:Value)(x:S.D n),VC S f n I w v x->VC S (f+1) n I w v x
 |0,_,_,_,_,_,h=>h.elim
 |f+1,_,_,_,_,_,⟨b,a,d⟩=>⟨b,a,d.mono λ_ _ r=>Aam S (Zk f) _ _ _ _ _ r⟩
theorem Atk{f g:Nat}(a:f<=g)(n:Nat)(I:Cb)(w:World)(v:Value)(x:S.D n)(h:VC S f n I w v x):VC S g n I w v x:=by
 induction a with
 |refl=>exact h
 |step _ b=>grind[Zk]
def rp(t:Ty)(I:Cb)(w:World)(v:Value)(x:den S.D t):Prop:=∃f,WH S (VC S f) t I w v x
theorem Aan{f g:Nat}(a:f<=g){t:Ty}{I:Cb}{w:World}{v:Value}{x:den S.D t}(h:WH S (VC S f) t I w v x):WH S (VC S g) t I w v x:=Aam S (Atk S a) _ _ _ _ _ h
variable {S}
theorem ZN{p:Nat->Nat->Prop}(a:∀j f g,f<=g->p j f->p j g):∀n,(∀j,j<n->∃f,p j f)->∃f,∀j,j<n->p j f
 |0,_=>⟨0,λj h=>by omega⟩
 |n+1,h=>by
  obtain⟨f,c⟩:=ZN a n λj e=>h j (by omega);obtain⟨g,d⟩:=h n (by omega);refine⟨max f g,λj e=>?_⟩;by_cases b:j=n
  .grind
  .exact a _ _ _ (cj _ _) (c j (by omega))
variable {I:Cb} {w:World} {v:Value}
theorem AS{k:IntKind}{n:Int}:rp S (.int k) I w v n↔v=.int k n/\Bl k n:=⟨λ⟨_,h⟩=>h,λh=>⟨0,h⟩⟩
theorem HQ{b:Bool}:rp S .bool I w v b↔v=.bool b:=⟨λ⟨_,h⟩=>h,λh=>⟨0,h⟩⟩
theorem Nv{s:ByteArray}:rp S .str I w v s↔v=.string s/\s.size<=Pd:=⟨λ⟨_,h⟩=>h,λh=>⟨0,h⟩⟩
theorem Mf{p:Option Nat}:rp S .ptr I w v p↔v=.pointer (p.map λb=>⟨b,0,τ⟩):=⟨λ⟨_,h⟩=>h,λh=>⟨0,h⟩⟩
theorem LC{p:Option Nat}:rp S .mref I w v p↔v=.map p:=⟨λ⟨_,h⟩=>h,λh=>⟨0,h⟩⟩
theorem Te{e:Ty}{xs:List (den S.D e)}:rp S (.sl e) I w v xs↔∃a cap,v=.slice a (ν xs) cap/\ν xs<=cap/\cap<=Pd/\(xs=[]∨∃b off,a=δ ⟨b,off,τ⟩/\I b/\∀j(h:j<ν xs),∃v,rp S e I w v xs[j]/\Dn w ⟨b,off+j*sz S e,τ⟩ v):=by
 constructor
 .rintro⟨f,a,cap,d,i,l,k⟩;refine⟨a,cap,d,i,l,k.imp id λ⟨b,off,n,o,q⟩=>⟨b,off,n,o,λj c=>?_⟩⟩;obtain⟨v,s,t⟩:=q j c;exact⟨v,⟨f,s⟩,t⟩
 .rintro⟨a,cap,d,i,l,k⟩;rcases k with k|⟨b,off,n,o,q⟩
  .exact⟨0,a,cap,d,i,l,.inl k⟩
  .obtain⟨f,r⟩:=ZN (p:=λj f=>∀c:j<ν xs,∃v,WH S (VC S f) e I w v xs[j]/\Dn w ⟨b,off+j*sz S e,τ⟩ v)
    (λj f g m h c=>by grind[Aan]) (ν xs)
    (λj c=>by obtain⟨v,⟨f,d⟩,i⟩:=q j c;exact⟨f,λ_=>⟨v,d,i⟩⟩)
   exact⟨f,a,cap,d,i,l,.inr ⟨b,off,n,o,λj c=>r j c c⟩⟩
theorem Asb{cs:List Value}{ls:List (Lf S.D)}(h:F2 (λc(l:Lf S.D)=>rp S l.t I w c l.x) cs ls):∃f,F2 (λc(l:Lf S.D)=>WH S (VC S f) l.t I w c l.x) cs ls:=by
 induction h with
 |nil=>exact⟨0,.nil⟩
 |cons h _ a=>
  obtain⟨f,b⟩:=a;obtain⟨g,d⟩:=h;exact⟨max f g,.cons (Aan S (Nat.le_max_right _ _) d) (b.mono λc l r=>Aan S (cj _ _) r)⟩
theorem HO{n:Nat}{x:S.D n}:rp S (.u n) I w v x↔∃cs:List Value,v=.agg ⟨cs⟩/\F2 (λc(l:Lf S.D)=>rp S l.t I w c l.x) cs (S.flat n x):=by
 constructor
 .rintro⟨f,a⟩;cases f with
  |zero=>exact a.elim
  |succ f=>obtain⟨cs,b,d⟩:=a;exact⟨cs,b,d.mono λc l r=>⟨f,r⟩⟩
 .rintro⟨cs,b,d⟩;obtain⟨f,a⟩:=Asb d;exact⟨f+1,cs,b,a⟩
theorem Anw(t:Ty):0<sz S t:=by cases t<;>simp only[sz]<;>first|exact Nat.one_pos|exact S.Aij _
variable {t:Ty}
theorem K0(b:t.leaf=ψ){x:den S.D t}(h:rp S t I w v x):v.cells=#[v]/\v.oneCell'=ψ:=by
 cases t with
 |int k=>rw[(AS.1 h).1];exact⟨rfl,rfl⟩
 |bool=>rw[HQ.1 h];exact⟨rfl,rfl⟩
 |str=>rw[(Nv.1 h).1];exact⟨rfl,rfl⟩
 |ptr=>rw[Mf.1 h];exact⟨rfl,rfl⟩
 |mref=>rw[LC.1 h];exact⟨rfl,rfl⟩
 |sl e=>obtain⟨a,c,h,_⟩:=Te.1 h;rw[h];exact⟨rfl,rfl⟩
 |u n=>grind[Ty.leaf]
theorem QT{n:Nat}{x:S.D n}:∀l∈S.flat n x,l.t.leaf=ψ:=λl a=>S.Ac2 n _ (by rw[<-S.TJ n x];grind)
theorem Ada{x:den S.D t}(h:rp S t I w v x):v.cells.size=sz S t:=by
 cases t with
 |u n=>
  obtain⟨a,rfl,b⟩:=HO.1 h;have:=b.len;show ν a=_;rw[this,sz,<-S.TJ n x,List.length_map]
 |_=>exact congrArg Array.size (K0 rfl h).1
theorem Yh{cs:List Value}{ls:List (Lf S.D)}(h:F2 (λc(l:Lf S.D)=>rp S l.t I w c l.x) cs ls):(∀l∈ls,l.t.leaf=ψ)->∀c∈cs,c.oneCell'=ψ:=by
 induction h with
 |nil=>simp
 |cons h _ d=>
  intro b c a;rcases cm.1 a with rfl|a
  .exact(K0 (b _ c7) h).2
  grind
theorem U5{I I':Cb}{w w':World}(e:Ext I w I' w'){ru:(n:Nat)->Cb->World->Value->S.D n->Prop}(f:∀n v x,ru n I w v x->ru n I' w' v x):∀(t:Ty)(v:Value)(x:den S.D t),WH S ru t I w v x->WH S ru t I' w' v x
 |.int _,_,_,r|.bool,_,_,r|.str,_,_,r|.ptr,_,_,r|.mref,_,_,r=>r
 | .sl t,v,y,⟨a,c,k,p,l,s⟩=>⟨a,c,k,p,l,s.imp id λ⟨b,d,q,g,o⟩=>⟨b,d,q,e.sub b g,λj m=>by obtain⟨v,i,h⟩:=o j m;exact⟨v,U5 e f t _ _ i,Dn.mono e g h⟩⟩⟩
 | .u n,v,x,r=>f n v x r
theorem Zl{I I':Cb}{w w':World}(e:Ext I w I' w'):∀(f n:Nat)(v:Value)(x:S.D n),VC S f n I w v x->VC S f n I' w' v x
 |0,_,_,_,h=>h.elim
 |f+1,_,_,_,⟨d,a,b⟩=>⟨d,a,b.mono λ_ _ r=>U5 e (Zl e f) _ _ _ r⟩
theorem Ff{I':Cb}{w':World}(e:Ext I w I' w'){x:den S.D t}(h:rp S t I w v x):rp S t I' w' v x:=by obtain⟨f,a⟩:=h;exact⟨f,U5 e (Zl e f) _ _ _ a⟩
def isU:Ty->Bool
 | .u _=>ψ
 |_=>χ
@[reducible] def RT(S:US)(t:Ty):AT (den S.D t) where
 size:=sz S t
 agg:=isU t
 rep:=rp S t
 pos:=Anw t
 cells h:=Ada h
 form {I w v x} h:=by
  cases t with
  |u n=>obtain⟨cs,rfl,_⟩:=HO.1 h;exact⟨_,rfl⟩
  |_=>exact(K0 rfl h).1
 one {I w v x} h:=by
  cases t with
  |u n=>
   obtain⟨cs,rfl,h2⟩:=HO.1 h;exact Yh h2 QT
  |_=>rw[(K0 rfl h).1];intro c hc;simp at hc;subst hc;exact(K0 rfl h).2
 mono e h:=Ff e h
end
end
section
inductive OL(D:Nat->Type) where
 |dat (l:Lf D)
 |own (t:Ty) (xs:List (den D t))
 |map (k v:Ty) (m:List (den D k×den D v))
 |ownO (t:Ty) (o:Option (List (den D t)))
@[reducible] def Gz(S:US)(dq:(n:Nat)->DecidableEq (S.D n)):(t:Ty)->DecidableEq (den S.D t)
 | .int _=>inferInstanceAs (DecidableEq Int)
 | .bool=>inferInstanceAs (DecidableEq Bool)
 | .str=>inferInstanceAs (DecidableEq ByteArray)
 |.ptr|.mref=>inferInstanceAs (DecidableEq (Option Nat))
 | .u n=>dq n
 | .sl e=>@instDecidableEqList _ (Gz S dq e)
inductive RK where
 |dat (t:Ty)
 |own (t:Ty)
 |map (k e:Ty)
 |ownO (t:Ty)
structure Sys extends US where
 P:Program
 ty:TypeId->Option Ty
 deq:(n:Nat)->DecidableEq (D n)
 gls:Nat->Option ((T:Ty)×List (den D T))
 O:Nat->Type
 Aot:Nat->List RK
 ocl:(n:Nat)->O n->List (OL D)
 oun:(n:Nat)->List (OL D)->Option (O n)
 Aos:∀n l x,oun n l=δ x->ocl n x=l
 ok:TypeId->Option Nat
 km:TypeId->Ty->Bool
 Ap3:∀t k,km t k=ψ->@Kq P t (den D k) (RT toUS k) (Gz toUS deq k)
 eqs:TypeId->Ty->Bool
 Aw5:∀t k,eqs t k=ψ->P.eqGuardType P.depth t=χ/\∀I w v u(x y:den D k),rp toUS k I w v x->rp toUS k I w u y->∀w',(Op.equal t v u).run P w'=.ok (@decide (x=y) (Gz toUS deq k x y)) w'
inductive Ob(Y:Sys) where
 |st (n:Nat) (x:Y.O n)
 |mp (k v:Ty) (m:List (den Y.D k×den Y.D v))
 |lp (r:Loop)
section
variable (Y:Sys)
@[reducible] def I4(t:Ty):DecidableEq (den Y.D t):=Gz Y.toUS Y.deq t
abbrev OO(t:Ty)(I:Cb)(w:World)(A:Bi)(v:Value)(xs:List (den Y.D t)):Prop:=@Bw _ (RT Y.toUS t) I w A v xs
abbrev Yo(k e:Ty)(I:Cb)(w:World)(A:Bi)(v:Value)(m:List (den Y.D k×den Y.D e)):Prop:=@C3 _ _ (RT Y.toUS k) (RT Y.toUS e) I w A v m
def OR(I:Cb)(w:World):List Value->List (OL Y.D)->Bi->Prop
 | [],[],A=>A=[]
 |v::vs,.dat l::ls,A=>rp Y.toUS l.t I w v l.x/\v.oneCell'=ψ/\OR I w vs ls A
 |v::vs,.own t xs::ls,A=>∃A1 A2,A=A1++A2/\OO Y t I w A1 v xs/\OR I w vs ls A2
 |v::vs,.map k e m::ls,A=>∃A1 A2,A=A1++A2/\Yo Y k e I w A1 v m/\OR I w vs ls A2
 |v::vs,.ownO _ τ::ls,A=>v=.slice τ 0 0/\OR I w vs ls A
 |v::vs,.ownO t (δ xs)::ls,A=>∃A1 A2,A=A1++A2/\OO Y t I w A1 v xs/\OR I w vs ls A2
 |_,_,_=>False
def obR(o:Ob Y)(I:Cb)(w:World)(A:Bi)(b:Nat):Prop:=match o with
 | .st n x=>∃arr e A',A=(b,.cells arr e (0,0))::A'/\OR Y I w arr.toList (Y.ocl n x) A'
 | .mp k e m=>Yo Y k e I w A (.map (δ b)) m
 | .lp r=>A=[(b,.loop r)]
theorem OR.mono{I I':Cb}{w w':World}(h:Ext I w I' w'):∀{vs:List Value}{ls:List (OL Y.D)}{A:Bi},OR Y I w vs ls A->OR Y I' w' vs ls A
 | [],[],_,r=>r
 |_::_,.dat _::_,_,⟨a,b,f⟩=>⟨Ff h a,b,OR.mono h f⟩
 |_::_,.own _ _::_,_,⟨c,d,e,a,b⟩=>⟨c,d,e,@Bw.mono _ (RT _ _) _ _ _ _ _ _ _ h a,OR.mono h b⟩
 |_::_,.map _ _ _::_,_,⟨c,d,e,a,b⟩=>⟨c,d,e,@C3.mono _ _ (RT _ _) (RT _ _) _ _ _ _ _ _ _ a h,OR.mono h b⟩
 |_::_,.ownO _ τ::_,_,⟨a,b⟩=>⟨a,OR.mono h b⟩
 |_::_,.ownO _ (δ _)::_,_,⟨c,d,e,a,b⟩=>⟨c,d,e,@Bw.mono _ (RT _ _) _ _ _ _ _ _ _ h a,OR.mono h b⟩
 |[],.ownO _ _::_,_,r|[],.dat _::_,_,r|[],.own _ _::_,_,r|[],.map _ _ _::_,_,r|_::_,[],_,r=>r.elim
def Ra:HK (Ob Y) where
 ob:=obR Y
 mono {o I w I' w' A b} h r:=by
  cases o with
  |st n x=>obtain⟨arr,e,A',h1,h2⟩:=r;exact⟨arr,e,A',h1,OR.mono Y h h2⟩
  |mp k e m=>exact @C3.mono _ _ (RT _ _) (RT _ _) _ _ _ _ _ _ _ r h
  |lp r'=>exact r
 self {o I w A b} r:=by
  cases o with
  |st n x=>obtain⟨arr,e,A',h1,h2⟩:=r;exact⟨_,_,h1⟩
  |mp k e m=>
   obtain⟨b',es,c,h1,h2,_⟩:=@C3.ex _ _ (RT _ _) (RT _ _) _ _ _ _ _ r;cases h2;exact⟨_,_,h1⟩
  |lp r'=>exact⟨_,[],r⟩
 gl I w:=∀g q,Y.gls g=δ q->rp Y.toUS (.sl q.1) I w (.slice (δ ⟨g,0,τ⟩) (ν q.2) (ν q.2)) q.2
 glm e h g q hq:=Ff e (h g q hq)
abbrev HH:=Hp (Ob Y)
def Jl:List Ty->Type
 | []=>Unit
 |t::ts=>den Y.D t×Jl ts
def Ye(I:Cb)(w:World):(ts:List Ty)->Jl Y ts->List Value->Prop
 | [],_,vs=>vs=[]
 |t::ts,x,vs=>∃v vs',vs=v::vs'/\rp Y.toUS t I w v x.1/\Ye I w ts x.2 vs'
def LD:List Value->Value
 | [v]=>v
 |vs=>.tuple ⟨vs⟩
abbrev Vg:=TypeId->Lf Y.D->HH Y->Prop
abbrev FT(aE rs:List Ty):=Jl Y aE->HH Y->(Jl Y rs->HH Y->Prop)->Vg Y->Prop
def A8v(g:FuncId)(vs:List Value)(I:Cb)(w:World)(T:Bi)(Q:Cb->World->Value->Bi->HH Y->Prop)(X:Vg Y):Prop:=YS Y.P g vs I w (λr I' w'=>∃AH' A' H',St I' w' (AH'++(A'++T))/\Ip (Ra Y) I' w' H' AH'/\Q I' w' r A' H') (λv I' w'=>∃AH' H' t l u,St I' w' (AH'++T)/\Ip (Ra Y) I' w' H' AH'/\v=.iface t u/\rp Y.toUS l.t I' w' u l.x/\X t l H')
def Aki(I:Cb)(w:World)(Q X:Value->Cb->World->Prop):Ending->World->Prop:=λe w'=>(∃v I',e=.returned v/\Ext I w I' w'/\Q v I' w')∨(∃v I',e=.panicked [{v,recovered:=χ}]/\Ext I w I' w'/\X v I' w')
def Akh(I:Cb)(w:World)(T:Bi)(Q:Cb->World->Value->Bi->HH Y->Prop)(X:Vg Y):Ending->World->Prop:=Aki I w (λr I' w'=>∃AH' A' H',St I' w' (AH'++(A'++T))/\Ip (Ra Y) I' w' H' AH'/\Q I' w' r A' H') (λv I' w'=>∃AH' H' t l u,St I' w' (AH'++T)/\Ip (Ra Y) I' w' H' AH'/\v=.iface t u/\rp Y.toUS l.t I' w' u l.x/\X t l H')
def FvR(aE rs:List Ty)(F:FT Y aE rs)(I0:Cb)(w0:World)(v:Value):Prop:=(∃g first cap,v=.func g first cap)/\∀a H Q X,F a H Q X->∀I w,Ext I0 w0 I w->∀(T AH:Bi)(vs:List Value),Ye Y I w aE a vs->Ip (Ra Y) I w H AH->St I w (AH++T)->Clb Y.P v vs w (Akh Y I w T (λI' w' r A' H'=>A'=[]/\∃b us,r=LD us/\Ye Y I' w' rs b us/\Q b H') X)
theorem FvR.mono{aE rs:List Ty}{F:FT Y aE rs}{I I':Cb}{w w':World}{v:Value}(e:Ext I w I' w')(h:FvR Y aE rs F I w v):FvR Y aE rs F I' w' v:=⟨h.1,λa H Q X f d b c=>h.2 a H Q X f d b (e.trans c)⟩
inductive AK where
 |dat (t:Ty)
 |own (t:Ty)
 |map (k e:Ty)
 |mob
 |del (t:Ty)
 |fn (aE rs:List Ty)
 |fbx (aE rs:List Ty)
structure Bd where
 args:List AK
 res:List RK
def JK:List AK->Type
 | []=>Unit
 | .dat t::l=>den Y.D t×JK l
 | .own t::l=>List (den Y.D t)×JK l
 | .map k e::l=>List (den Y.D k×den Y.D e)×JK l
 | .mob::l=>Nat×JK l
 | .del t::l=>den Y.D t×JK l
 |.fn aE rs::l|.fbx aE rs::l=>FT Y aE rs×JK l
def A4q(t:Ty)(I:Cb)(w:World)(x:den Y.D t)(v:Value):Prop:=∃b off u,rp Y.toUS t I w u x/\Dn w ⟨b,off,τ⟩ u/\I b/\v=.pointer (δ ⟨b,off,τ⟩)
def FbR(aE rs:List Ty)(F:FT Y aE rs)(I:Cb)(w:World)(v:Value):Prop:=∃b off u,FvR Y aE rs F I w u/\Dn w ⟨b,off,τ⟩ u/\I b/\v=.pointer (δ ⟨b,off,τ⟩)
theorem FbR.mono{aE rs:List Ty}{F:FT Y aE rs}{I I':Cb}{w w':World}{v:Value}(e:Ext I w I' w')(h:FbR Y aE rs F I w v):FbR Y aE rs F I' w' v:=by obtain⟨b,a,u,d,g,c,f⟩:=h;exact⟨b,a,u,FvR.mono Y e d,Dn.mono e c g,e.sub b c,f⟩
def ArR(I:Cb)(w:World):(l:List AK)->JK Y l->List Value->Bi->Prop
 | [],_,vs,A=>vs=[]/\A=[]
 | .dat t::l,x,vs,A=>∃v vs',vs=v::vs'/\rp Y.toUS t I w v x.1/\ArR I w l x.2 vs' A
 | .own t::l,x,vs,A=>∃v vs' A1 A2,vs=v::vs'/\A=A1++A2/\OO Y t I w A1 v x.1/\ArR I w l x.2 vs' A2
 | .map k e::l,x,vs,A=>∃v vs' A1 A2,vs=v::vs'/\A=A1++A2/\Yo Y k e I w A1 v x.1/\ArR I w l x.2 vs' A2
 | .mob::l,x,vs,A=>∃v vs',vs=v::vs'/\v=.map (δ x.1)/\ArR I w l x.2 vs' A
 | .del t::l,x,vs,A=>∃v vs',vs=v::vs'/\A4q Y t I w x.1 v/\ArR I w l x.2 vs' A
 | .fn aE rs::l,x,vs,A=>∃v vs',vs=v::vs'/\FvR Y aE rs x.1 I w v/\ArR I w l x.2 vs' A
 | .fbx aE rs::l,x,vs,A=>∃v vs',vs=v::vs'/\FbR Y aE rs x.1 I w v/\ArR I w l x.2 vs' A
def MF:List RK->Type
 | []=>Unit
 | .dat t::l=>den Y.D t×MF l
 | .own t::l=>List (den Y.D t)×MF l
 | .map k e::l=>List (den Y.D k×den Y.D e)×MF l
 | .ownO _::_=>Empty
def ReR(I:Cb)(w:World):(l:List RK)->MF Y l->List Value->Bi->Prop
 | [],_,vs,A=>vs=[]/\A=[]
 | .dat t::l,x,vs,A=>∃v vs',vs=v::vs'/\rp Y.toUS t I w v x.1/\ReR I w l x.2 vs' A
 | .own t::l,x,vs,A=>∃v vs' A1 A2,vs=v::vs'/\A=A1++A2/\OO Y t I w A1 v x.1/\ReR I w l x.2 vs' A2
 | .map k e::l,x,vs,A=>∃v vs' A1 A2,vs=v::vs'/\A=A1++A2/\Yo Y k e I w A1 v x.1/\ReR I w l x.2 vs' A2
 | .ownO _::_,_,_,_=>False
def O6:List AK->Type
 | []=>Unit
 | .own t::l=>List (den Y.D t)×O6 l
 | .map k e::l=>List (den Y.D k×den Y.D e)×O6 l
 | .dat _::l | .mob::l | .fn _ _::l | .del _::l | .fbx _ _::l=>O6 l
def IoR(I:Cb)(w:World):(l:List AK)->O6 Y l->List Value->Bi->Prop
 | [],_,_,A=>A=[]
 | .own t::l,x,vs,A=>∃v vs' A1 A2,vs=v::vs'/\A=A1++A2/\OO Y t I w A1 v x.1/\IoR I w l x.2 vs' A2
 | .map k e::l,x,vs,A=>∃v vs' A1 A2,vs=v::vs'/\A=A1++A2/\Yo Y k e I w A1 v x.1/\IoR I w l x.2 vs' A2
 |.dat _::l,x,vs,A|.mob::l,x,vs,A|.del _::l,x,vs,A|.fn _ _::l,x,vs,A|.fbx _ _::l,x,vs,A=>IoR I w l x vs.tail A
def Wp(g:FuncId)(σ:Bd)(a:JK Y σ.args)(H:HH Y)(Q:MF Y σ.res->O6 Y σ.args->HH Y->Prop)(X:Vg Y):Prop:=∀(I:Cb)(w:World)(T A AH:Bi)(vs:List Value),ArR Y I w σ.args a vs A->Ip (Ra Y) I w H AH->St I w (AH++(A++T))->A8v Y g vs I w T (λI' w' r A' H'=>∃b io us A1 A2,A'=A1++A2/\r=LD us/\ReR Y I' w' σ.res b us A1/\IoR Y I' w' σ.args io vs A2/\Q b io H') X
structure B3 where
 I:Cb
 w:World
 n:Nat
 μ:Nat->Value
 φ:Fr
structure Le(g g':B3):Prop where
 ext:Ext g.I g.w g'.I g'.w
 n:g.n<=g'.n
 μ:∀i,i<g.n->g'.μ i=g.μ i
 φ:g'.φ=g.φ
structure Lx(g g':B3):Prop where
 ext:Ext g.I g.w g'.I g'.w
 n:g.n<=g'.n
 μ:∀i,i<g.n->g'.μ i=g.μ i
variable {a b:B3}
theorem Lx.trans{c:B3}(h:Lx a b)(k:Lx b c):Lx a c:=⟨h.ext.trans k.ext,b5 h.n k.n,λi d=>(k.μ i (a8 d h.n)).trans (h.μ i d)⟩
theorem Le.lx(h:Le a b):Lx a b:=⟨h.ext,h.n,h.μ⟩
theorem Lx.refl(g:B3):Lx g g:=⟨Ext.refl _ _,am _,λ_ _=>rfl⟩
theorem Le.refl(g:B3):Le g g:=⟨Ext.refl _ _,am _,λ_ _=>rfl,rfl⟩
theorem Le.trans{c:B3}(h:Le a b)(k:Le b c):Le a c:=⟨h.ext.trans k.ext,b5 h.n k.n,λi d=>(k.μ i (a8 d h.n)).trans (h.μ i d),k.φ.trans h.φ⟩
inductive AV where
 |dat (t:Ty) (x:den Y.D t)
 |nat (j:Nat)
 |prp (p:Prop) (d:Decidable p)
 |own (i:Nat)
 |adr (i o:Nat)
 |el (i:Nat) (t:Ty) (j o:Nat)
 |del (t:Ty) (x:den Y.D t) (o:Nat)
 |ptr (w:Nat) (p:Option Nat)
 |hp (w b o:Nat)
 |mob (b:Nat)
 |sub (i:Nat) (T:Ty) (lo:Nat)
 |val (v:Value)
 |ifc (t:TypeId) (T:Ty) (x:den Y.D T)
 |fn (aE rs:List Ty) (F:FT Y aE rs)
 |fbx (aE rs:List Ty) (F:FT Y aE rs)
inductive CU where
 |blk (cs:List (AV Y))
 |sl (t:Ty) (xs:List (den Y.D t))
 |mp (k e:Ty) (m:List (den Y.D k×den Y.D e))
 |tp (l:List (AV Y))
 |ag (cs:List (AV Y))
 |clo (g:FuncId) (fs cs:List (AV Y))
structure Opn where
 i:Nat
 b:Nat
 n:Nat
 x:Option (Y.O n)
structure Hs where
 w:Nat
 b:Nat
 n:Option Nat
structure Cf where
 fr:List (Nat×AV Y)
 sg:List (Nat×CU Y)
 nx:Nat
 H:HH Y
 op:Option (Opn Y)
 hs:List Hs
 pt:List Nat
variable {Y}
def AR(g:B3):AV Y->Value->Prop
 | .dat t x,v=>rp Y.toUS t g.I g.w v x
 | .nat j,v=>v=.int .i64 j/\j<=9223372036854775807
 | .prp p d,v=>v=.bool (@decide p d)
 | .own i,v=>i<g.n/\v=g.μ i
 | .adr i o,v=>i<g.n/\∃b,g.μ i=.pointer (δ ⟨b,0,τ⟩)/\v=.pointer (δ ⟨b,o,τ⟩)
 | .el i t j o,v=>i<g.n/\∃b off len cap,g.μ i=.slice (δ ⟨b,off,τ⟩) len cap/\v=.pointer (δ ⟨b,off+j*sz Y.toUS t+o,τ⟩)
 | .del t x o,v=>∃b off u,rp Y.toUS t g.I g.w u x/\Dn g.w ⟨b,off,τ⟩ u/\g.I b/\v=.pointer (δ ⟨b,off+o,τ⟩)
 | .ptr i p,v=>i<g.n/\g.μ i=v/\v=.pointer (p.map λb=>⟨b,0,τ⟩)
 | .hp i b o,v=>i<g.n/\g.μ i=.pointer (δ ⟨b,0,τ⟩)/\v=.pointer (δ ⟨b,o,τ⟩)
 | .mob b,v=>v=.map (δ b)
 | .sub i T lo,v=>i<g.n/\v=Yv (g.μ i) lo (sz Y.toUS T)/\∃a len cap,g.μ i=.slice a len cap/\lo<=len
 | .val u,v=>v=u
 | .ifc t T x,v=>∃u,v=.iface t u/\rp Y.toUS T g.I g.w u x
 | .fn aE rs F,v=>FvR Y aE rs F g.I g.w v
 | .fbx aE rs F,v=>FbR Y aE rs F g.I g.w v
theorem AR.mono{g g':B3}(h:Le g g'):∀{a:AV Y}{v:Value},AR g a v->AR g' a v
 | .dat _ _,_,r=>Ff h.ext r
 |.nat _,_,r|.prp _ _,_,r=>r
 |.own i,_,⟨c,d⟩|.adr i _,_,⟨c,d⟩|.el i _ _ _,_,⟨c,d⟩=>⟨a8 c h.n,by rw[h.μ i c];exact d⟩
 | .del _ _ _,_,⟨b,f,u,c,d,e,j⟩=>⟨b,f,u,Ff h.ext c,Dn.mono h.ext e d,h.ext.sub b e,j⟩
 |.ptr i _,_,⟨c,d,e⟩|.hp i _ _,_,⟨c,d,e⟩=>⟨a8 c h.n,by rw[h.μ i c];exact d,e⟩
 | .mob _,_,r=>r
 | .sub i _ _,_,⟨c,d⟩=>⟨a8 c h.n,by rw[h.μ i c];exact d⟩
 | .val _,_,r=>r
 | .ifc _ _ _,_,⟨u,c,d⟩=>⟨u,c,Ff h.ext d⟩
 | .fn _ _ _,_,r=>FvR.mono Y h.ext r
 | .fbx _ _ _,_,r=>FbR.mono Y h.ext r
def SR(g:B3)(i:Nat):CU Y->Bi->Prop
 | .blk cs,A=>∃b arr e,A=[(b,.cells arr e (0,0))]/\g.μ i=.pointer (δ ⟨b,0,τ⟩)/\F2 (λa v=>AR g a v/\v.oneCell'=ψ) cs arr.toList
 | .sl t xs,A=>OO Y t g.I g.w A (g.μ i) xs
 | .mp k e m,A=>Yo Y k e g.I g.w A (g.μ i) m
 | .tp l,A=>A=[]/\∃vs:List Value,g.μ i=.tuple ⟨vs⟩/\F2 (AR g) l vs
 | .ag cs,A=>A=[]/\∃vs:List Value,g.μ i=.agg ⟨vs⟩/\F2 (λa v=>AR g a v/\v.oneCell'=ψ) cs vs
 | .clo f l m,A=>A=[]/\∃vs us:List Value,g.μ i=.func (.func f) ⟨vs⟩ ⟨us⟩/\F2 (AR g) l vs/\F2 (AR g) m us
theorem SR.mono{g g':B3}(h:Le g g'){i:Nat}(hi:i<g.n):∀{s:CU Y}{A:Bi},SR g i s A->SR g' i s A
 | .blk _,_,⟨b,j,e,a,d,c⟩=>⟨b,j,e,a,by rw[h.μ i hi];exact d,c.mono λ_ _ r=>⟨r.1.mono h,r.2⟩⟩
 | .sl _ _,_,r=>by show OO _ _ _ _ _ _ _;rw[h.μ i hi];exact @Bw.mono _ (RT _ _) _ _ _ _ _ _ _ h.ext r
 | .mp _ _ _,_,r=>by show Yo _ _ _ _ _ _ _ _;rw[h.μ i hi];exact @C3.mono _ _ (RT _ _) (RT _ _) _ _ _ _ _ _ _ r h.ext
 | .tp _,_,⟨a,f,d,c⟩=>⟨a,f,by rw[h.μ i hi];exact d,c.mono λ_ _ r=>r.mono h⟩
 | .ag _,_,⟨a,f,d,c⟩=>⟨a,f,by rw[h.μ i hi];exact d,c.mono λ_ _ r=>⟨r.1.mono h,r.2⟩⟩
 | .clo _ _ _,_,⟨a,f,k,d,c,l⟩=>⟨a,f,k,by rw[h.μ i hi];exact d,c.mono λ_ _ r=>r.mono h,l.mono λ_ _ r=>r.mono h⟩
def F3(g:B3):List (Nat×CU Y)->Bi->Prop
 | [],A=>A=[]
 |p::l,A=>∃A1 A2,A=A1++A2/\p.1<g.n/\SR g p.1 p.2 A1/\F3 g l A2
theorem F3.mono{g g':B3}(h:Le g g'):∀{l:List (Nat×CU Y)}{A:Bi},F3 g l A->F3 g' l A
 | [],_,r=>r
 |_::_,_,⟨c,d,e,a,b,f⟩=>⟨c,d,e,a8 a h.n,b.mono h a,F3.mono h f⟩
def IT:List (Nat×CU Y)->Nat->Option (CU Y)
 | [],_=>τ
 |p::l,i=>if p.1=i then δ p.2 else IT l i
def G4:List (Nat×CU Y)->Nat->List (Nat×CU Y)
 | [],_=>[]
 |p::l,i=>if p.1=i then l else p::G4 l i
def Iz:List (Nat×AV Y)->Nat->Option (AV Y)
 | [],_=>τ
 |p::l,i=>if p.1=i then δ p.2 else Iz l i
theorem F3.take{g:B3}{i:Nat}{s:CU Y}:∀{l:List (Nat×CU Y)}{A:Bi},F3 g l A->IT l i=δ s->∃A1 A2,A.Perm (A1++A2)/\i<g.n/\SR g i s A1/\F3 g (G4 l i) A2
 | [],_,_,h=>by grind[IT]
 |p::l,A,⟨A1,A2,f,d,c,e⟩,h=>by
  unfold IT at h;by_cases a:p.1=i
  .rw[UV a]at h;cases h;subst a;exact⟨A1,A2,f▸bz _,d,c,by rw[G4,UV rfl];exact e⟩
  .rw[GT a]at h;obtain⟨k,b,m,o,n,j⟩:=F3.take e h;refine⟨k,A1++b,?_,o,n,by rw[G4,GT a];exact⟨A1,b,rfl,d,c,j⟩⟩;subst f;refine(m.append_left A1).trans ?_;rw[<-a0,<-a0];exact ar.append_right _
def HR(g:B3)(H:HH Y)(_:List (Nat×CU Y))(AH:Bi):Option (Opn Y)->Prop
 |none=>Ip (Ra Y) g.I g.w H AH
 |some o=>HpX (Ra Y) g.I g.w H o.b AH/\(∀x,o.x=δ x->H o.b=δ (.st o.n x))/\o.i<g.n/\g.μ o.i=.pointer (δ ⟨o.b,0,τ⟩)
theorem HR.mono{g g':B3}(h:Le g g'){H:HH Y}{sg sg':List (Nat×CU Y)}{AH:Bi}:∀{o:Option (Opn Y)},HR g H sg AH o->HR g' H sg' AH o
 |none,r=>Ip.mono r h.ext
 |some _,⟨d,b,a,c⟩=>⟨d.mono h.ext,b,a8 a h.n,by rw[h.μ _ a];exact c⟩
def HsR(g:B3)(l:List Hs):Prop:=∀h∈l,h.w<g.n/\g.μ h.w=.pointer (δ ⟨h.b,0,τ⟩)
theorem HsR.mono{g g':B3}(h:Le g g'){l:List Hs}(r:HsR g l):HsR g' l:=λx a=>⟨a8 (r x a).1 h.n,by rw[h.μ _ (r x a).1];exact(r x a).2⟩
def lkH:List Hs->Nat->Option Hs
 | [],_=>τ
 |h::l,w=>if h.w=w then δ h else lkH l w
theorem Abk{w:Nat}{h:Hs}:∀{l:List Hs},lkH l w=δ h->h∈l/\h.w=w
 | [],e=>by simp [lkH]at e
 |x::l,e=>by
  unfold lkH at e;by_cases a:x.w=w
  .rw[UV a]at e;cases e;exact⟨c7,a⟩
  .rw[GT a]at e;exact⟨List.mem_cons_of_mem _ (Abk e).1,(Abk e).2⟩
def N0(i:Nat):List Nat->Bool
 | []=>χ
 |j::l=>Nat.beq i j ||N0 i l
theorem Le.pt{g g':B3}(h:Le g g'){l:List Nat}{f:Fr}(p:∀t,N0 t l=ψ->f t=g.φ t):∀t,N0 t l=ψ->f t=g'.φ t:=λt a=>by rw[h.φ];exact p t a
end
end
section
section
variable {Y:Sys}
structure RG(g0:B3)(T:Bi)(c:Cf Y)(f:Fr)(g:B3)(AH A:Bi):Prop where
 n:g.n=c.nx
 le:Ext g0.I g0.w g.I g.w
 st:St g.I g.w (AH++(A++T))
 hr:HR g c.H c.sg AH c.op
 sg:F3 g c.sg A
 hs:HsR g c.hs
 pt:∀t,N0 t c.pt=ψ->f t=g.φ t
 fr:∀i a,Iz c.fr i=δ a->AR g a (f i)
def Cf.set(c:Cf Y)(d:Nat)(a:AV Y):Cf Y:={c with fr:=(d,a)::c.fr}
variable {g0 g:B3} {T AH A:Bi} {c:Cf Y} {f:Fr} {a:AV Y} {v:Value}
theorem RG.set{N d:Nat}(h:RG g0 T c f g AH A)(k:(cu d N&&!N0 d c.pt)=ψ)(q:AR g a v):RG g0 T (c.set d a) (DO N f d v) g AH A where
 n:=h.n
 le:=h.le
 st:=h.st
 hr:=h.hr
 sg:=h.sg
 hs:=h.hs
 pt t p:=by
  simp only[a2,aw]at k;have:t≠d:=λe=>by subst e;have l:N0 t c.pt=ψ:=p;grind
  rw[show DO N f d v t=f t from GT this];exact h.pt t p
 fr i b j:=by
  simp only[a2,ck]at k;have o:d<N:=k.1;unfold Cf.set Iz at j;by_cases m:d=i
  .grind[DO]
  .rw[GT m]at j;have:DO N f d v i=f i:=GT (Ne.symm m);rw[this];exact h.fr i b j
theorem RG.cons(h:RG g0 T c f g AH A){d:Nat}(k:AR g a (f d)):RG g0 T (c.set d a) f g AH A where
 n:=h.n
 le:=h.le
 st:=h.st
 hr:=h.hr
 sg:=h.sg
 hs:=h.hs
 pt:=h.pt
 fr i b e:=by
  unfold Cf.set Iz at e;by_cases j:d=i
  .grind
  .rw[GT j]at e;exact h.fr i b e
def B3.new(g:B3)(w:World)(v:Value):B3:={g with w:=w,n:=g.n+1,μ:=λj=>if j=g.n then v else g.μ j}
variable {w:World}
theorem Le.new(h:Ext g.I g.w g.I w):Le g (g.new w v):=⟨h,Nat.le_succ _,λ_ a=>GT (Nat.ne_of_lt a),rfl⟩
theorem B3.BA(g:B3)(w:World)(v:Value):(g.new w v).μ g.n=v:=UV rfl
theorem FU{B C:Bi}(h:A.Perm (B++C))(a:Bi):(a++(A++T)).Perm (B++(a++(C++T))):=by refine((h.append_right T).append_left a).trans ?_;rw[a0,<-a0 a,<-a0 B];exact ar.append_right _
theorem RG.new(h:RG g0 T c f g AH A){w':World}{s:CU Y}{A1:Bi}(e:Ext g.I g.w g.I w')(hs:SR (g.new w' v) g.n s A1)(d:St g.I w' (A1++(AH++(A++T)))):RG g0 T {c with sg:=(c.nx,s)::c.sg,nx:=c.nx+1} f (g.new w' v) AH (A1++A):=by have b:=Le.new (v:=v) e;refine⟨by show g.n+1=c.nx+1;rw[h.n],h.le.trans b.ext,d.perm (FU (bz _) AH).symm,h.hr.mono b,⟨A1,A,rfl,by show c.nx<g.n+1;rw[h.n];omega,by rw[<-h.n];exact hs,h.sg.mono b⟩,h.hs.mono b,b.pt h.pt,λj a i=>(h.fr j a i).mono b⟩
def E9(c:Cf Y):Operand->Option (AV Y)
 | .tmp t=>Iz c.fr t
 | .const v=>δ (.val v)
 | .global b=>δ (.val (.pointer (δ ⟨b,0,τ⟩)))
 | .func q=>δ (.val (.func (.func q) #[] #[]))
theorem RG.ev(h:RG g0 T c f g AH A){x:Operand}(d:E9 c x=δ a):AR g a (ev f x):=by
 cases x with
 |tmp t=>exact h.fr t a d
 |const v|global b|func q=>cases d;rfl
def kno(c:Cf Y)(z:Operand)(b:Bool):Cf Y:=match z with
 | .tmp t=>c.set t (.val (.bool b))
 |_=>c
theorem Abo(h:RG g0 T c f g AH A){z:Operand}{b:Bool}(d:ev f z=.bool b):RG g0 T (kno c z b) f g AH A:=by
 unfold kno;split
 .exact h.cons (a:=.val (.bool b)) d
 omega
def asInt:AV Y->Option (IntKind×Int)
 | .dat (.int k) n=>δ (k,n)
 | .nat j=>δ (.i64,(j:Int))
 | .val (.int k n)=>δ (k,n)
 |_=>τ
theorem Ge{p:IntKind×Int}(h:asInt a=δ p)(b:AR g a v):v=.int p.1 p.2:=by
 unfold asInt at h;split at h
 .cases h;exact(AS.1 b).1
 .cases h;exact b.1
 .cases h;exact b
 grind
def Az9:AV Y->Prop
 | .dat (.int k) n=>Bl k n
 | .nat j=>j<=9223372036854775807
 |_=>True
theorem Auk(b:AR g a v):Az9 a:=by
 unfold Az9;split
 .exact(AS.1 b).2
 .exact b.2
 simp
inductive BV where
 |kn (b:Bool)
 |pr (p:Prop) (d:Decidable p)
def BV.val:BV->Bool
 | .kn b=>b
 | .pr p d=>@decide p d
def asB:AV Y->Option BV
 | .dat .bool b=>δ (.pr (b=ψ) inferInstance)
 | .prp p d=>δ (.pr p d)
 | .val (.bool b)=>δ (.kn b)
 |_=>τ
theorem O4{p:BV}(h:asB a=δ p)(c:AR g a v):v=.bool p.val:=by
 unfold asB at h;split at h
 .cases h;rename_i b;have:=HQ.1 c;rw[this];cases b<;>rfl
 .cases h;exact c
 .cases h;exact c
 grind
def Aui:Option (AV Y)->Bool
 |some (.val (.bool _))=>χ
 |some (.val _)=>ψ
 |_=>χ
theorem Ai9{a:Option (AV Y)}(h:Aui a=ψ)(c:∀b,a=δ b->AR g b v):∀b,v≠.bool b:=by
 intro b e;unfold Aui at h;split at h
 .cases h
 .rename_i u d;have:v=u:=c _ rfl;grind
 grind
def Ab5:(t:Ty)->Value->Option (den Y.D t)
 | .int k,.int j n=>if j=k/\k.min<=n/\n<=k.max then δ n else τ
 | .bool,.bool b=>δ b
 | .str,.string s=>if s.size<=9223372036854775807 then δ s else τ
 |.ptr,.pointer τ|.mref,.map τ=>δ τ
 | .sl _,.slice τ 0 0=>δ []
 |_,_=>τ
variable {I:Cb}
theorem ZJ:∀{t:Ty}{v:Value}{x:den Y.D t},Ab5 t v=δ x->rp Y.toUS t I w v x:=by
 intro t v x h;unfold Ab5 at h;split at h
 .split at h
  .rename_i a;cases h;exact AS.2 ⟨by rw[a.1],a.2⟩
  grind
 .cases h;exact HQ.2 rfl
 .split at h
  .rename_i a;cases h;exact Nv.2 ⟨rfl,a⟩
  grind
 .cases h;exact Mf.2 rfl
 .cases h;exact LC.2 rfl
 .cases h;exact Te.2 ⟨τ,0,rfl,am _,cd _,.inl rfl⟩
 grind
def LJ:List Ty->List Value->Option (List (Lf Y.D))
 | [],[]=>δ []
 |t::ts,v::vs=>match Ab5 t v,LJ ts vs with
  |some x,δ l=>δ (⟨t,x⟩::l)
  |_,_=>τ
 |_,_=>τ
theorem MB{I:Cb}{w:World}:∀{ts:List Ty}{vs:List Value}{l:List (Lf Y.D)},LJ ts vs=δ l->F2 (λc(l:Lf Y.D)=>rp Y.toUS l.t I w c l.x) vs l
 | [],[],l,h=>by cases h;exact .nil
 |t::ts,v::vs,l,h=>by
  unfold LJ at h;split at h
  .rename_i x d a b;cases h;exact .cons (ZJ a) (MB b)
  grind
 |[],_::_,_,h|_::_,[],_,h=>by grind[LJ]
def UX:(t:Ty)->Value->Option (den Y.D t)
 | .u n,.agg cs=>(LJ (Y.sig n) cs.toList).bind (Y.Akr n)
 |t,v=>Ab5 t v
variable {t:Ty}
theorem QX{x:den Y.D t}(h:UX t v=δ x):rp Y.toUS t I w v x:=by
 unfold UX at h;split at h
 .rename_i n b;cases a:LJ (Y:=Y) (Y.sig n) b.toList with
  |none=>grind
  |some l=>
   rw[a]at h;have c:=Y.SN n l x h;exact HO.2 ⟨b.toList,rfl,by rw[c];exact MB a⟩
 grind[ZJ]
def VS(t:Ty):AV Y->Option (den Y.D t)
 | .dat t' x=>match Ty.dec t' t with
  | .isTrue h=>δ (h▸x)
  | .isFalse _=>τ
 | .nat j=>match t with
  | .int .i64=>δ (j:Int)
  |_=>τ
 | .prp p d=>match t with
  | .bool=>δ (@decide p d)
  |_=>τ
 | .ptr _ p=>match t with
  | .ptr=>δ p
  |_=>τ
 | .hp _ b o=>match t,o with
  | .ptr,0=>δ (δ b)
  |_,_=>τ
 | .val v=>UX t v
 |_=>τ
theorem Dm{x:den Y.D t}(h:VS t a=δ x)(b:AR g a v):rp Y.toUS t g.I g.w v x:=by
 unfold VS at h;split at h
 .split at h
  .rename_i e _;subst e;cases h;exact b
  grind
 .split at h
  .cases h;refine AS.2 ⟨b.1,?_⟩;have d:IntKind.i64.min=-9223372036854775808:=by decide
   have c:IntKind.i64.max=9223372036854775807:=by decide
   have:=b.2;grind[Bl]
  grind
 .split at h
  .cases h;exact HQ.2 b
  grind
 .split at h
  .cases h;exact Mf.2 b.2.2
  grind
 .split at h
  .cases h;exact Mf.2 b.2.2
  grind
 .obtain rfl:v=_:=b;exact QX h
 grind
def Aer:(t:Ty)->den Y.D t->List (Lf Y.D)
 | .u n,x=>Y.flat n x
 | .int k,x=>[⟨.int k,x⟩]
 | .bool,x=>[⟨.bool,x⟩]
 | .str,x=>[⟨.str,x⟩]
 | .ptr,x=>[⟨.ptr,x⟩]
 | .mref,x=>[⟨.mref,x⟩]
 | .sl e,x=>[⟨.sl e,x⟩]
def Za:(t:Ty)->List (Lf Y.D)->Option (den Y.D t)
 | .u n,l=>Y.Akr n l
 |t,[⟨t',x⟩]=>match Ty.dec t' t with
  | .isTrue h=>δ (h▸x)
  | .isFalse _=>τ
 |_,_=>τ
theorem Aeq{x:den Y.D t}(h:rp Y.toUS t I w v x):F2 (λc(l:Lf Y.D)=>rp Y.toUS l.t I w c l.x) v.cells.toList (Aer t x):=by
 cases t with
 |u n=>obtain⟨b,rfl,a⟩:=HO.1 h;exact a
 |_=>rw[(K0 rfl h).1];exact .cons h .nil
theorem Acr{cs:List Value}{l:List (Lf Y.D)}{x:den Y.D t}(h:Za t l=δ x)(i:F2 (λc(l:Lf Y.D)=>rp Y.toUS l.t I w c l.x) cs l):∃v,v.cells=⟨cs⟩/\rp Y.toUS t I w v x/\(if isU t then v=.agg ⟨cs⟩ else ∃u,v=u/\cs=[u]):=by
 unfold Za at h;split at h
 .rename_i n;have d:=Y.SN n _ x h;exact⟨.agg ⟨cs⟩,rfl,HO.2 ⟨cs,rfl,by grind⟩,rfl⟩
 .rename_i j f y a;split at h
  .rename_i e _;subst e;cases h;cases i with
   |cons g d=>
    cases d;rename_i c;have b:f.leaf=ψ:=by cases f<;>first|rfl|grind
    refine⟨c,(K0 b g).1,g,?_⟩;cases f<;>first|exact⟨c,rfl,rfl⟩|grind
  grind
 grind
end
end
section
def Fx(b:Bool)(p:Prop):Prop:=match b with
 |true=>p
 |false=>False
theorem AJ{b:Bool}{p:Prop}(h:Fx b p):b=ψ/\p:=by
 cases b with
 |true=>exact⟨rfl,h⟩
 |false=>exact h.elim
structure Sx(g:B3)(w':World):Prop where
 ext:Ext g.I g.w g.I w'
theorem Sx.BX{g:B3}{w':World}(h:Sx g w'):∀b,g.I b->w'.heap[b]?=g.w.heap[b]?:=h.ext.BX
theorem Sx.refl(g:B3):Sx g g.w:=⟨Ext.refl _ _⟩
theorem Sx.points{g:B3}{w':World}(h:Sx g w'){a:Addr}{v:Value}(c:g.I a.block)(b:Dn g.w a v):Dn w' a v:=⟨b.1,λj d=>(cell?_of_heap (a:=⟨a.block,a.off+j,τ⟩) (h.BX _ c)).trans (b.2 j d)⟩
def LQ(P:Program)(f:Fr)(op:Op)(ty:TypeId)(v:Value)(w:World):Prop:=∀dst pos af gd,(execOp (ev f) ⟨dst,op,ty,pos,af,gd⟩).run P w=.ok (.value v) w
theorem Az{P:Program}{f:Fr}{op:Op}{ty:TypeId}{v:Value}{w:World}(h:∀(a:String)(b:Array Edge)(K:Fr->World->Prop),K (put 1 f (δ 0) v) w->WL P 1 #[] (λ_ _=>False) ψ K [⟨δ 0,op,ty,a,b,τ⟩] f w):LQ P f op ty v w:=by
 intro l a b n;have c:=h a b (λk m=>k 0=v/\m=w) ⟨rfl,rfl⟩;simp only[WL,Region.wanted,if_true]at c;obtain⟨e,o,d,g,i⟩:=Aca _ c;have j:e=v:=by simp_all[put,DO]
 rw[j,i]at d;exact d
section
variable {Y:Sys}
def A2x(P:Program)(t:TypeId)(i:Nat):Option Nat:=match P.underlying t with
 |some (.struct fs)=>(fs[i]?).map (·.offset)
 |_=>τ
def slI(P:Program)(t:TypeId):Option (TypeId×Nat):=match P.underlying t with
 |some (.slice e)=>(P.info? e).map λi=>(e,i.bytes)
 |_=>τ
def ixA(a:AV Y)(len:Nat)(k:(j:Nat)->j<len->Prop):Prop:=match a with
 | .nat j=>∃h:j<len,k j h
 |a=>match asInt a with
  |some (_,n)=>(Az9 a->0<=n)/\∃h:n.toNat<len,k n.toNat h
  |none=>False
variable {g:B3} {a:AV Y}
theorem Xv{v:Value}{len:Nat}{k:(j:Nat)->j<len->Prop}(d:AR g a v)(h:ixA a len k):∃kd j,v=.int kd (j:Nat)/\∃hj:j<len,k j hj:=by
 unfold ixA at h;split at h
 .obtain⟨b,c⟩:=h;exact⟨_,_,d.1,b,c⟩
 .split at h
  .rename_i kd n e;obtain⟨f,b,c⟩:=h;have:=Ge e d;refine⟨kd,n.toNat,?_,b,c⟩;rw[this,Int.toNat_of_nonneg (f (Auk d))]
  grind
def isK:Operand->Bool
 | .const _=>ψ
 |_=>χ
def Lq(x:Operand)(a:AV Y)(p:Prop):Prop:=match isK x with
 |true=>p
 |false=>match a with
  | .dat (.int k) n=>Bl k n->p
  | .nat j=>j<=9223372036854775807->p
  |_=>p
variable {x:Operand}
theorem Fi{v:Value}{p:Prop}(b:AR g a v)(h:Lq x a p):p:=by
 unfold Lq at h;split at h
 .exact h
 .split at h
  .exact h (AS.1 b).2
  .exact h b.2
  omega
def YN:BinOp->Int->Int->(p:Prop)×(Decidable p)
 | .eql,a,b=>⟨a=b,inferInstance⟩
 | .neq,a,b=>⟨¬a=b,inferInstance⟩
 | .lss,a,b=>⟨a<b,inferInstance⟩
 | .leq,a,b=>⟨a<=b,inferInstance⟩
 | .gtr,a,b=>⟨b<a,inferInstance⟩
 |_,a,b=>⟨b<=a,inferInstance⟩
def arI(op:BinOp)(k:IntKind)(a b:Int)(K:Int->Prop):Prop:=match op with
 | .add=>Bl k (a+b)/\K (a+b)
 | .sub=>Bl k (a-b)/\K (a-b)
 | .mul=>Bl k (a*b)/\K (a*b)
 | .quo=>b≠0/\Bl k (a.tdiv b)/\K (a.tdiv b)
 | .rem=>b≠0/\Bl k (a.tmod b)/\K (a.tmod b)
 | .and=>K (GI .and k a b)
 | .or=>K (GI .or k a b)
 | .xor=>K (GI .xor k a b)
 |_=>False
def arW(op:BinOp)(k:IntKind)(a b:Int)(K:Int->Prop):Prop:=match op with
 | .add=>K (k.wrap (a+b))
 | .sub=>K (k.wrap (a-b))
 | .mul=>K (k.wrap (a*b))
 | .quo=>b≠0/\Bl k (a.tdiv b)/\K (a.tdiv b)
 | .rem=>b≠0/\Bl k (a.tmod b)/\K (a.tmod b)
 | .and=>K (GI .and k a b)
 | .or=>K (GI .or k a b)
 | .xor=>K (GI .xor k a b)
 |_=>False
def A66:IntKind->Bool
 | .i64=>ψ
 |_=>χ
variable {P:Program} {f:Fr} {op:BinOp} {kd:IntKind} {b:Int} {K:Int->Prop} {y:Operand} {t u ty:TypeId}
theorem A1l{a:Int}(h:arI op kd a b K)(hx:ev f x=.int kd a)(hy:ev f y=.int kd b):∃n,K n/\Bl kd n/\∀w,LQ P f (.binOp op t x y u) ty (.int kd n) w:=by
 unfold arI at h;split at h
 .exact⟨_,h.2,h.1,λw=>Az λpos af K' hk=>Ai0 hx hy (by rw[FO h.1];exact hk)⟩
 .exact⟨_,h.2,h.1,λw=>Az λpos af K' hk=>Awm hx hy (by rw[FO h.1];exact hk)⟩
 .exact⟨_,h.2,h.1,λw=>Az λpos af K' hk=>Awp hx hy (by rw[FO h.1];exact hk)⟩
 .exact⟨_,h.2.2,h.2.1,λw=>Az λpos af K' hk=>Ao6 hx hy h.1 h.2.1 hk⟩
 .exact⟨_,h.2.2,h.2.1,λw=>Az λpos af K' hk=>Ao5 hx hy h.1 h.2.1 hk⟩
 .exact⟨_,h,QQ,λw=>Az λpos af K' hk=>Awq hx hy hk⟩
 .exact⟨_,h,QQ,λw=>Az λpos af K' hk=>A21 hx hy hk⟩
 .exact⟨_,h,QQ,λw=>Az λpos af K' hk=>Awl hx hy hk⟩
 grind
theorem Arq{a:Int}(h:arW op kd a b K)(hx:ev f x=.int kd a)(hy:ev f y=.int kd b):∃n,K n/\Bl kd n/\∀w,LQ P f (.binOp op t x y u) ty (.int kd n) w:=by
 unfold arW at h;split at h
 .exact⟨_,h,Jy _ _,λw=>Az λpos af K' hk=>Ai0 hx hy hk⟩
 .exact⟨_,h,Jy _ _,λw=>Az λpos af K' hk=>Awm hx hy hk⟩
 .exact⟨_,h,Jy _ _,λw=>Az λpos af K' hk=>Awp hx hy hk⟩
 .exact⟨_,h.2.2,h.2.1,λw=>Az λpos af K' hk=>Ao6 hx hy h.1 h.2.1 hk⟩
 .exact⟨_,h.2.2,h.2.1,λw=>Az λpos af K' hk=>Ao5 hx hy h.1 h.2.1 hk⟩
 .exact⟨_,h,QQ,λw=>Az λpos af K' hk=>Awq hx hy hk⟩
 .exact⟨_,h,QQ,λw=>Az λpos af K' hk=>A21 hx hy hk⟩
 .exact⟨_,h,QQ,λw=>Az λpos af K' hk=>Awl hx hy hk⟩
 grind
theorem Aj6(g:PI op=ψ){a:Int}(c:ev f x=.int kd a)(d:ev f y=.int kd b)(w:World):LQ P f (.binOp op t x y u) ty (.bool (@decide (YN op a b).1 (YN op a b).2)) w:=Az λi k j e=>by
 cases op<;>first|(simp [PI]at g;done)|skip
 .exact Ay4 c d e
 .refine Ao7 c d ?_;have:(!ξ (a=b))=@decide (YN .neq a b).1 (YN .neq a b).2:=by simp only[YN];by_cases h:a=b<;>simp [h]
  rw[this];exact e
 .exact Ao8 c d e
 .exact Ay1 c d e
 .exact Ay2 c d e
 .exact Ay3 c d e
def shI(op:BinOp)(k:IntKind)(a b:Int)(K:Int->Prop):Prop:=match op with
 | .shl=>0<=b/\K (k.wrap (a*2^(min b.toNat k.bits)))
 | .shr=>0<=b/\K (a.fdiv (2^(min b.toNat k.bits)))
 |_=>False
def A65:BinOp->Bool
 | .shl | .shr=>ψ
 |_=>χ
theorem Ax9{kd2:IntKind}{a:Int}(h:shI op kd a b K)(hx:ev f x=.int kd a)(hy:ev f y=.int kd2 b)(ha:op=.shr->Bl kd a):∃n,K n/\Bl kd n/\∀w,LQ P f (.binOp op t x y u) ty (.int kd n) w:=by
 unfold shI at h;split at h
 .exact⟨_,h.2,Jy _ _,λw=>Az λpos af K' hk=>A20 hx hy h.1 hk⟩
 .exact⟨_,h.2,Aul (ha rfl) h.1,λw=>Az λpos af K' hk=>A2z hx hy h.1 hk⟩
 grind
def GG(P:Program)(t:TypeId)(q:TypeDesc->Bool):Bool:=match P.underlying t with
 |some d=>q d
 |none=>χ
def Aj1:TypeDesc->Bool
 | .bool=>ψ
 |_=>χ
def Ava:TypeDesc->Bool
 | .pointer _=>ψ
 |_=>χ
def Au9:TypeDesc->Bool
 | .string=>ψ
 |_=>χ
def Aq1(k:IntKind):TypeDesc->Bool
 | .int j=>j==k
 |_=>χ
theorem Zc(h:GG P t Aj1=ψ):P.underlying t=δ .bool:=by grind[GG,Aj1]
theorem Acs(h:GG P t Au9=ψ):P.underlying t=δ .string:=by grind[GG,Au9]
theorem Acu(h:GG P t Ava=ψ):∃e,P.underlying t=δ (.pointer e):=by
 unfold GG at h;split at h
 .rename_i d hd;cases d<;>simp [Ava]at h;grind
 grind
theorem W2{k:IntKind}(h:GG P t (Aq1 k)=ψ):P.underlying t=δ (.int k):=by
 unfold GG at h;split at h
 .rename_i d hd;cases d<;>simp [Aq1]at h;grind
 grind
def asS(a:AV Y):Option ByteArray:=VS .str a
def asP(a:AV Y):Option (Option Nat):=VS .ptr a
def dFn:TypeDesc->Bool
 | .func _ _ _=>ψ
 |_=>χ
theorem Aia(h:GG P t dFn=ψ):∃a b c,P.underlying t=δ (.func a b c):=by
 unfold GG at h;split at h
 .rename_i d hd;cases d<;>simp [dFn]at h;grind
 grind
theorem Py{w:World}{g:Fn}{p q:Array Value}(n:Nat)(d:∃a b c,P.underlying t=δ (.func a b c)):(Op.equalIn (n+1) t (.func g p q) .nilFunc).run P w=.ok χ w:=by obtain⟨e,f,h,d⟩:=d;simp [Op.equalIn,run_underlying d]
theorem Aci{g:Fn}{p q:Array Value}{b:Bool}(h:∃a b c,P.underlying t=δ (.func a b c))(e:ev f x=.func g p q)(d:ev f y=.nilFunc)(k:(op=.eql/\b=χ)∨(op=.neq/\b=ψ))(w:World):LQ P f (.binOp op t x y u) ty (.bool b) w:=by
 intro j l m n;have i:∀op:BinOp,(eqGuard op t x y (.func g p q) .nilFunc).run P w=.ok () w:=λop=>by simp only[eqGuard];cases op<;>simp
 rcases k with ⟨rfl,rfl⟩|⟨rfl,rfl⟩
 .simp only[execOp,e,d,Sem.run_bind,i,Result.andThen_ok,binOp,Op.equal,Op.maxDepth,Py 9999 h,Sem.run_pure]
 .simp only[execOp,e,d,Sem.run_bind,i,Result.andThen_ok,binOp,Op.equal,Op.maxDepth,Py 9999 h,Sem.run_pure,Bool.not_false]
def gtS(s r:ByteArray):Bool:=!(Op.bytesLess s.toList r.toList ||s.toList==r.toList)
def eqX(P:Program)(op:BinOp)(t:TypeId)(a b:AV Y)(k:AV Y->Prop):Prop:=match asB a,asB b with
 |some p,δ q=>match op with
  | .eql=>Fx (GG P t Aj1) (k (.dat .bool (p.val==q.val)))
  | .neq=>Fx (GG P t Aj1) (k (.dat .bool (!(p.val==q.val))))
  |_=>False
 |_,_=>match asS a,asS b with
  |some s,δ r=>match op with
   | .eql=>k (.prp (s=r) inferInstance)
   | .neq=>k (.prp (¬s=r) inferInstance)
   | .gtr=>k (.dat .bool (gtS s r))
   |_=>False
  |_,_=>match asP a,b with
   |some p,.val (.pointer τ)=>match op with
    | .eql=>Fx (GG P t Ava) (k (.prp (p=τ) inferInstance))
    | .neq=>Fx (GG P t Ava) (k (.prp (¬p=τ) inferInstance))
    |_=>False
   |_,_=>match a,b with
    | .fn _ _ _,.val .nilFunc=>match op with
     | .eql=>Fx (GG P t dFn) (k (.val (.bool χ)))
     | .neq=>Fx (GG P t dFn) (k (.val (.bool ψ)))
     |_=>False
    |_,_=>False
theorem A0o{b:AV Y}{k:AV Y->Prop}(h:eqX P op t a b k)(z:AR g a (ev f x))(o:AR g b (ev f y)):∃v c,k c/\AR g c v/\∀w,LQ P f (.binOp op t x y u) ty v w:=by
 unfold eqX at h;split at h
 .rename_i p q A C;have i:=O4 A z;have l:=O4 C o;split at h
  .obtain⟨j,h⟩:=AJ h;exact⟨_,_,h,HQ.2 rfl,λw=>Az λe n m d=>A3d i l (Zc j) d⟩
  .obtain⟨j,h⟩:=AJ h;exact⟨_,_,h,HQ.2 rfl,λw=>Az λe n m d=>A25 i l (Zc j) d⟩
  grind
 .split at h
  .rename_i s r D E;have i:=(Nv.1 (Dm D z)).1;have l:=(Nv.1 (Dm E o)).1;split at h
   .exact⟨_,_,h,rfl,λw=>Az λe n m d=>A3a i l d⟩
   .exact⟨_,_,h,rfl,λw=>Az λe n m d=>A22 i l d⟩
   .exact⟨_,_,h,HQ.2 rfl,λw=>Az λe n m d=>Ao (by simp only[execOp,i,l,Sem.run_bind,UH,Result.andThen_ok,binOp,Op.stringOp,Sem.run_pure];rfl) d⟩
   grind
  .split at h
   .rename_i p A _ _;have i:rep (α:=Option Nat) g.I g.w (ev f x) p:=Mf.1 (Dm A z);split at h
    .obtain⟨j,h⟩:=AJ h;exact⟨_,_,h,rfl,λw=>Az λe n m d=>A3b (I:=g.I) (Acu j) i rfl o d⟩
    .obtain⟨j,h⟩:=AJ h;exact⟨_,_,h,rfl,λw=>Az λe n m d=>A24 (I:=g.I) (Acu j) i rfl o d⟩
    grind
   .split at h
    .obtain⟨⟨q,B,F,i⟩,_⟩:=z;have l:ev f y=.nilFunc:=o;split at h
     .obtain⟨j,h⟩:=AJ h;exact⟨_,_,h,rfl,λw=>Aci (Aia j) i l (.inl ⟨rfl,rfl⟩) w⟩
     .obtain⟨j,h⟩:=AJ h;exact⟨_,_,h,rfl,λw=>Aci (Aia j) i l (.inr ⟨rfl,rfl⟩) w⟩
     grind
    grind
def eqU(op:BinOp)(t:TypeId)(a b:AV Y)(k:AV Y->Prop):Prop:=match a with
 | .dat (.u n) x=>match VS (.u n) b with
  |some y=>Fx (Y.eqs t (.u n)) (match op with
   | .eql=>k (.prp (x=y) (Gz Y.toUS Y.deq (.u n) x y))
   | .neq=>k (.prp (¬x=y) (@instDecidableNot _ (Gz Y.toUS Y.deq (.u n) x y)))
   |_=>False)
  |none=>False
 |_=>False
theorem A0p{b:AV Y}{k:AV Y->Prop}(h:eqU op t a b k)(H:AR g a (ev f x))(G:AR g b (ev f y)):∃v c,k c/\AR g c v/\∀w,LQ Y.P f (.binOp op t x y u) ty v w:=by
 unfold eqU at h;split at h
 .rename_i n d;split at h
  .rename_i e C;obtain⟨A,h⟩:=AJ h;obtain⟨D,E⟩:=Y.Aw5 t _ A;have r:rp Y.toUS (.u n) g.I g.w (ev f x) d:=H;have s:=Dm C G;obtain⟨I,j,_⟩:=HO.1 r;obtain⟨J,i,_⟩:=HO.1 s;have p:∀(op:BinOp)(w:World),(eqGuard op t x y (ev f x) (ev f y)).run Y.P w=.ok () w:=λop w=>by rw[j,i];simp only[eqGuard];cases op<;>simp [Sem.run_bind,run_program,D]
   have m:=E _ _ _ _ _ _ r s;rw[j,i]at m p;split at h
   .exact⟨_,_,h,rfl,λw q o F B=>by simp_all[execOp,Sem.run_bind,Result.andThen_ok,binOp]⟩
   .exact⟨_,_,h,rfl,λw q o F B=>by
     have:(!(@decide (d=e) (Gz Y.toUS Y.deq (.u n) d e)))=@decide (¬d=e) (@instDecidableNot _ (Gz Y.toUS Y.deq (.u n) d e)):=by simp
     simp_all[execOp,Sem.run_bind,Result.andThen_ok,binOp]⟩
   grind
  grind
 grind
end
end
section
section
variable {Y:Sys}
variable {w:World} {b off o:Nat} {u v:Value}
theorem WU{n:Nat}(hp:Dn w ⟨b,off,τ⟩ u)(hv:v.cells.toList=(u.cells.toList.drop o).take n):Dn w ⟨b,off+o,τ⟩ v:=by
 refine⟨rfl,λj hj=>?_⟩;have h1:v.cells[j]?=((u.cells.toList.drop o).take n)[j]?:=by rw[<-hv,a4]
 have hjn:j<n/\o+j<u.cells.size:=by grind
 have h2:((u.cells.toList.drop o).take n)[j]?=u.cells[o+j]?:=by rw[ab hjn.1,b3,a4]
 have:=hp.2 (o+j) hjn.2;rw[h1,h2,<-this];show w.cell? ⟨b,off+o+j,τ⟩=w.cell? ⟨b,off+(o+j),τ⟩;rw[ad]
variable {t:TypeId}
theorem O9{P:Program}{agg:Bool}{n:Nat}{a:Addr}(ht:Q5 P t agg n=ψ)(hp:Dn w a v)(hc:v.cells.size=n)(hf:if agg then ∃cs,v=.agg cs else v.cells=#[v]):(loadVar t a).run P w=.ok v w:=by
 simp only[loadVar,Sem.run_bind,(HB (w:=w) ht).1,Result.andThen_ok];cases agg with
 |true=>
  simp only[if_true]at hf;obtain⟨cs,rfl⟩:=hf;simp only[if_true,Sem.run_bind,(HB (w:=w) ht).2,Result.andThen_ok];rw[<-hc,Pw hp];rfl
 |false=>
  simp only[a1,if_false]at hf;have h2:=hf;have h0:=hp.2 0 (by grind);obtain⟨b,o,s⟩:=a;obtain⟨hs,_⟩:=hp;simp_all[bq,a6,List.getElem?_cons_zero]
variable {T:Ty}
theorem Atg{I:Cb}{x:den Y.D T}(h:rp Y.toUS T I w v x):if isU T then ∃cs,v=.agg cs else v.cells=#[v]:=(RT Y.toUS T).form h
variable {f:Fr} {ty:TypeId} {x:Operand}
theorem S9{I:Cb}{w':World}{y:den Y.D T}{a:Addr}(d:Q5 Y.P t (isU T) (sz Y.toUS T)=ψ)(c:Dn w' a v)(b:rp Y.toUS T I w v y)(e:ev f x=.pointer (δ a)):LQ Y.P f (.load t x) ty v w':=λg h j i=>by simp [execOp,Instr.loadAt,e,Instr.sureAddr,O9 d c (Ada b) (Atg b)]
def ldD(t:TypeId)(T:Ty)(d:den Y.D T)(o:Nat)(k:AV Y->Prop):Prop:=match Y.ty t with
 |some T'=>Fx (Q5 Y.P t (isU T') (sz Y.toUS T')) (match o with
  |0=>match Ty.dec T T' with
   | .isTrue h=>k (.dat T' (h▸d))
   | .isFalse _=>match Za T' ((Aer T d).take (sz Y.toUS T')) with
    |some y=>k (.dat T' y)
    |none=>False
  |o=>match Za T' (((Aer T d).drop o).take (sz Y.toUS T')) with
   |some y=>k (.dat T' y)
   |none=>False)
 |none=>False
variable {g:B3}
theorem Aee{T':Ty}{d:den Y.D T}{y:den Y.D T'}(p:Q5 Y.P t (isU T') (sz Y.toUS T')=ψ)(l:rp Y.toUS T g.I g.w u d)(i:Dn g.w ⟨b,off,τ⟩ u)(q:g.I b)(j:ev f x=.pointer (δ ⟨b,off+o,τ⟩))(k:Za T' (((Aer T d).drop o).take (sz Y.toUS T'))=δ y):∃v,rp Y.toUS T' g.I g.w v y/\∀w',Sx g w'->LQ Y.P f (.load t x) ty v w':=by have m:=((Aeq l).drop o).take (sz Y.toUS T');obtain⟨v,n,c,_⟩:=Acr k m;refine⟨v,c,λw' e=>?_⟩;have h:=e.points (a:=⟨b,off,τ⟩) q i;exact S9 p (WU h (by rw[n])) c j
theorem Ag2{d:den Y.D T}{k:AV Y->Prop}(h:ldD t T d o k)(c:rp Y.toUS T g.I g.w u d)(i:Dn g.w ⟨b,off,τ⟩ u)(r:g.I b)(j:ev f x=.pointer (δ ⟨b,off+o,τ⟩)):∃v a,k a/\AR g a v/\∀w',Sx g w'->LQ Y.P f (.load t x) ty v w':=by
 unfold ldD at h;split at h
 .rename_i s w;obtain⟨l,h⟩:=AJ h;split at h
  .split at h
   .rename_i e _;subst e;exact⟨u,_,h,c,λw' q=>S9 l (q.points (a:=⟨b,off,τ⟩) r i) c j⟩
   .split at h
    .rename_i y n;obtain⟨v,m,p⟩:=Aee (o:=0) l c i r j n;exact⟨v,_,h,m,p⟩
    grind
  .split at h
   .rename_i y n;obtain⟨v,m,p⟩:=Aee l c i r j n;exact⟨v,_,h,m,p⟩
   grind
 grind
theorem X5:∀(l:List Value)(s off:Nat)(cells:Array Value),off+s+ν l<=cells.size->((l.zipIdx s).foldl (λcs(p:Value×Nat)=>cs.setIfInBounds (off+p.2) p.1) cells).toList=cells.toList.take (off+s)++(l++cells.toList.drop (off+s+ν l))
 | [],s,off,cells,_=>by simp
 |x::l,s,off,cells,h=>by
  simp only[bn]at h;have g:=X5 l (s+1) off (cells.setIfInBounds (off+s) x) (by simp;omega);simp only[cb,bu];rw[g];have a:off+s<ν cells.toList:=by simp;omega
  have f:off+(s+1)=off+s+1:=by omega
  rw[bg,f,List.take_set,List.drop_set];have e:off+s<off+s+1+ν l:=by omega
  rw[UV e];have c:(cells.toList.take (off+s+1)).set (off+s) x=cells.toList.take (off+s)++[x]:=by
   rw[List.take_succ_eq_append_getElem a,b7 _ _ (by simp;omega)];have b:min (off+s) cells.size=off+s:=by simp at a;omega
   simp [al,b]
  rw[c,a0,bn];have d:off+s+1+ν l=off+s+(ν l+1):=by omega
  rw[d];rfl
def Wf(a:AV Y)(ts:List Ty):Option (List (Lf Y.D)):=match a with
 | .dat (.u m) d=>δ (Y.flat m d)
 | .val (.agg cs)=>LJ ts cs.toList
 |a=>match ts with
  | [t]=>match t.leaf,VS t a with
   |true,δ x=>δ [⟨t,x⟩]
   |_,_=>τ
  |_=>τ
theorem Xr{a:AV Y}{ts:List Ty}{l:List (Lf Y.D)}(h:Wf a ts=δ l)(b:AR g a v):F2 (λc(l:Lf Y.D)=>rp Y.toUS l.t g.I g.w c l.x) v.cells.toList l:=by
 unfold Wf at h;split at h
 .cases h;obtain⟨j,rfl,i⟩:=HO.1 b;exact i
 .obtain rfl:v=_:=b;exact MB h
 .split at h
  .split at h
   .rename_i e f;cases h;have d:=Dm f b;rw[(K0 e d).1];exact .cons d .nil
   .cases h
  .cases h
def Aet(place:Nat->Option (Nat×Nat))(ts:List Ty):List (Lf Y.D)->List (Nat×AV Y)->Option (List (Lf Y.D))
 |ls,[]=>δ ls
 |ls,(i,a)::rest=>match place i with
  |none=>τ
  |some (off,size)=>match Wf a ((ts.drop off).take size) with
   |some l=>match Nat.beq (ν l) size&&cq (off+size) (ν ls) with
    |true=>Aet place ts (ls.take off++(l++ls.drop (off+size))) rest
    |false=>τ
   |none=>τ
theorem Aes{g:B3}{place:Nat->Option (Nat×Nat)}{ts:List Ty}:∀{ps:List (Nat×AV Y)}{qs:List (Nat×Value)}{cells:Array Value}{ls l':List (Lf Y.D)},Aet place ts ls ps=δ l'->F2 (λc(l:Lf Y.D)=>rp Y.toUS l.t g.I g.w c l.x) cells.toList ls->F2 (λ(p:Nat×AV Y)(q:Nat×Value)=>p.1=q.1/\AR g p.2 q.2) ps qs->∃cells',Instr.fill place cells qs=δ cells'/\F2 (λc(l:Lf Y.D)=>rp Y.toUS l.t g.I g.w c l.x) cells'.toList l'
 | [],_,cells,ls,l',h,j,.nil=>by cases h;exact⟨cells,rfl,j⟩
 |(i,a)::r,(A,v)::qs,cells,ls,l',h,j,.cons ⟨m,o⟩ w=>by
  simp only at m o;subst m;unfold Aet at h;unfold Instr.fill;split at h
  .cases h
  .rename_i b d s;split at h
   .rename_i l y;split at h
    .rename_i z;simp only[a2,Nat.beq_eq,Nat.ble_eq]at z;have n:=Xr y o;have k:v.cells.size=d:=by have:=n.len;simp only[be]at this;omega
     have u:cells.size=ν ls:=by have:=j.len;simpa using this
     have t:¬(v.cells.size≠d∨b+v.cells.size>cells.size):=by omega
     simp only[s,bv,decide_eq_true_eq,t,if_false];refine Aes h ?_ w;have:=X5 v.cells.toList 0 b cells (by simp;omega);have e:(v.cells.zipIdx.foldl (λf(x:Value×Nat)=>f.setIfInBounds (b+x.2) x.1) cells)=(v.cells.toList.zipIdx.foldl (λf(x:Value×Nat)=>f.setIfInBounds (b+x.2) x.1) cells):=by rw[<-bh,Array.toList_zipIdx]
     show F2 _ (v.cells.zipIdx.foldl (λf(x:Value×Nat)=>f.setIfInBounds (b+x.2) x.1) cells).toList _;rw[e,this];simp only[bq,be,k];exact(j.take b).app (n.app (j.drop _))
    .cases h
   .cases h
def plc(P:Program)(t:TypeId):Option ((Nat->Option (Nat×Nat))×Value):=match P.info? t,P.underlying t with
 |some it,δ (.array _ e)=>match it.zero,P.info? e with
  |some z,δ ie=>δ (λi=>δ (i*ie.size,ie.size),z)
  |_,_=>τ
 |some it,δ (.struct fields)=>match it.zero,fields.toList.mapM (λf=>(P.info? f.type).map λi=>(f.offset,i.size)) with
  |some z,δ places=>δ ((places.toArray[·]?),z)
  |_,_=>τ
 |_,_=>τ
theorem Zo{P:Program}{p:(Nat->Option (Nat×Nat))×Value}(h:plc P t=δ p)(a:List (Nat×Value)):P.built t a=Instr.fill p.1 p.2.cells a:=by
 unfold plc at h;unfold Program.built;split at h
 .rename_i g e b f;split at h
  .rename_i z k d c;cases h;simp only[b,f,d,c]
  .cases h
 .rename_i g i b f;split at h
  .rename_i z j d c;cases h;simp only[b,f,d,c]
  .cases h
 .cases h
def evP(c:Cf Y):List (Nat×Operand)->Option (List (Nat×AV Y))
 | []=>δ []
 |(i,x)::l=>match E9 c x,evP c l with
  |some a,δ m=>δ ((i,a)::m)
  |_,_=>τ
theorem Ahd{g0 g:B3}{T AH A:Bi}{c:Cf Y}{f:Fr}(h:RG g0 T c f g AH A):∀{l:List (Nat×Operand)}{m:List (Nat×AV Y)},evP c l=δ m->F2 (λ(p:Nat×AV Y)(q:Nat×Value)=>p.1=q.1/\AR g p.2 q.2) m (l.map λp=>(p.1,ev f p.2))
 | [],m,b=>by cases b;exact .nil
 |(i,x)::l,m,b=>by
  unfold evP at b;split at b
  .rename_i a j e d;cases b;exact .cons ⟨rfl,h.ev e⟩ (Ahd h d)
  .cases b
def Avt(c:Cf Y)(t:TypeId)(ps:Array (Nat×Operand))(k:AV Y->Prop):Prop:=match Y.ty t,plc Y.P t,evP c ps.toList with
 |some (.u n),δ (p,.agg z),δ qs=>match LJ (Y:=Y) (Y.sig n) z.toList with
  |some zl=>match (Aet p (Y.sig n) zl qs).bind (Y.Akr n) with
   |some x=>k (.dat (.u n) x)
   |none=>False
  |none=>False
 |_,_,_=>False
theorem Aka{g0:B3}{T AH A:Bi}{c:Cf Y}(h:RG g0 T c f g AH A){ps:Array (Nat×Operand)}{k:AV Y->Prop}(d:Avt c t ps k):∃v a,k a/\AR g a v/\∀w',LQ Y.P f (.build t ps) ty v w':=by
 unfold Avt at d;split at d
 .rename_i n p z q E w y;split at d
  .rename_i m r;cases j:Aet p (Y.sig n) m q with
   |none=>rw[j]at d;exact d.elim
   |some F=>
    rw[j]at d;simp only[ae]at d;split at d
    .rename_i x u;obtain⟨cells,l,e⟩:=Aes (cells:=z) j (MB r) (Ahd h y);refine⟨.agg cells,_,d,HO.2 ⟨cells.toList,rfl,by rw[Y.SN n _ _ u];exact e⟩,λw' o s D C=>?_⟩;have B:Y.P.built t (ps.map λ(x:Nat×Operand)=>match x with|(i,x)=>(i,ev f x)).toList=δ cells:=by rw[Zo w,bl];exact l
     simp only[execOp,Sem.run_bind];rw[run_build w' t _ cells B];rfl
    .exact d.elim
  .exact d.elim
 .exact d.elim
end
end
end Go.Y
