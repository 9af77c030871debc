/-
  The Y layer, part e: the operations of part d, put together ('vop'). (Merged by program out of 22 texts.)
-/
import Derived.WalkKit
import Derived.OrdersHeld
import Derived.OrdersIn
import Derived.RangeFuncRecord
import Derived.Carry
import Derived.DataShut
import Derived.WideShapes4
import Derived.Maps.RangeRun
open List renaming append_assoc->a0,size_toArray->a6,getElem?_toArray->a7,getElem?_eq_getElem->a8,findIdx?_eq_some_iff_getElem->aa,getElem?_append_left->ab,getElem?_take_of_lt->ad,mem_singleton->aj,getElem?_append_right->ak,mem_map_of_mem->am,length_take->ao,eq_nil_of_length_eq_zero->ap,getElem?_drop->aq,nil_append->ar,map_cons->av,perm_append_comm->aw,mem_append_right->ax,length_eraseIdx_of_lt->b4,getElem_append_left->b5,nodup_append->b7,set_append_right->b9,cons_append->bb,length_cons->bc,map_append->bf,replicate->bi,length_append->bl,getElem_append_right->bm,flatMap_cons->bn,length_drop->br,cons.injEq->bv,foldl_cons->bw,contains_iff_mem->bz,mem_append_left->c0,Perm.refl->c1,take->c2,getElem?_range->c3,getElem_of_mem->c4,range->c6,findIdx?_cons->c7,mem_cons_self->c8,mem_map->c9,getElem?_map->ca,getElem_take->cb,getElem_drop->cc,zipIdx_cons->ce,all_eq_true->cf,mem_append->ci,nodup_cons->cj,mem_cons->cp,drop->cq,map_nil->cw
open Bool renaming false_eq_true->a1,and_eq_true->a3,not_eq_true'->az,or_eq_true->bx
open Array renaming getElem?_toList->a2,getElem?_eq_some_iff->ai,setIfInBounds_comm->al,getD_eq_getD_getElem?->ay,getElem?_append_left->b0,size_append->b8,range->be,length_toList->bh,toList_setIfInBounds->bj,foldl_toList->bk,toList_push->bp,toList_map->bq,toList_modify->c5,foldl->cy,ext'->cz
open Nat renaming mul_le_mul_right->a4,add_mul->a5,lt_of_lt_of_le->a9,add_assoc->ac,le_refl->ae,add_sub_cancel_left->an,one_mul->b3,le_trans->b6,le_of_ble_eq_true->ba,add_le_add_left->bg,le_mul_of_pos_right->bt,add_zero->bu,zero_le->cg,mul_eq_zero->ck,le_max_left->cn,blt_eq->co,zero_add->cr,sub_self->ct,ble->cu,succ_mul->cv,blt->cx
open Option renaming bind_some->ah,map_some->au,getD_some->cd,some.inj->cm
namespace Go
theorem GT{c:Prop}{i:Decidable c}(h:¬c){α:Sort _}{t e:α}:ite c t e=e:=if_neg h
theorem UV{c:Prop}{i:Decidable c}(h:c){α:Sort _}{t e:α}:ite c t e=t:=if_pos h
abbrev qG{a:Prop}{b:Sort _}(h:a)(k:¬a):b:=absurd h k
end Go
namespace Go.X
open Go Go.RowKit
section
abbrev Fr:=Nat->Value
def Is(N:Nat)(a:Array Value)(f:Fr):Prop:=a.size=N/\∀i,a.getD i undef=f i
structure FK where
 fn:FuncId
 ro:Option Nat
 ds:List Deferred
inductive Qp where
 |lv (j:Option Code) (f:Fr) (ds:List Deferred)
 |pan (ch:List PanicEntry) (f:Fr) (ds:List Deferred)
def A1l:Option Code->List Item->Prop
 |none,td=>td=[]
 |some .ret,td=>∃k,td=.code .ret::k
 |some (.exit id),td=>∃k,td=.code (.exit id)::k/\exitTo id k=none
 |_,_=>False
def Ends(P:Program)(N:Nat)(b:Frame)(cs:List Frame)(m:Machine):Qp->World->Prop
 | .lv j f ds,w=>∃a td,Is N a f/\A1l j td/\Steps P m (lone (b.atR ⟨a,ds⟩ td) cs w)
 | .pan ch f ds,w=>∃a td,Is N a f/\Steps P m (lone {b.atR ⟨a,ds⟩ td with mode:=.panicking ch} cs w)
def WT(P:Program)(φ:FK)(N:Nat)(todo:List Item)(R:Qp->World->Prop)(f:Fr)(w:World):Prop:=∀(b:Frame)(cs:List Frame)(a:Array Value),Is N a f->b.fn=φ.fn->b.kind=.normal->b.roundOf=φ.ro->∃e w',R e w'/\Ends P N b cs (lone (b.atR ⟨a,φ.ds⟩ todo) cs w) e w'
theorem Ends.of_steps{P:Program}{N:Nat}{b:Frame}{cs:List Frame}{m m':Machine}{e:Qp}{w:World}(s:Steps P m m')(h:Ends P N b cs m' e w):Ends P N b cs m e w:=by
 cases e with
 |lv j f k=>obtain⟨a,c,d,g,i⟩:=h;exact⟨a,c,d,g,s.trans i⟩
 |pan l f k=>obtain⟨a,c,d,g⟩:=h;exact⟨a,c,d,s.trans g⟩
variable {P:Program} {φ:FK} {N:Nat} {k:List Item} {R:Qp->World->Prop} {f:Fr} {w:World}
theorem GA{todo todo':List Item}{w':World}(hs:∀(b:Frame)(cs:List Frame)(a:Array Value),Is N a f->b.kind=.normal->b.roundOf=φ.ro->step P (lone (b.atR ⟨a,φ.ds⟩ todo) cs w)=.next (lone (b.atR ⟨a,φ.ds⟩ todo') cs w'))(h:WT P φ N todo' R f w'):WT P φ N todo R f w:=by intro b cs a i l g d;obtain⟨e,c,k,j⟩:=h b cs a i l g d;exact⟨e,c,k,j.of_steps (.one (hs b cs a i g d))⟩
theorem QS(h:WT P φ N k R f w):WT P φ N (.code .skip::k) R f w:=GA (λ_ _ _ _ _ _=>stepR_skip) h
theorem ZK{l:Nat}(h:WT P φ N k R f w):WT P φ N (.code (.label l)::k) R f w:=GA (λ_ _ _ _ _ _=>stepR_label) h
variable {id:Nat}
theorem KT(h:WT P φ N k R f w):WT P φ N (.inBlock id::k) R f w:=GA (λ_ _ _ _ _ _=>stepR_inBlock) h
variable {x y:Code}
theorem Dz(h:WT P φ N (.code x::.code y::k) R f w):WT P φ N (.code (.seq x y)::k) R f w:=GA (λ_ _ _ _ _ _=>stepR_seq) h
variable {c:Code}
theorem KU(h:WT P φ N (.code c::.inBlock id::k) R f w):WT P φ N (.code (.block id c)::k) R f w:=GA (λ_ _ _ _ _ _=>stepR_block) h
theorem Ui{k':List Item}(a:exitTo id k=some k')(h:WT P φ N k' R f w):WT P φ N (.code (.exit id)::k) R f w:=GA (λ_ _ _ _ _ _=>stepR_exit a) h
theorem Azf(h:WT P φ N (.code c::.inLoop c::k) R f w):WT P φ N (.inLoop c::k) R f w:=GA (λ_ _ _ _ _ _=>stepR_inLoop) h
theorem Ap2(h:WT P φ N (.code c::.inLoop c::k) R f w):WT P φ N (.code (.loop c)::k) R f w:=GA (λ_ _ _ _ _ _=>stepR_loop) h
theorem Akm(h:WT P φ N (.code c::.inScope c::k) R f w):WT P φ N (.code (.scope c)::k) R f w:=
 GA (λb d a _ _ _=>step_lone_go (by rfl)) h
theorem Ac8(h:WT P φ N k R f w):WT P φ N (.inScope c::k) R f w:=
 GA (λb d a _ _ _=>step_lone_go (by rfl)) h
def Ayt(p:Prop):Prop:=p
theorem Ayt.out{p:Prop}(h:Ayt p):p:=h
theorem Yr(S:Nat->Fr->World->Prop)(n:Nat)(g:S n f w)(a:∀n f w,S n f w->Ayt (∀m f' w',m<n->S m f' w'->WT P φ N (.inLoop c::k) R f' w')->WT P φ N (.code c::.inLoop c::k) R f w):WT P φ N (.code (.loop c)::k) R f w:=by
 have d:∀n f w,S n f w->WT P φ N (.code c::.inLoop c::k) R f w:=by
  intro n;induction n using Nat.strongRecOn with
  |_ n h=>exact λf w e=>a n f w e λm f' w' i b=>Azf (h m i f' w' b)
 grind[Ap2]
def ev(f:Fr):Operand->Value
 | .tmp t=>f t
 | .const v=>v
 | .global g=>.pointer (some ⟨g,0,none⟩)
 | .func f=>.func (.func f) #[] #[]
def DG(N:Nat)(f:Fr)(d:Nat)(v:Value):Fr:=λj=>if j=d then (if d<N then v else undef) else f j
def put(N:Nat)(f:Fr)(dst:Option Tmp)(v:Value):Fr:=
 match dst with
 |some d=>DG N f d v
 |none=>f
variable {ds:List Deferred} {a:Array Value}
theorem Sc(b:Is N a f)(x:Operand):(Act.eval ⟨a,ds⟩) x=ev f x:=by
 cases x with
 |tmp t=>exact b.2 t
 |const v|global g|func g=>rfl
theorem G4(ha:Is N a f):(Act.eval ⟨a,ds⟩)=ev f:=funext (Sc ha)
theorem Is.put(ha:Is N a f)(d:Option Tmp)(v:Value):∃a',(Act.put ⟨a,ds⟩ d v)=⟨a',ds⟩/\Is N a' (put N f d v):=by
 cases d with
 |none=>exact⟨a,rfl,ha⟩
 |some d=>
  refine⟨_,rfl,by simp [ha.1],λi=>?_⟩;have hi:=ha.2 i;have hs:=ha.1;simp only[ay]at hi ⊢;show _=DG N f d v i;grind[DG]
theorem Ys{c:Operand}{t:Bool}(b:ev f c=.bool t)(d:t=true->WT P φ N (.code x::k) R f w)(e:t=false->WT P φ N (.code y::k) R f w):WT P φ N (.code (.cond c x y)::k) R f w:=by
 cases t
 .exact GA (λ_ _ _ a _ _=>stepR_cond (t:=false) (by grind[Sc])) (e rfl)
 .exact GA (λ_ _ _ a _ _=>stepR_cond (t:=true) (by grind[Sc])) (d rfl)
theorem QR{c:Operand}(a:ev f c=.bool true)(h:WT P φ N (.code x::k) R f w):WT P φ N (.code (.cond c x y)::k) R f w:=Ys a (λ_=>h) (by simp)
theorem NH{c:Operand}(a:ev f c=.bool false)(h:WT P φ N (.code y::k) R f w):WT P φ N (.code (.cond c x y)::k) R f w:=Ys a (by simp) (λ_=>h)
theorem Atf{j:Option Code}{td:List Item}(c:A1l j td)(h:R (.lv j f φ.ds) w):WT P φ N td R f w:=λ_ _ a b _ _ _=>⟨_,w,h,a,td,b,c,Steps.refl _ _⟩
theorem MF(h:R (.lv (some .ret) f φ.ds) w):WT P φ N (.code .ret::k) R f w:=Atf (j:=some .ret) ⟨k,rfl⟩ h
theorem S9(h:R (.lv none f φ.ds) w):WT P φ N [] R f w:=Atf (j:=none) rfl h
abbrev Rnd(P:Program)(l:Nat)(g:FuncId)(tmps:Array Value)(assign body:Code)(w:World)(R:Ending->World->Prop):Prop:=RoundIn Fence.wide 0 P l g tmps assign body w R
def UP(P:Program)(R:List PanicEntry->World->Prop)(m:Bool)(next:Value->World->Prop):Result Next->Prop
 | .ok (.value v) w=>next v w
 | .ok .skip w=>m=false/\next undef w
 | .ok (.enter g args) w=>m=false/\Calls P g args w λe w'=>match e with
  | .returned v=>next v w'
  | .panicked ch=>R ch w'
  | .outgrown=>False
 | .ok (.round l g tmps assign body) w=>m=false/\Rnd P l g tmps assign body w λe w'=>match e with
  | .returned v=>next v w'
  | .panicked ch=>R ch w'
  | .outgrown=>False
 | .halt (.panic v) w=>m=false/\R [{v,recovered:=false}] w
 |_=>False
theorem UP.mono{R:List PanicEntry->World->Prop}{m:Bool}{next next':Value->World->Prop}{r:Result Next}(c:∀v w,next v w->next' v w)(h:UP P R m next r):UP P R m next' r:=by
 have f:∀(e:Ending)(a:World),(match e with | .returned v=>next v a | .panicked b=>R b a | .outgrown=>False:Prop)->(match e with | .returned v=>next' v a | .panicked b=>R b a | .outgrown=>False:Prop):=λe a h=>by grind
 cases r with
 |ok j a=>
  cases j with
  |value v=>exact c _ _ h
  |skip=>exact⟨h.1,c _ _ h.2⟩
  |enter g d=>exact⟨h.1,Calls.mono h.2 f⟩
  |round l g i n k=>exact⟨h.1,RoundIn.mono h.2 f⟩
  |_=>exact False.elim h
 |halt x a=>
  cases x with
  |panic v=>exact h
  |_=>exact False.elim h
variable {next:Value->World->Prop}
theorem ZA{R:List PanicEntry->World->Prop}(r:Result Next)(h:UP P R true next r):∃v w',r=.ok (.value v) w'/\next v w':=by
 cases r with
 |ok c w'=>
  cases c with
  |value v=>exact⟨v,w',rfl,h⟩
  |skip|enter g b|round l g a d e=>exact qG h.1 (by decide)
  |_=>exact False.elim h
 |halt x w'=>
  cases x with
  |panic v=>exact qG h.1 (by decide)
  |_=>exact False.elim h
def yl(ops:Array Oper)(f:Fr)(j:Nat):Option Bool:=
 match (ops[j]?).bind (·.dst) with
 |some d=>match f d with
  | .bool b=>some b
  |_=>none
 |none=>none
theorem U0{ops:Array Oper}(b:Is N a f):yielded ops a=yl ops f:=by
 funext j;unfold yielded yl;cases c:(ops[j]?).bind (·.dst) with
 |none=>rfl
 |some d=>
  have:=b.2 d;simp only[ah];rw[<-this,ay];cases h:a[d]? with
  |none=>rfl
  |some v=>cases v<;>rfl
def WL(P:Program)(N:Nat)(ops:Array Oper)(R:List PanicEntry->World->Prop)(m:Bool)(K:Fr->World->Prop):List Oper->Fr->World->Prop
 | [],f,w=>K f w
 |o::os,f,w=>
  if Region.wanted o (yl ops f) then UP P R m (λv w'=>WL P N ops R m K os (put N f o.dst v) w') ((execOp (ev f) o).run P w)
  else WL P N ops R m K os (put N f o.dst undef) w
def FK.Mt(φ:FK):Fence:={Fence.wide with round:=φ.ro}
theorem MM{m m':Machine}(h:StepsIn (Machine.fenced P φ.Mt) P m m'):Steps P m m':=h.steps
def Qx(P:Program)(φ:FK)(N:Nat)(k:List Item)(R:Qp->World->Prop):Exit->Act->World->Prop
 | .normal,a,w=>a.defers=φ.ds/\∃f,Is N a.tmps f/\WT P φ N k R f w
 | .panic ch,a,w=>a.defers=φ.ds/\∃f,Is N a.tmps f/\R (.pan ch f φ.ds) w
 |_,_,_=>False
abbrev FK.at(φ:FK)(R:Qp->World->Prop):List PanicEntry->World->Prop:=λch w=>∀f,R (.pan ch f φ.ds) w
theorem Aw8{N:Nat}(h:a.size=N):Is N a λi=>a.getD i undef:=⟨h,λ_=>rfl⟩
theorem ZJ(h:∀a,Is N a f->c.wpIn φ.Mt 0 P (Qx P φ N k R) ⟨a,φ.ds⟩ w):WT P φ N (.code c::k) R f w:=by
 intro b r a B v z s;obtain⟨e,q,D,m,g⟩:=h a B b k r s trivial (λd j=>(by cases j));cases e with
 |normal=>
  obtain⟨j,u,i,C⟩:=m;obtain⟨t,d⟩:=q;simp only at j;subst j;obtain⟨e,o,p,y⟩:=C b r t i v z s;exact⟨e,o,p,y.of_steps (MM g)⟩
 |panic A=>
  obtain⟨j,u,i,p⟩:=m;obtain⟨t,d⟩:=q;simp only at j;subst j;obtain⟨n,x⟩:=g;exact⟨.pan A u φ.ds,D,p,t,n,i,MM x⟩
 |exit E|goto l|ret|outgrown=>exact m.elim
theorem Acd{g:FuncId}{args:Array Value}{R:Ending->World->Prop}(h:Calls P g args w R):CallsIn φ.Mt (0-1) P g args w R:=(callsIn_wide (n:=0-1)).2 h
theorem Aaj{l:Nat}{g:FuncId}{tmps:Array Value}{aE bd:Code}{R:Ending->World->Prop}(h:Rnd P l g tmps aE bd w R):RoundIn φ.Mt (0-1) P l g tmps aE bd w R:=h
variable {o:Oper}
theorem Aaf{R:List PanicEntry->World->Prop}{ro:Option Nat}{ρ:Operand->Value}{m:Bool}(h:UP P R m next ((execOp ρ o).run P w)):(o.semAt ro ρ).run P w=(execOp ρ o).run P w:=by
 cases ro with
 |none=>rfl
 |some l=>
  by_cases b:∃c,o.op=.defer c
  .obtain⟨c,a⟩:=b;obtain⟨i,p,g,e,n,k⟩:=o;simp only at a;subst a;simp only[Oper.semAt,execOp,Sem.run_bind]at h ⊢;cases f:(resolve ρ c g).run P w with
   |ok d j=>simp_all[Result.andThen,UP]
   |halt x j=>rfl
  grind[Oper.semAt_eq]
theorem U3{Rp:List PanicEntry->World->Prop}{K':Act->World->Prop}(c:∀ch w,Rp ch w->∃f,Is N a f/\R (.pan ch f φ.ds) w)(b:∀v w',next v w'->K' (Act.put ⟨a,φ.ds⟩ o.dst v) w')(h:UP P Rp false next ((execOp (Act.eval ⟨a,φ.ds⟩) o).run P w)):o.wpIn φ.Mt 0 P ⟨a,φ.ds⟩ w K' (Qx P φ N k R):=by
 refine⟨λf _=>trivial,?_⟩;rw[Aaf h];generalize (execOp (Act.eval ⟨a,φ.ds⟩) o).run P w=r at h;cases r with
 |ok n w'=>
  cases n with
  |value v=>exact b _ _ h
  |skip=>exact b _ _ h.2
  |enter g m=>
   refine⟨λd=>(by cases d),Acd (Calls.mono h.2 λe i=>?_)⟩;cases e with
   |returned v=>grind
   |panicked ch=>exact λh=>⟨rfl,c _ _ h⟩
   |outgrown=>simp
  |round l g j p q=>
   refine⟨λd=>(by cases d),Aaj (RoundIn.mono h.2 λe i=>?_)⟩;cases e with
   |returned v=>grind
   |panicked ch=>exact λh=>⟨rfl,c _ _ h⟩
   |outgrown=>simp
  |_=>exact False.elim h
 |halt x w'=>
  cases x with
  |panic v=>exact⟨rfl,c _ _ h.2⟩
  |_=>exact False.elim h
def Aj1(ops:Array Oper)(t:Nat):Prop:=∀(i:Nat)(o:Oper),ops[i]?=some o->o.dst≠some t
theorem Alv{ops:Array Oper}{i:Nat}{t:Nat}{v:Value}(a:ops[i]?=some o)(h:Aj1 ops t):put N f o.dst v t=f t:=by
 have:=h i o a;cases b:o.dst with
 |none=>rfl
 |some d=>rw[b]at this;exact GT λe=>this (by rw[e])
theorem T4{ops:Array Oper}{Rp:List PanicEntry->World->Prop}{f0:Fr}(n:∀ch w f,(∀t,Aj1 ops t->f t=f0 t)->Rp ch w->R (.pan ch f φ.ds) w):∀(os:List Oper)(l:List Nat)(f:Fr)(w:World)(a:Array Value),Is N a f->(∀t,Aj1 ops t->f t=f0 t)->l.map (ops[·]?)=os.map some->WL P N ops Rp false (WT P φ N k R) os f w->wpOpsIn φ.Mt 0 P ops (Qx P φ N k R) l ⟨a,φ.ds⟩ w
 | [],[],f,w,a,d,_,_,h=>by exact⟨rfl,f,d,h⟩
 |[],_::_,_,_,_,_,_,b,_|_::_,[],_,_,_,_,_,b,_=>by grind
 |o::os,i::l,f,w,a,d,q,b,h=>by
  simp only[av,bv]at b;obtain⟨m,b⟩:=b;simp only[wpOpsIn,m];simp only[WL]at h;rw[U0 d];have g:∀v t,Aj1 ops t->put N f o.dst v t=f0 t:=λv t p=>(Alv m p).trans (q t p);have c:∀v e,WL P N ops Rp false (WT P φ N k R) os (put N f o.dst v) e->wpOpsIn φ.Mt 0 P ops (Qx P φ N k R) l (Act.put ⟨a,φ.ds⟩ o.dst v) e:=λv e r=>by obtain⟨x,u,s⟩:=d.put o.dst v;rw[u];exact T4 n os l _ _ _ s (g v) b r
  split at h
  .rename_i j;simp only[j,if_true];grind[U3,G4]
  .rename_i j;simp only[j,if_false,a1];exact⟨λ_ _=>trivial,c _ _ h⟩
theorem PT(ops:Array Oper):(c6 ops.size).map (ops[·]?)=ops.toList.map some:=by
 apply List.ext_getElem
 .simp
 simp
theorem T3{ops:Array Oper}{Rp:List PanicEntry->World->Prop}(b:∀ch w f',(∀t,Aj1 ops t->f' t=f t)->Rp ch w->R (.pan ch f' φ.ds) w)(h:WL P N ops Rp false (WT P φ N k R) ops.toList f w):WT P φ N (.code (.region id ops false)::k) R f w:=ZJ λa c=>wpIn_region (T4 b _ _ _ _ a c (λ_ _=>rfl) (PT ops) h)
theorem CJ{ops:Array Oper}(h:WL P N ops (φ.at R) false (WT P φ N k R) ops.toList f w):WT P φ N (.code (.region id ops false)::k) R f w:=T3 (λ_ _ a _ h=>h a) h
def Wo:List Value->Fr
 | []=>λ_=>undef
 |v::vs=>fun
  |0=>v
  |j+1=>Wo vs j
theorem L8:∀(vs:List Value)(i:Nat),(vs[i]?).getD undef=Wo vs i
 | [],i=>by rfl
 |v::vs,0=>rfl
 |v::vs,i+1=>L8 vs i
def Lv(P:Program)(F:Func)(N:Nat)(f:Fr)(R:Ending->World->Prop):List Deferred->FrameMode->World->Prop
 | [],.returning,w=>∃v,(∀a,Is N a f->(results F a).run P w=.ok v w)/\R (.returned v) w
 | [],.panicking ch,w=>R (.panicked ch) w
 | [],.run,_=>False
 |d::ds,u,w=>u≠.run/\((∃b,d.target=.collected b/\w.heap[b]?=some (.deferred (some []))/\Lv P F N f R ds u (w.putObj b (.deferred none))) ∨
  (∃fv cap g args,d.target=.fn fv cap/\(invoke d.target d.args).run P w=.ok (.enter g args) w/\CallsD P g args u w fun
   | .returned _,u',w'=>Lv P F N f R ds (settle u') w'
   | .panicked chain,u',w'=>Lv P F N f R ds (raised u' chain) w'
   | .outgrown,_,_=>False))
def Ajz(P:Program)(F:Func)(N:Nat)(R:Ending->World->Prop):Qp->World->Prop
 | .lv (some .ret) f ds,w | .lv none f ds,w=>Lv P F N f R ds .returning w
 | .pan ch f ds,w=>Lv P F N f R ds (.panicking ch) w
 |_,_=>False
theorem step_collected{fr:Frame}{cs:List Frame}{w:World}{d:Deferred}{b:Nat}(h:fr.defers=d::ds)(f:d.target=.collected b)(g:w.heap[b]?=some (.deferred (some [])))(i:fr.mode≠.run):step P (lone fr cs w)=.next (lone {fr with defers:=ds} cs (w.putObj b (.deferred none))):=by obtain⟨t,a⟩:=d;simp only at f;subst f;refine step_lone_go ?_;simp_all[stepG,unwind,Sem.runT_eq,run_takeDeferred,GStep.bare_after]
theorem Abg{F:Func}{R:Ending->World->Prop}:∀(ds:List Deferred)(u:FrameMode)(w:World)(fr:Frame)(cs:List Frame),fr.mode=u->fr.defers=ds->Is N fr.tmps f->P.funcs[fr.fn]?=some F->fr.kind=.normal->Lv P F N f R ds u w->∃e w' fr',R e w'/\Comes P (lone fr cs w) (lone fr' cs w') e/\fr'.fn=fr.fn/\fr'.leaving P w' e:=by
 intro ds;induction ds with
 |nil=>
  intro u w fr cs s z A t y h;cases u with
  |run=>exact h.elim
  |returning=>
   obtain⟨v,K,B⟩:=h;exact⟨.returned v,w,fr,B,Steps.refl P _,rfl,s,z,y,F,t,K _ A⟩
  |panicking a=>exact⟨.panicked a,w,fr,h,Steps.refl P _,rfl,s,z,F,t⟩
 |cons d ds H=>
  intro u w fr cs s z A t y h;obtain⟨q,h|h⟩:=h
  .obtain⟨b,k,O,M⟩:=h;have E:=step_collected (P:=P) (cs:=cs) z k O (s▸q);obtain⟨x,m,fr',o,n,i,l⟩:=H u _ {fr with defers:=ds} cs s rfl A t y M;exact⟨x,m,fr',o,Comes.of_steps (.one E) n,i,l⟩
  obtain⟨S,L,g,J,k,D,r⟩:=h;have E:=step_defer (cs:=cs) (s▸q) z k D;obtain⟨e,p,w',Q,B,j,G,C⟩:=r {fr with defers:=ds} cs s;cases e with
  |returned v=>
   have I:=step_going_returned (c:={{fr with defers:=ds} with mode:=p}) (cs:=cs) G C;obtain⟨x,m,fr',o,n,i,l⟩:=H (settle p) w' {{{fr with defers:=ds} with mode:=p} with mode:=settle p} cs rfl rfl A t y B;exact⟨x,m,fr',o,Comes.of_steps (.head E (Steps.trans j (.one I))) n,i,l⟩
  |panicked a=>
   have I:=step_going_panicked (c:={{fr with defers:=ds} with mode:=p}) (cs:=cs) C;obtain⟨x,m,fr',o,n,i,l⟩:=H (raised p a) w' {{{fr with defers:=ds} with mode:=p} with mode:=raised p a} cs rfl rfl A t y B;exact⟨x,m,fr',o,Comes.of_steps (.head E (Steps.trans j (.one I))) n,i,l⟩
  |outgrown=>grind
theorem Ix{q:FuncId}{F:Func}{vs:List Value}{R:Ending->World->Prop}(D:P.funcs[q]?=some F)(K:F.body=some c)(I:F.ntmps=N)(O:vs.length<=N)(h:WT P ⟨q,none,[]⟩ N [.code c] (Ajz P F N R) (Wo vs) w):Calls P q ⟨vs⟩ w R:=by
 intro m;let b:Frame:={(default:Frame) with fn:=q,kind:=.normal,roundOf:=none}
 have f:Frame.enter P q ⟨vs⟩ .normal=b.atR ⟨(vs++bi (N-vs.length) undef).toArray,[]⟩ [.code c]:=by simp [Frame.enter,Frame.atR,D,K,I,b]
 obtain⟨e,g,v,y⟩:=h b m (vs++bi (N-vs.length) undef).toArray ⟨by grind,λi=>by rw[<-L8,ay,a7];grind⟩ rfl rfl rfl
 rw[<-f]at y;cases e with
 |pan E H k=>
  obtain⟨a,t,A,z⟩:=y;obtain⟨C,o,r,s,n,d,p⟩:=Abg k (.panicking E) g {b.atR ⟨a,k⟩ t with mode:=.panicking E} m rfl rfl A D rfl v;exact⟨C,o,r,s,Comes.of_steps z n,d,p⟩
 |lv j H k=>
  obtain⟨a,t,A,G,z⟩:=y;have u:step P (lone (b.atR ⟨a,k⟩ t) m g)=.next (lone {b.atR ⟨a,k⟩ t with mode:=.returning} m g)->Lv P F N H R k .returning g->∃e g B,R e g/\Comes P (lone (Frame.enter P q ⟨vs⟩ .normal) m w) (lone B m g) e/\B.fn=q/\B.leaving P g e:=λx L=>by obtain⟨C,o,r,s,n,d,p⟩:=Abg k .returning g {b.atR ⟨a,k⟩ t with mode:=.returning} m rfl rfl A D rfl L;exact⟨C,o,r,s,Comes.of_steps (z.trans (.one x)) n,d,p⟩
  cases j with
  |none=>obtain rfl:t=[]:=G;exact u (stepR_end rfl) v
  |some j=>
   cases j with
   |ret=>obtain⟨M,rfl⟩:=G;exact u (stepR_ret rfl) v
   |_=>exact v.elim
section
variable {R:Qp->World->Prop} {Rp:List PanicEntry->World->Prop} {ops:Array Oper} {S:World->Prop} {n:Nat} {l:Array Bool} {E:List Nat} {w1:World} {V:Act->World->Prop}
def ZD(P:Program)(ops:Array Oper)(R:List PanicEntry->World->Prop)(i:Nat)(K:Act->World->Prop)(a:Act)(w:World):Prop:=match ops[i]? with
 |none=>False
 |some o=>if Region.wanted o (yielded ops a.tmps) then UP P R false (λv w'=>K (a.put o.dst v) w') ((execOp a.eval o).run P w) else K (a.put o.dst undef) w
theorem ZD.mono{i:Nat}{K K':Act->World->Prop}{a:Act}{w:World}(c:∀a w,K a w->K' a w)(h:ZD P ops Rp i K a w):ZD P ops Rp i K' a w:=by
 unfold ZD at *;split at h
 .omega
 .split at h
  .rename_i b;rw[UV b];exact h.mono λv w=>c _ _
  grind
def Wl(P:Program)(ops:Array Oper)(R:List PanicEntry->World->Prop)(V:Act->World->Prop)(S:World->Prop):Nat->Array Bool->Act->World->Prop
 |0,l,a,w=>Region.ready .any ops l=[]/\V a w
 |n+1,l,a,w=>(Region.ready .any ops l=[]->V a w)/\∀i∈Region.ready .any ops l,ZD P ops R i (λa' w'=>S w'/\Wl P ops R V S n (l.setIfInBounds i true) a' w') a w
def Xd(P:Program)(ops:Array Oper)(R:List PanicEntry->World->Prop)(V:Act->World->Prop)(S:World->Prop)(E:List Nat)(w1:World):Nat->Array Bool->Act->World->Prop
 |0,l,a,w=>Region.ready .any ops l=[]/\V a w
 |n+1,l,a,w=>(Region.ready .any ops l=[]->V a w)/\∀i∈Region.ready .any ops l,
  ZD P ops R i (λa' w'=>if E.contains i then S w'/\Wl P ops R V S n (l.setIfInBounds i true) a' w' else w'=w1/\Xd P ops R V S E w1 n (l.setIfInBounds i true) a' w') a w
theorem XO(c:S w1):∀(n:Nat)(l:Array Bool)(a:Act)(w:World),Xd P ops Rp V S E w1 n l a w->Wl P ops Rp V S n l a w
 |0,_,_,_,h=>h
 |n+1,l,a,w,h=>⟨h.1,λi e=>(h.2 i e).mono λf g b=>by
  by_cases d:E.contains i=true
  .grind
  .rw[GT d]at b;exact⟨b.1▸c,XO c n _ f g b.2⟩⟩
def WG(P:Program)(φ:FK)(N:Nat)(ops:Array Oper)(k:List Item)(R:Qp->World->Prop)(S:World->Prop)(n:Nat)(l:Array Bool)(f:Fr)(w:World):Prop:=∀a,Is N a f->Wl P ops (φ.at R) (λa w=>a.defers=φ.ds/\∃f,Is N a.tmps f/\WT P φ N k R f w) S n l ⟨a,φ.ds⟩ w
theorem OW{a:Act}{d:Option Tmp}{v:Value}:(a.put d v).defers=a.defers:=by cases d<;>rfl
theorem Sr{a:Act}{d:Option Tmp}{v:Value}:(a.put d v).tmps.size=a.tmps.size:=by cases d<;>simp [Act.put]
theorem OP:∀(n:Nat)(l:Array Bool)(a:Act)(w:World),a.defers=φ.ds->a.tmps.size=N->Wl P ops (φ.at R) (λa w=>a.defers=φ.ds/\∃f,Is N a.tmps f/\WT P φ N k R f w) S n l a w->wpAnyIn φ.Mt 0 P .any ops (Qx P φ N k R) n l a w
 |0,_,_,_,_,_,h=>h
 |n+1,l,⟨a,_⟩,w,e,c,h=>by
  simp only at e;subst e;refine⟨h.1,λi m=>?_⟩;have b:=h.2 i m;unfold ZD at b;unfold wpOpIn;split at b
  .grind
  .rename_i o j;simp only[j];split at b
   .rename_i d;simp only[d,if_true];exact U3 (λp w h=>⟨_,Aw8 c,h _⟩) (λv q g=>OP n _ _ _ OW (Sr.trans c) g.2) b
   .rename_i d;simp only[d,if_false,a1];exact⟨λ_ _=>trivial,OP n _ _ _ OW (Sr.trans c) b.2⟩
theorem Afc{id m:Nat}{l:Array Bool}(S:World->Prop)(c:P.follows .mixedOrders=true)(d:ops.size=m)(e:Array.replicate m false=l)(h:WG P φ N ops k R S m l f {w with drawn:=w.drawn+1}):WT P φ N (.code (.region id ops true)::k) R f w:=
 ZJ λa b=>wpIn_region_any c (by subst d e;exact OP _ _ _ _ rfl b.1 (h a b))
theorem Pp{i:Nat}{o:Oper}{K:Fr->World->Prop}{K':Act->World->Prop}{ds:List Deferred}{a:Array Value}(d:Is N a f)(hi:ops[i]?=some o)(k:∀f' w' a',Is N a' f'->K f' w'->K' ⟨a',ds⟩ w')(h:WL P N ops Rp false K [o] f w):ZD P ops Rp i K' ⟨a,ds⟩ w:=by
 unfold ZD;simp only[hi];simp only[WL]at h;rw[U0 d];have b:∀v w',K (put N f o.dst v) w'->K' (Act.put ⟨a,ds⟩ o.dst v) w':=λv w' j=>by obtain⟨a',g,e⟩:=d.put o.dst v;rw[g];grind
 split at h
 .rename_i c;simp only[c,if_true];rw[G4 d];exact h.mono b
 grind
end
end
section
abbrev Cc:=Nat->Prop
abbrev Bd:=List (Nat×Obj)
structure Ext(I:Cc)(w:World)(I':Cc)(w':World):Prop where
 os:w'.os=w.os
 tape:w'.tape=w.tape
 output:w'.output=w.output
 size:w.heap.size<=w'.heap.size
 sub:∀b,I b->I' b
 BD:∀b,I b->w'.heap[b]?=w.heap[b]?
theorem Ext.refl(I:Cc)(w:World):Ext I w I w:=⟨rfl,rfl,rfl,ae _,λ_ h=>h,λ_ _=>rfl⟩
variable {I:Cc} {w w':World}
theorem Ext.trans{I' I'':Cc}{w'':World}(h:Ext I w I' w')(k:Ext I' w' I'' w''):Ext I w I'' w'':=⟨k.os.trans h.os,k.tape.trans h.tape,k.output.trans h.output,b6 h.size k.size,λb a=>k.sub b (h.sub b a),λb a=>(k.BD b (h.sub b a)).trans (h.BD b a)⟩
structure St(I:Cc)(w:World)(T:Bd):Prop where
 imm:∀b,I b->b<w.heap.size
 own:∀p∈T,w.heap[p.1]?=some p.2/\¬I p.1
 nodup:(T.map (·.1)).Nodup
variable {T:Bd}
theorem St.perm{T':Bd}(h:St I w T)(a:T.Perm T'):St I w T':=⟨h.imm,λp b=>h.own p (a.symm.mem_iff.1 b),(a.map _).nodup_iff.1 h.nodup⟩
theorem St.W8{A B:Bd}(h:St I w (A++(B++T))):St I w (B++(A++T)):=
 h.perm (by rw[<-a0,<-a0];exact aw.append_right _)
theorem St.drop{A:Bd}(h:St I w (A++T)):St I w T:=
 ⟨h.imm,λp a=>h.own p (ax _ a),by have:=h.nodup;rw[bf,b7]at this;exact this.2.1⟩
theorem St.freeze{I:Cc}{w:World}{A T:Bd}(h:St I w (A++T)):Ext I w (λb=>I b∨∃p∈A,p.1=b) w/\St (λb=>I b∨∃p∈A,p.1=b) w T:=by
 refine⟨⟨rfl,rfl,rfl,ae _,λ_ a=>.inl a,λ_ _=>rfl⟩,?_,?_,h.drop.nodup⟩
 .rintro b (a|⟨p,c,rfl⟩)
  .exact h.imm b a
  .have:=(h.own p (c0 _ c)).1;exact(ai.1 this).1
 .intro p c;refine⟨(h.own p (ax _ c)).1,?_⟩;rintro(a|⟨q,e,f⟩)
  .exact(h.own p (ax _ c)).2 a
  .have d:=h.nodup;rw[bf,b7]at d;exact d.2.2 q.1 (am e) p.1 (am c) f
theorem World.WI(w:World)(o:Obj):(w.alloc o).heap[w.heap.size]?=some o:=by show (w.heap.push o)[w.heap.size]?=_;rw[Array.getElem?_push,UV rfl]
theorem St.alloc(h:St I w T)(o:Obj):Ext I w I (w.alloc o)/\St I (w.alloc o) ([(w.heap.size,o)]++T):=by
 have d:∀b,b<w.heap.size->(w.alloc o).heap[b]?=w.heap[b]?:=λb c=>Below.heap_alloc w o b c;have e:∀p∈T,p.1<w.heap.size:=λp a=>(ai.1 (h.own p a).1).1;refine⟨⟨rfl,rfl,rfl,by simp,λ_ c=>c,λb c=>d b (h.imm b c)⟩,?_,?_,?_⟩
 .intro b c;have:=h.imm b c;simp;omega
 .intro p a;rcases ci.1 a with a|a
  .obtain rfl:p=(w.heap.size,o):=by simpa using a
   refine⟨World.WI w o,λc=>?_⟩;have:=h.imm _ c;simp at this
  .exact⟨by rw[d _ (e p a)];exact(h.own p a).1,(h.own p a).2⟩
 .simp only[bb,ar,av,cj];refine⟨λf=>?_,h.nodup⟩;obtain⟨p,a,g⟩:=c9.1 f;have:=e p a;omega
theorem St.write{b:Nat}{o o':Obj}(h:St I w ([(b,o)]++T))(k:w'.os=w.os)(n:w'.tape=w.tape)(f:w'.output=w.output)(hs:w'.heap.size=w.heap.size)(l:w'.heap[b]?=some o')(g:∀c,c≠b->w'.heap[c]?=w.heap[c]?):Ext I w I w'/\St I w' ([(b,o')]++T):=by
 have m:∀c,I c->c≠b:=λc d e=>by subst e;exact(h.own (c,o) (by simp)).2 d
 have i:=h.nodup;simp only[bb,ar,av,cj]at i;refine⟨⟨k,n,f,by omega,λ_ h=>h,λc d=>g c (m c d)⟩,λc d=>by rw[hs];exact h.imm c d,?_,by simpa using i⟩;intro p a;simp only[bb,ar,cp]at a;rcases a with rfl|a
 .exact⟨l,(h.own (b,o) (by simp)).2⟩
 .have j:p.1≠b:=λe=>i.1 (by rw[<-e];exact am a);have:=h.own p (by simp [a]);exact⟨by rw[g _ j];exact this.1,this.2⟩
theorem St.drew(h:St I w T)(n:Nat):Ext I w I {w with drawn:=n}/\St I {w with drawn:=n} T:=
 ⟨⟨rfl,rfl,rfl,ae _,λ_ h=>h,λ_ _=>rfl⟩,h.imm,h.own,h.nodup⟩
def Di(w:World)(a:Addr)(v:Value):Prop:=a.spot=none/\∀j,j<v.cells.size->w.cell? ⟨a.block,a.off+j,none⟩=v.cells[j]?
theorem cell?_of_heap{a:Addr}(h:w'.heap[a.block]?=w.heap[a.block]?):w'.cell? a=w.cell? a:=by simp only[World.cell?,h]
theorem Di.mono{I I':Cc}{w w':World}{a:Addr}{v:Value}(h:Ext I w I' w')(c:I a.block)(b:Di w a v):Di w' a v:=⟨b.1,λj d=>(cell?_of_heap (a:=⟨a.block,a.off+j,none⟩) (h.BD _ c)).trans (b.2 j d)⟩
def NA:Nat:=9223372036854775807
class AP(α:Type) where
 size:Nat
 agg:Bool
 rep:Cc->World->Value->α->Prop
 pos:0<size
 cells:∀{I w v x},rep I w v x->v.cells.size=size
 form:∀{I w v x},rep I w v x->if agg then ∃cs,v=.agg cs else v.cells=#[v]
 one:∀{I w v x},rep I w v x->∀c∈v.cells.toList,c.oneCell'=true
 mono:∀{I w I' w' v x},Ext I w I' w'->rep I w v x->rep I' w' v x
abbrev rep{α:Type}[AP α](I:Cc)(w:World)(v:Value)(x:α):Prop:=AP.rep I w v x
theorem Ext.rep{α:Type}[AP α]{I I':Cc}{w w':World}{v:Value}{x:α}(h:Ext I w I' w')(r:rep I w v x):X.rep I' w' v x:=AP.mono h r
structure Apd(v:Value)(n:Int):Prop where
 eq:v=.int .i64 n
 lo:-9223372036854775808<=n
 hi:n<=9223372036854775807
instance:AP Int where
 size:=1
 agg:=false
 rep _ _ v n:=Apd v n
 pos:=by decide
 cells h:=by rw[h.eq];rfl
 form h:=by rw[h.eq];simp [Value.cells]
 one h:=by rw[h.eq];simp [Value.cells,Value.oneCell']
 mono _ h:=h
instance:AP Bool where
 size:=1
 agg:=false
 rep _ _ v b:=v=.bool b
 pos:=by decide
 cells h:=by subst h;rfl
 form h:=by subst h;simp [Value.cells]
 one h:=by subst h;simp [Value.cells,Value.oneCell']
 mono _ h:=h
instance:AP ByteArray where
 size:=1
 agg:=false
 rep _ _ v s:=v=.string s/\s.size<=NA
 pos:=by decide
 cells h:=by rw[h.1];rfl
 form h:=by rw[h.1];simp [Value.cells]
 one h:=by rw[h.1];simp [Value.cells,Value.oneCell']
 mono _ h:=h
def Ahw{α:Type}[AP α](I:Cc)(w:World)(a:Option Addr)(xs:List α):Prop:=xs=[]∨∃b off,a=some ⟨b,off,none⟩/\I b/\∀j(h:j<xs.length),∃v,rep I w v xs[j]/\Di w ⟨b,off+j*AP.size α,none⟩ v
theorem Ahw.mono{α:Type}[AP α]{I I':Cc}{w w':World}{a:Option Addr}{xs:List α}(h:Ext I w I' w')(e:Ahw I w a xs):Ahw I' w' a xs:=by
 rcases e with e|⟨b,c,k,d,g⟩
 .exact .inl e
 .refine .inr ⟨b,c,k,h.sub b d,λj l=>?_⟩;obtain⟨v,i,f⟩:=g j l;exact⟨v,h.rep i,Di.mono h d f⟩
structure Acp{α:Type}[AP α](I:Cc)(w:World)(v:Value)(xs:List α):Prop where
 ex:∃a cap,v=.slice a xs.length cap/\xs.length<=cap/\cap<=NA/\Ahw I w a xs
instance {α:Type} [AP α]:AP (List α) where
 size:=1
 agg:=false
 rep I w v xs:=Acp I w v xs
 pos:=by decide
 cells h:=by obtain⟨a,cap,h,_⟩:=h.ex;rw[h];rfl
 form h:=by obtain⟨a,cap,h,_⟩:=h.ex;rw[h];simp [Value.cells]
 one h:=by obtain⟨a,cap,h,_⟩:=h.ex;rw[h];simp [Value.cells,Value.oneCell']
 mono h r:=by obtain⟨a,cap,h1,h2,h3,h4⟩:=r.ex;exact⟨a,cap,h1,h2,h3,h4.mono h⟩
theorem Afz{α:Type}[AP α]{I:Cc}{w:World}{a:Option Addr}{cap:Nat}(h:cap<=NA):rep I w (.slice a 0 cap) ([]:List α):=⟨a,cap,rfl,cg _,h,.inl rfl⟩
end
section
section
variable {P:Program} {N:Nat} {ops:Array Oper} {R:List PanicEntry->World->Prop} {m:Bool} {K:Fr->World->Prop} {os:List Oper} {f:Fr} {w:World}
variable {dst:Option Tmp} {ty:TypeId} {pos:String} {af:Array Edge}
variable {op:Op}
theorem Aw{v:Value}{w':World}(a:(execOp (ev f) ⟨dst,op,ty,pos,af,none⟩).run P w=.ok (.value v) w')(h:WL P N ops R m K os (put N f dst v) w'):WL P N ops R m K (⟨dst,op,ty,pos,af,none⟩::os) f w:=by simp_all[WL,Region.wanted,UP]
theorem MH{w':World}(a:(execOp (ev f) ⟨dst,op,ty,pos,af,none⟩).run P w=.ok .skip w')(h:WL P N ops R false K os (put N f dst undef) w'):WL P N ops R false K (⟨dst,op,ty,pos,af,none⟩::os) f w:=by simp_all[WL,Region.wanted,UP]
theorem Akp{g:Nat×Bool}(a:Region.wanted ⟨dst,op,ty,pos,af,some g⟩ (yl ops f)=true)(h:WL P N ops R m K (⟨dst,op,ty,pos,af,none⟩::os) f w):WL P N ops R m K (⟨dst,op,ty,pos,af,some g⟩::os) f w:=by simp only[WL,Region.wanted,if_true]at h;simp only[WL,a,if_true];exact h
theorem Afe{o:Oper}(a:Region.wanted o (yl ops f)=false)(h:WL P N ops R m K os (put N f o.dst undef) w):WL P N ops R m K (o::os) f w:=by simp_all[WL,a1]
theorem Af9{c a b:Operand}(v:Value)(d:ev f c=.bool true)(e:ev f a=v)(h:WL P N ops R m K os (put N f dst v) w):WL P N ops R m K (⟨dst,.pick c a b,ty,pos,af,none⟩::os) f w:=
 Aw (by simp_all[execOp,asBool]) h
theorem Aga{c a b:Operand}(v:Value)(d:ev f c=.bool false)(e:ev f b=v)(h:WL P N ops R m K os (put N f dst v) w):WL P N ops R m K (⟨dst,.pick c a b,ty,pos,af,none⟩::os) f w:=
 Aw (by simp_all[execOp,asBool]) h
variable {x y:Operand} {kd:IntKind} {a b:Int} {t u:TypeId}
variable {op:BinOp}
theorem Ajf(w:World):(eqGuard op t x y (.int kd a) (.int kd b)).run P w=.ok () w:=by simp only[eqGuard];cases op<;>simp
theorem R0{v:Value}(c:ev f x=.int kd a)(e:ev f y=.int kd b)(d:(binOp op t (.int kd a) (.int kd b)).run P w=.ok v w)(h:WL P N ops R m K os (put N f dst v) w):WL P N ops R m K (⟨dst,.binOp op t x y u,ty,pos,af,none⟩::os) f w:=
 Aw (by simp_all[execOp,Sem.run_bind,Ajf,Result.andThen_ok]) h
theorem Agc(d:ev f x=.int kd a)(c:ev f y=.int kd b)(h:WL P N ops R m K os (put N f dst (.int kd (kd.wrap (a+b)))) w):WL P N ops R m K (⟨dst,.binOp .add t x y u,ty,pos,af,none⟩::os) f w:=R0 d c (by simp [binOp,Op.intArith]) h
theorem Ato(d:ev f x=.int kd a)(c:ev f y=.int kd b)(h:WL P N ops R m K os (put N f dst (.int kd (kd.wrap (a-b)))) w):WL P N ops R m K (⟨dst,.binOp .sub t x y u,ty,pos,af,none⟩::os) f w:=R0 d c (by simp [binOp,Op.intArith]) h
theorem Atr(d:ev f x=.int kd a)(c:ev f y=.int kd b)(h:WL P N ops R m K os (put N f dst (.int kd (kd.wrap (a*b)))) w):WL P N ops R m K (⟨dst,.binOp .mul t x y u,ty,pos,af,none⟩::os) f w:=R0 d c (by simp [binOp,Op.intArith]) h
theorem Uj{n:Int}(a:-9223372036854775808<=n)(b:n<=9223372036854775807):IntKind.i64.wrap n=n:=IntWalk.i64_in _ ⟨a,b⟩
def Ab9:BinOp->Int->Int->Prop
 | .eql,a,b=>a=b
 | .neq,a,b=>a≠b
 | .lss,a,b=>a<b
 | .leq,a,b=>a<=b
 | .gtr,a,b=>b<a
 | .geq,a,b=>b<=a
 |_,_,_=>False
instance (op:BinOp) (a b:Int):Decidable (Ab9 op a b):=by cases op<;>simp only[Ab9]<;>infer_instance
def Oq:BinOp->Bool
 | .eql | .neq | .lss | .leq | .gtr | .geq=>true
 |_=>false
theorem Aqh(ho:Oq op=true):(binOp op t (.int kd a) (.int kd b)).run P w=.ok (.bool (decide (Ab9 op a b))) w:=by
 cases op<;>first|(simp [Oq]at ho;done)|skip
 all_goals simp only[binOp,Op.intCmp,Ab9,ne_eq,not_true_eq_false,if_false,Sem.run_pure]
 all_goals first|rfl|(congr 2;grind)
theorem Av7(d:Oq op=true)(c:ev f x=.int kd a)(e:ev f y=.int kd b)(h:WL P N ops R m K os (put N f dst (.bool (decide (Ab9 op a b)))) w):WL P N ops R m K (⟨dst,.binOp op t x y u,ty,pos,af,none⟩::os) f w:=R0 c e (Aqh d) h
theorem X5(e:Oq op=true)(h:ev f x=.int kd a)(g:ev f y=.int kd b)(d:Ab9 op a b->WL P N ops R m K os (put N f dst (.bool true)) w)(i:¬Ab9 op a b->WL P N ops R m K os (put N f dst (.bool false)) w):WL P N ops R m K (⟨dst,.binOp op t x y u,ty,pos,af,none⟩::os) f w:=by refine Av7 e h g ?_;by_cases c:Ab9 op a b;all_goals grind
section
variable (hx:ev f x=.int kd a) (hy:ev f y=.int kd b)
include hx hy
theorem Az4(h1:a<b->WL P N ops R m K os (put N f dst (.bool true)) w)(h0:¬a<b->WL P N ops R m K os (put N f dst (.bool false)) w):WL P N ops R m K (⟨dst,.binOp .lss t x y u,ty,pos,af,none⟩::os) f w:=X5 rfl hx hy h1 h0
theorem Az5(h1:a<=b->WL P N ops R m K os (put N f dst (.bool true)) w)(h0:¬a<=b->WL P N ops R m K os (put N f dst (.bool false)) w):WL P N ops R m K (⟨dst,.binOp .leq t x y u,ty,pos,af,none⟩::os) f w:=X5 rfl hx hy h1 h0
theorem Az6(h1:b<a->WL P N ops R m K os (put N f dst (.bool true)) w)(h0:¬b<a->WL P N ops R m K os (put N f dst (.bool false)) w):WL P N ops R m K (⟨dst,.binOp .gtr t x y u,ty,pos,af,none⟩::os) f w:=X5 rfl hx hy h1 h0
theorem Az7(h1:b<=a->WL P N ops R m K os (put N f dst (.bool true)) w)(h0:¬b<=a->WL P N ops R m K os (put N f dst (.bool false)) w):WL P N ops R m K (⟨dst,.binOp .geq t x y u,ty,pos,af,none⟩::os) f w:=X5 rfl hx hy h1 h0
theorem A0a(h1:a=b->WL P N ops R m K os (put N f dst (.bool true)) w)(h0:¬a=b->WL P N ops R m K os (put N f dst (.bool false)) w):WL P N ops R m K (⟨dst,.binOp .eql t x y u,ty,pos,af,none⟩::os) f w:=X5 rfl hx hy h1 h0
theorem Az1(d:¬a=b->WL P N ops R m K os (put N f dst (.bool true)) w)(c:a=b->WL P N ops R m K os (put N f dst (.bool false)) w):WL P N ops R m K (⟨dst,.binOp .neq t x y u,ty,pos,af,none⟩::os) f w:=X5 rfl hx hy d (λh=>c (Decidable.of_not_not h))
theorem Aml(h:WL P N ops R m K os (put N f dst (.bool (decide (a<b)))) w):WL P N ops R m K (⟨dst,.binOp .lss t x y u,ty,pos,af,none⟩::os) f w:=Az4 hx hy (λc=>by grind) (λc=>by grind)
theorem Av3(h:WL P N ops R m K os (put N f dst (.bool (decide (a<=b)))) w):WL P N ops R m K (⟨dst,.binOp .leq t x y u,ty,pos,af,none⟩::os) f w:=Az5 hx hy (λc=>by grind) (λc=>by grind)
theorem Av4(h:WL P N ops R m K os (put N f dst (.bool (decide (b<a)))) w):WL P N ops R m K (⟨dst,.binOp .gtr t x y u,ty,pos,af,none⟩::os) f w:=Az6 hx hy (λc=>by grind) (λc=>by grind)
theorem Av5(h:WL P N ops R m K os (put N f dst (.bool (decide (b<=a)))) w):WL P N ops R m K (⟨dst,.binOp .geq t x y u,ty,pos,af,none⟩::os) f w:=Az7 hx hy (λc=>by grind) (λc=>by grind)
theorem Av6(h:WL P N ops R m K os (put N f dst (.bool (decide (a=b)))) w):WL P N ops R m K (⟨dst,.binOp .eql t x y u,ty,pos,af,none⟩::os) f w:=A0a hx hy (λc=>by grind) (λc=>by grind)
theorem Amk(h:WL P N ops R m K os (put N f dst (.bool (!decide (a=b)))) w):WL P N ops R m K (⟨dst,.binOp .neq t x y u,ty,pos,af,none⟩::os) f w:=Az1 hx hy (λc=>by grind) (λc=>by grind)
end
theorem ZL{R:Qp->World->Prop}{φ:FK}{k:List Item}{c:Operand}{x y:Code}{p:Prop}[Decidable p](d:ev f c=.bool (decide p))(a:p->WT P φ N (.code x::k) R f w)(b:¬p->WT P φ N (.code y::k) R f w):WT P φ N (.code (.cond c x y)::k) R f w:=Ys d (λh=>a (of_decide_eq_true h)) (λh=>b (of_decide_eq_false h))
variable {c:Bool}
theorem Atp(a:ev f x=.bool c)(h:WL P N ops R m K os (put N f dst (.bool (!c))) w):WL P N ops R m K (⟨dst,.unOp .not t x,ty,pos,af,none⟩::os) f w:=
 Aw (by simp [execOp,a,Op.unary]) h
theorem Atq(hx:ev f x=.int kd a)(h:WL P N ops R m K os (put N f dst (.int kd (kd.wrap (0-a)))) w):WL P N ops R m K (⟨dst,.unOp .neg t x,ty,pos,af,none⟩::os) f w:=
 Aw (by simp_all[execOp,Op.unary,Op.intArith]) h
theorem run_equalIn_bool(n:Nat)(c d:Bool)(a:P.underlying t=some .bool):(Op.equalIn (n+1) t (.bool c) (.bool d)).run P w=.ok (c == d) w:=by simp [Op.equalIn,run_underlying a]
variable {d:Bool}
theorem run_eql_bool(a:P.underlying t=some .bool):(binOp .eql t (.bool c) (.bool d)).run P w=.ok (.bool (c == d)) w:=by simp only[binOp,Op.equal,Sem.run_bind,Op.maxDepth,run_equalIn_bool 9999 c d a,Result.andThen_ok,Sem.run_pure]
theorem run_neq_bool(a:P.underlying t=some .bool):(binOp .neq t (.bool c) (.bool d)).run P w=.ok (.bool (!(c == d))) w:=by simp only[binOp,Op.equal,Sem.run_bind,Op.maxDepth,run_equalIn_bool 9999 c d a,Result.andThen_ok,Sem.run_pure]
theorem Vz{op:BinOp}(w:World):(eqGuard op t x y (.bool c) (.bool d)).run P w=.ok () w:=by simp only[eqGuard];cases op<;>simp
theorem A0b(a:ev f x=.bool c)(e:ev f y=.bool d)(b:P.underlying t=some .bool)(h:WL P N ops R m K os (put N f dst (.bool (c==d))) w):WL P N ops R m K (⟨dst,.binOp .eql t x y u,ty,pos,af,none⟩::os) f w:=
 Aw (by simp_all[execOp,Sem.run_bind,Vz,Result.andThen_ok,run_eql_bool]) h
theorem Az3(a:ev f x=.bool c)(e:ev f y=.bool d)(b:P.underlying t=some .bool)(h:WL P N ops R m K os (put N f dst (.bool (!(c==d)))) w):WL P N ops R m K (⟨dst,.binOp .neq t x y u,ty,pos,af,none⟩::os) f w:=
 Aw (by simp_all[execOp,Sem.run_bind,Vz,Result.andThen_ok,run_neq_bool]) h
theorem Ai4{vs:Array Value}{i:Nat}{v:Value}(hx:ev f x=.tuple vs)(hv:vs[i]?=some v)(h:WL P N ops R m K os (put N f dst v) w):WL P N ops R m K (⟨dst,.extract x i,ty,pos,af,none⟩::os) f w:=Aw (by simp_all[execOp,Instr.extract]) h
variable {vs:List Value}
theorem Vd{g:Fn}{fs cs:Array Operand}{us:List Value}(hf:fs.toList.map (ev f)=vs)(hc:cs.toList.map (ev f)=us)(h:WL P N ops R m K os (put N f dst (.func g ⟨vs⟩ ⟨us⟩)) w):WL P N ops R m K (⟨dst,.makeFunc g fs cs,ty,pos,af,none⟩::os) f w:=
 Aw (by subst hf hc;simp [execOp,Instr.makeFunc];grind) h
theorem Q6{a:Addr}(b:ev f x=.pointer (some a))(h:WL P N ops R m K os (put N f dst (.pointer (some a))) w):WL P N ops R m K (⟨dst,.nilCheck x,ty,pos,af,none⟩::os) f w:=
 Aw (by simp [execOp,b]) h
def CO(P:Program)(g:FuncId):Bool:=match P.funcs[g]? with
 |some F=>F.name != "runtime.NumGoroutine"&&F.body.isSome
 |none=>false
variable {g:FuncId}
theorem Mo{vs:Array Value}(hg:CO P g=true):(callFunc g vs).run P w=.ok (.enter g vs) w:=by
 unfold CO at hg;cases h:P.funcs[g]? with
 |none=>grind
 |some F=>
  simp only[h,a3,bne_iff_ne,ne_eq]at hg;have h2:F.body.isNone=false:=by simp_all
  have h1:(F.name== "runtime.NumGoroutine")=false:=by grind
  simp only[callFunc,Sem.run_bind,run_program,Result.andThen_ok,h,h1,h2,a1,if_false,Sem.run_pure]
theorem Vi{aE:Array Operand}{at_:Array TypeId}(hg:CO P g=true)(ha:aE.toList.map (ev f)=vs)(h:Calls P g ⟨vs⟩ w λe w'=>match e with
   | .returned v=>WL P N ops R false K os (put N f dst v) w'
   | .panicked ch=>R ch w'
   | .outgrown=>False):WL P N ops R false K (⟨dst,.call ⟨.value (.func g),aE,at_⟩,ty,pos,af,none⟩::os) f w:=by
 have he:(execOp (ev f) ⟨dst,.call ⟨.value (.func g),aE,at_⟩,ty,pos,af,none⟩).run P w=.ok (.enter g ⟨vs⟩) w:=by subst ha;simp [execOp,resolve,ev,Deferred.ofValue,invoke,Mo hg];rw[<-bq]
 simp only[WL,Region.wanted,if_true,he,UP]
 grind
theorem Agb{fv:Operand}{first captured:Array Value}{aE:Array Operand}{at_:Array TypeId}(hv:ev f fv=.func (.func g) first captured)(hg:CO P g=true)(ha:first.toList++aE.toList.map (ev f)++captured.toList=vs)(h:Calls P g ⟨vs⟩ w λe w'=>match e with
   | .returned v=>WL P N ops R false K os (put N f dst v) w'
   | .panicked ch=>R ch w'
   | .outgrown=>False):WL P N ops R false K (⟨dst,.call ⟨.value fv,aE,at_⟩,ty,pos,af,none⟩::os) f w:=by
 have he:(execOp (ev f) ⟨dst,.call ⟨.value fv,aE,at_⟩,ty,pos,af,none⟩).run P w=.ok (.enter g ⟨vs⟩) w:=by simp_all[execOp,resolve,Deferred.ofValue,invoke,Mo]
 simp only[WL,Region.wanted,if_true,he,UP]
 grind
end
end
section
def Axa:TypeDesc->Bool
 | .struct _ | .array _ _=>true
 |_=>false
def OZ(P:Program)(t:TypeId)(agg:Bool)(sz:Nat):Bool:=match P.underlying t,P.info? t with
 |some d,some i=>Axa d==agg&&i.size==sz
 |_,_=>false
def Wn(P:Program)(t e:TypeId)(sz nb:Nat):Bool:=match P.underlying t,P.info? e with
 |some (.slice e'),some i=>e'==e&&i.size==sz&&i.bytes==nb&&(match i.zero with |some z=>z.cells.size==sz |none=>false)
 |_,_=>false
section
variable {P:Program} {w:World} {t e:TypeId} {sz nb:Nat}
theorem GB{agg:Bool}(h:OZ P t agg sz=true):(isAgg t).run P w=.ok agg w/\(sizeOf t).run P w=.ok sz w:=by
 unfold OZ at h;cases a:P.underlying t with
 |none=>simp [a]at h
 |some d=>
  cases b:P.info? t with
  |none=>simp [a,b]at h
  |some i=>
   simp only[a,b,a3,beq_iff_eq]at h;obtain⟨rfl,rfl⟩:=h;refine⟨?_,by simp [sizeOf,typeInfo,b]⟩;simp only[isAgg,Sem.run_bind,run_underlying a,Result.andThen_ok];cases d<;>rfl
structure Slc(P:Program)(t e:TypeId)(sz nb:Nat):Prop where
 under:P.underlying t=some (.slice e)
 info:∃i z,P.info? e=some i/\i.size=sz/\i.bytes=nb/\i.zero=some z/\z.cells.size=sz
theorem EE(h:Wn P t e sz nb=true):Slc P t e sz nb:=by
 unfold Wn at h;cases a:P.underlying t with
 |none=>simp [a]at h
 |some d=>
  cases f:P.info? e with
  |none=>cases d<;>simp [a,f]at h
  |some i=>
   cases d<;>simp only[a,f,a1]at h;rename_i k;simp only[a3,beq_iff_eq]at h;obtain⟨⟨⟨rfl,g⟩,j⟩,b⟩:=h;cases c:i.zero with
   |none=>simp [c]at b
   |some z=>simp only[c,beq_iff_eq]at b;exact⟨a,i,z,f,g,j,c,b⟩
theorem Slc.size(h:Slc P t e sz nb):(sizeOf e).run P w=.ok sz w:=by obtain⟨i,z,a,b,_⟩:=h.info;simp [sizeOf,typeInfo,a,b]
theorem DF(b o n:Nat):(⟨b,o,none⟩:Addr).add n=⟨b,o+n,none⟩:=by
 unfold Addr.add;split
 .subst n;rfl
 .rfl
theorem NW{a:Addr}{v:Value}(c:Di w a v):(loadCells a v.cells.size).run P w=.ok v.cells w:=by
 obtain⟨b,o,s⟩:=a;obtain⟨f,c⟩:=c;simp only at f;subst f;have:=run_loadCells_list (P:=P) (w:=w) ⟨b,o,none⟩ v.cells.toList (λj u e=>by rw[DF];rw[a2]at e;have d:=(ai.1 e).1;rw[c j d,e])
 simpa using this
end
section
variable {P:Program} {N:Nat} {ops:Array Oper} {R:List PanicEntry->World->Prop} {m:Bool} {K:Fr->World->Prop} {os:List Oper} {f:Fr} {w:World}
variable {dst:Option Tmp} {ty:TypeId} {pos:String} {af:Array Edge} {I:Cc} {T:Bd} {x y:Operand} {t e u:TypeId} {sz nb:Nat}
def flB(P:Program)(t:TypeId)(i off:Nat):Bool:=match P.underlying t with
 |some (.struct fs)=>match fs[i]? with
  |some fd=>fd.offset==off&&(match P.info? fd.type with |some j=>j.size != 0 |none=>false)
  |none=>false
 |_=>false
theorem Ar4{i off:Nat}(h:flB P t i off=true){a:Addr}:(Instr.fieldAt t (.pointer (some a)) i).run P w=.ok (.pointer (some (a.add off))) w:=by
 unfold flB at h;cases e:P.underlying t with
 |none=>simp [e]at h
 |some d=>
  cases d<;>simp only[e,a1]at h;rename_i f;cases c:f[i]? with
  |none=>simp [c]at h
  |some k=>
   simp only[c]at h;cases b:P.info? k.type with
   |none=>simp [b]at h
   |some j=>
    simp only[b,a3,beq_iff_eq,bne_iff_ne,ne_eq]at h;obtain⟨rfl,g⟩:=h;simp [Instr.fieldAt,run_underlying e,c,Instr.sureAddr,fieldPlace,sizeOf,typeInfo,b,g]
end
end
section
variable {α:Type}
def Dv[AP α](I:Cc)(w:World)(get:Nat->Option Value)(xs:List α):Prop:=∀j(h:j<xs.length),∃u,rep I w u xs[j]/\∀i,i<u.cells.size->get (j*AP.size α+i)=u.cells[i]?
theorem Dv.mono{α:Type}[AP α]{I I':Cc}{w w':World}{get:Nat->Option Value}{xs:List α}(h:Ext I w I' w')(e:Dv I w get xs):Dv I' w' get xs:=λj b=>by obtain⟨u,a,c⟩:=e j b;exact⟨u,h.rep a,c⟩
theorem Dv.append[AP α]{I:Cc}{w:World}{g1 g2 g:Nat->Option Value}{xs ys:List α}(k:Dv I w g1 xs)(o:Dv I w g2 ys)(l:∀i,i<xs.length*AP.size α->g i=g1 i)(m:∀i,i<ys.length*AP.size α->g (xs.length*AP.size α+i)=g2 i):Dv I w g (xs++ys):=by
 have h:∀{n j i:Nat},j<n->i<AP.size α->j*AP.size α+i<n*AP.size α:=λ{n j i}d b=>by have:(j+1)*AP.size α<=n*AP.size α:=a4 _ d;grind
 intro j d;by_cases f:j<xs.length
 .obtain⟨u,c,e⟩:=k j f;grind[b5,AP.cells]
 .have a:j-xs.length<ys.length:=by grind
  obtain⟨u,c,e⟩:=o (j-xs.length) a;refine⟨u,by grind,λi b=>?_⟩;have:=m ((j-xs.length)*AP.size α+i) (h a (by grind[AP.cells]));rw[<-ac,<-a5,Nat.add_sub_cancel' (by omega)]at this;grind
structure Bx{α:Type}[AP α](I:Cc)(w:World)(A:Bd)(v:Value)(xs:List α):Prop where
 ex:(v=.slice none 0 0/\xs=[]/\A=[])∨∃b arr cap e0 off,A=[(b,.cells arr e0 (0,0))]/\v=.slice (some ⟨b,off,none⟩) xs.length cap/\xs.length<=cap/\cap<=maxLen/\off+cap*AP.size α<=arr.size/\
  Dv I w (λi=>arr[off+i]?) xs
theorem Bx.Td[AP α]{I:Cc}{w:World}{b cap n:Nat}{arr:Array Value}{e0:TypeId}{xs:List α}(d:n=xs.length)(a:xs.length<=cap)(f:cap<=maxLen)(c:cap*AP.size α<=arr.size)(e:Dv I w (arr[·]?) xs):Bx I w [(b,.cells arr e0 (0,0))] (.slice (some ⟨b,0,none⟩) n cap) xs:=
 ⟨.inr ⟨b,arr,cap,e0,0,rfl,by rw[d],a,f,by omega,by grind⟩⟩
theorem Bx.mono{α:Type}[AP α]{I I':Cc}{w w':World}{A:Bd}{v:Value}{xs:List α}(h:Ext I w I' w')(o:Bx I w A v xs):Bx I' w' A v xs:=by
 rcases o.ex with o|⟨b,d,a,g,c,l,j,k,i,e,f⟩
 .exact⟨.inl o⟩
 .exact⟨.inr ⟨b,d,a,g,c,l,j,k,i,e,f.mono h⟩⟩
theorem Bx.nil{α:Type}[AP α]{I:Cc}{w:World}:Bx I w [] (.slice none 0 0) ([]:List α):=⟨.inl ⟨rfl,rfl,rfl⟩⟩
theorem Bx.len{α:Type}[AP α]{I:Cc}{w:World}{A:Bd}{v:Value}{xs:List α}(o:Bx I w A v xs):∃a cap,v=.slice a xs.length cap/\xs.length<=9223372036854775807:=by
 rcases o.ex with ⟨rfl,rfl,rfl⟩|⟨b,f,cap,h,e,k,c,j,d,g,i⟩
 .simp
 grind[maxLen]
variable {v:Value}
theorem Bx.cast[AP α]{I:Cc}{w:World}{A:Bd}{xs ys:List α}(h:xs=ys)(o:Bx I w A v xs):Bx I w A v ys:=h▸o
theorem Bx.bd{α:Type}[AP α]{I:Cc}{w:World}{A:Bd}{v:Value}{xs:List α}(o:Bx I w A v xs):xs.length<=9223372036854775807:=by obtain⟨_,_,_,h⟩:=o.len;exact h
theorem Bo{w:World}{b o:Nat}{arr:Array Value}{e:TypeId}{fr:Nat×Nat}(h:w.heap[b]?=some (.cells arr e fr)):w.cell? ⟨b,o,none⟩=arr[o]?:=by grind[World.cell?]
theorem Bx.freeze{α:Type}[AP α]{I:Cc}{w:World}{A T:Bd}{v:Value}{xs:List α}(o:Bx I w A v xs)(hs:St I w (A++T)):∃I',Ext I w I' w/\St I' w T/\rep I' w v xs:=by
 rcases o.ex with ⟨rfl,rfl,rfl⟩|⟨b,d,a,k,e,rfl,rfl,g,p,s,n⟩
 .grind[Ext.refl,Afz,NA]
 .obtain⟨f,c⟩:=hs.freeze;refine⟨_,f,c,?_⟩;refine⟨⟨_,a,rfl,g,by grind[maxLen,NA],.inr ⟨b,e,rfl,.inr ⟨_,aj.2 rfl,rfl⟩,λj m=>?_⟩⟩⟩;obtain⟨u,l,q⟩:=n j m;refine⟨u,f.rep l,rfl,λi h=>?_⟩;have r:=(hs.own (b,.cells d k (0,0)) (by simp)).1;grind[Bo,ac]
theorem XE[AP α]{I:Cc}{w:World}{xs:List α}(h:rep I w v xs)(r:xs≠[]):∃a cap,v=.slice (some a) xs.length cap/\∃news:List Value,news.length=xs.length*AP.size α/\(∀j u,news[j]?=some u->w.cell? (a.add j)=some u)/\(∀u∈news,u.oneCell'=true)/\Dv I w (news[·]?) xs:=by
 obtain⟨a,cap,z,_,_,g⟩:=h.ex;rcases g with g|⟨b,c,rfl,C,g⟩
 .grind
 have y:0<AP.size α:=AP.pos;have o:∀n,n<xs.length*AP.size α->∃u,w.cell? ⟨b,c+n,none⟩=some u/\u.oneCell'=true/\∀(d:n/AP.size α<xs.length),True:=by
  intro n p;have d:n/AP.size α<xs.length:=(Nat.div_lt_iff_lt_mul y).2 p;obtain⟨v,l,t⟩:=g _ d;have f:n%AP.size α<v.cells.size:=by rw[AP.cells l];exact Nat.mod_lt _ y
  have:=t.2 _ f;have q:c+n/AP.size α*AP.size α+n%AP.size α=c+n:=by rw[ac,Nat.div_add_mod']
  rw[q,Array.getElem?_eq_getElem f]at this;exact⟨_,this,AP.one l _ (Array.getElem_mem_toList f),λ_=>trivial⟩
 refine⟨⟨b,c,none⟩,cap,z,(c6 (xs.length*AP.size α)).map λn=>(w.cell? ⟨b,c+n,none⟩).getD undef,by simp,?_,?_,?_⟩
 .intro j u e;rw[ca]at e;by_cases d:j<xs.length*AP.size α
  .rw[c3 d]at e;obtain⟨A,k,_⟩:=o j d;simp only[au,k,cd,Option.some.injEq]at e;rw[DF,k,e]
  grind
 .grind
 .intro j d;obtain⟨u,m,s⟩:=g j d;refine⟨u,m,λi f=>?_⟩;have x:j*AP.size α+i<xs.length*AP.size α:=by
   have k:i<AP.size α:=by grind[AP.cells]
   have:(j+1)*AP.size α<=xs.length*AP.size α:=a4 _ d;grind
  show (List.map _ _)[_]?=_;rw[ca,c3 x];have:=s.2 i f;grind
def grow(I:Cc)(A:Bd):Cc:=λb=>I b∨∃p∈A,p.1=b
theorem Bx.A30[AP α]{I:Cc}{w:World}{A T:Bd}{xs:List α}(o:Bx I w A v xs)(hs:St I w (A++T)):Ext I w (grow I A) w/\St (grow I A) w T/\rep (grow I A) w v xs:=by
 obtain⟨f,c⟩:=hs.freeze;refine⟨f,c,?_⟩;rcases o.ex with ⟨rfl,rfl,rfl⟩|⟨b,d,a,k,e,rfl,rfl,g,p,s,n⟩
 .grind[Afz,NA]
 .refine⟨⟨_,a,rfl,g,by grind[maxLen,NA],.inr ⟨b,e,rfl,.inr ⟨_,aj.2 rfl,rfl⟩,λj m=>?_⟩⟩⟩;obtain⟨u,l,q⟩:=n j m;refine⟨u,f.rep l,rfl,λi h=>?_⟩;have r:=(hs.own (b,.cells d k (0,0)) (by simp)).1;grind[Bo,ac]
structure Nws{α:Type}[AP α](I:Cc)(w:World)(v:Value)(xs:List α):Prop where
 sh:∃a cap,v=.slice a xs.length cap
 ne:xs≠[]->∃a cap,v=.slice (some a) xs.length cap/\∃news:List Value,news.length=xs.length*AP.size α/\
  (∀j u,news[j]?=some u->w.cell? (a.add j)=some u)/\(∀u∈news,u.oneCell'=true)/\Dv I w (news[·]?) xs
theorem Nws.Avz{α:Type}[AP α]{I:Cc}{w:World}{v:Value}{xs:List α}(h:rep I w v xs):Nws I w v xs:=⟨(by obtain⟨a,c,d,_⟩:=h.ex;grind),λb=>XE h b⟩
theorem Nws.Av0{α:Type}[AP α]{I:Cc}{w:World}{A T:Bd}{v:Value}{xs:List α}(h:Bx I w A v xs)(hs:St I w (A++T)):Nws I w v xs:=by
 refine⟨(by obtain⟨a,d,l,_⟩:=h.len;grind),λf=>?_⟩;obtain⟨_,_,B⟩:=h.A30 hs;obtain⟨a,d,l,c,x,s,t,H⟩:=XE B f;refine⟨a,d,l,c,x,s,t,λj r=>?_⟩;rcases h.ex with ⟨_,D,_⟩|⟨b,m,q,y,E,rfl,k,K,G,J,n⟩
 .grind
 obtain⟨u,p,z⟩:=n j r;rw[l]at k;cases k;refine⟨u,p,λi o=>?_⟩;have g:j*AP.size α+i<c.length:=by
  have C:i<AP.size α:=by grind[AP.cells]
  have:(j+1)*AP.size α<=xs.length*AP.size α:=a4 _ r;grind
 have F:=(hs.own (b,.cells m y (0,0)) (by simp)).1;grind[AP.size,a8,DF,Bo]
section
variable {P:Program} {I:Cc} {w:World} {T A:Bd} {t e:TypeId} {nb:Nat}
theorem Aeu{α:Type}[AP α]{v yv:Value}{xs ys:List α}{ty:TypeId}(hs:St I w (A++T))(ho:Bx I w A v xs)(hy:Nws I w yv ys)(ht:Slc P t e (AP.size α) nb)(hb:(xs.length+ys.length)*nb<=140737488355328)(hl:xs.length+ys.length<=9223372036854775807):∃v' A' w',(Builtin.append_ #[t,t] ty #[v,yv]).run P w=.ok v' w'/\Ext I w I w'/\St I w' (A'++T)/\Bx I w' A' v' (xs++ys):=by
 obtain⟨i,z,p,l,K,hz,N⟩:=ht.info;have r:=ht.under;by_cases E:ys=[]
 .subst E;obtain⟨a',cap',s⟩:=hy.sh;refine⟨v,A,w,?_,Ext.refl _ _,hs,by grind⟩;have M:∀(a:Option Addr)(k:Nat),(Builtin.firstCells (AP.size α) 0 (.slice a 0 k)).run P w=.ok #[] w:=λa k=>by cases a<;>simp [Builtin.firstCells,loadCells,loadCellsFrom]
  rcases ho.ex with ⟨rfl,rfl,rfl⟩|⟨b,f,k,R,d,rfl,rfl,Y,h4,S,V⟩
  .simp [Builtin.append_,run_underlying r,sizeOf,typeInfo,p,l,Builtin.lenOf,s,M]
  .simp [Builtin.append_,run_underlying r,sizeOf,typeInfo,p,l,Builtin.lenOf,s,M,Y,storeCells]
 obtain⟨a,c,s,g,m,n,L,B⟩:=hy.ne E;subst s;have hyl:0<ys.length:=List.length_pos_iff.2 E;have hp:0<AP.size α:=AP.pos;rcases ho.ex with ⟨rfl,rfl,rfl⟩|⟨b,f,k,R,d,rfl,rfl,Y,h4,S,V⟩
 .simp only[List.length_nil,cr]at hb hl;have G:=run_append_nil (P:=P) w t ty e i z r p hz a ys.length c g (by grind) n hyl (by omega) (by grind);have F:=grownCap_ge w ys.length 0 e;have C:=grownCap_le_maxLen w ys.length 0 e (by grind[maxLen]);obtain⟨q,J⟩:=hs.drew (w.drawn+1);obtain⟨H,W⟩:=J.alloc (.cells (g.toArray++Builtin.zeroCells z.cells (grownCap w ys.length 0 e-ys.length)) e);refine⟨_,_,_,G,q.trans H,W,Bx.Td rfl F C ?_ ?_⟩
  .simp only[b8,a6,size_zeroCells,N,m,<-a5];grind
  .refine(B.mono (q.trans H)).append (ys:=[]) (g2:=λ_=>none) (λj hj=>by grind) ?_ (by simp) |> λh=>by simpa using h
   grind
 .have Z:=(hs.own (b,.cells f R (0,0)) (by simp)).1;have hle:d+xs.length*AP.size α<=f.size:=b6 (bg (a4 _ Y) _) S;by_cases o:xs.length+ys.length<=k
  .have y:d+xs.length*i.size+g.length<=f.size:=by rw[l,m,ac,<-a5];exact b6 (bg (a4 _ o) _) S
   have X:=run_firstCells_some (P:=P) w i.size ys.length a ys.length c g (by grind) n;have O:=run_storeCells_at P b (d+xs.length*i.size) R g 0 f w Z (by omega) L;simp only[bu]at O;have G:(Builtin.append_ #[t,t] ty #[.slice (some ⟨b,d,none⟩) xs.length k,.slice (some a) ys.length c]).run P w=.ok (.slice (some ⟨b,d,none⟩) (xs.length+ys.length) k) (w.setRow b (c2 (d+xs.length*i.size) f.toList++g++cq (d+xs.length*i.size+g.length) f.toList).toArray):=by simp [Builtin.append_,run_underlying r,sizeOf,typeInfo,p,Builtin.lenOf,o,X,DF,O]
   rw[l]at G y;obtain⟨q,J⟩:=hs.write (w':=w.setRow b _) rfl rfl rfl (by simp) (setRow_heap w b f _ R _ Z) (λc hc=>setRow_other w b c _ hc);refine⟨_,_,_,G,q,J,⟨.inr ⟨b,_,k,_,d,rfl,by simp,by grind,h4,?_,?_⟩⟩⟩
   .grind
   .have Q:(c2 (d+xs.length*AP.size α) f.toList).length=d+xs.length*AP.size α:=by grind
    refine(V.mono q).append (B.mono q) ?_ ?_
    .intro i p;simp only[a7,a0];rw[ab (by omega),ad (by omega),a2]
    .intro i p;simp only[a7,a0];rw[<-ac,ak (by omega),Q,an,ab (by omega)]
  .have U:(f.toList.drop d).length=f.size-d:=by rw[br];rfl
   have D:∀j u,((f.toList.drop d).take (xs.length*AP.size α))[j]?=some u->w.cell? ((⟨b,d,none⟩:Addr).add j)=some u:=by
    intro j u r;rw[DF,Bo Z];by_cases hj:j<xs.length*AP.size α
    .rw[ad hj,aq,a2]at r;exact r
    .rw[List.getElem?_eq_none (by rw[ao];omega)]at r;simp at r
   have x:((f.toList.drop d).take (xs.length*AP.size α)).length=xs.length*i.size:=by rw[ao,U,l];omega
   have G:=run_append_grow (P:=P) w t ty e i z r p hz ⟨b,d,none⟩ xs.length k ((f.toList.drop d).take (xs.length*AP.size α)) x D a ys.length c g (by rw[l];exact m) n (by omega) (by omega)
    (growslice_fits (by omega) (by rw[K];exact hb))
   have F:=grownCap_ge w (xs.length+ys.length) k e;have C:=grownCap_le_maxLen w (xs.length+ys.length) k e (by unfold maxLen;omega);obtain⟨q,J⟩:=hs.drop.drew (w.drawn+1);obtain⟨H,W⟩:=J.alloc (.cells (((f.toList.drop d).take (xs.length*AP.size α)).toArray++g.toArray++Builtin.zeroCells z.cells (grownCap w (xs.length+ys.length) k e-(xs.length+ys.length))) e);refine⟨_,_,_,G,q.trans H,W,Bx.Td (by simp) (by simpa using F) C ?_ ?_⟩
   .simp only[b8,a6,size_zeroCells,N,m,x,l,<-a5];exact a4 _ (by omega)
   .rw[l]at x;refine(V.mono (q.trans H)).append (B.mono (q.trans H)) ?_ ?_
    .intro i p;rw[b0 (by simp only[b8,a6];omega),b0 (by simp only[a6];omega)];simp only[a7];rw[ad p,aq,a2]
    .intro i p;rw[b0 (by simp only[b8,a6];omega),Array.getElem?_append_right (by simp only[a6];omega)];simp only[a7,a6,x,an]
end
end
section
section
variable {P:Program} {N:Nat} {ops:Array Oper} {R:List PanicEntry->World->Prop} {m:Bool} {K:Fr->World->Prop} {os:List Oper} {f:Fr} {w:World}
variable {dst:Option Tmp} {ty:TypeId} {pos:String} {af:Array Edge} {I:Cc} {T A:Bd} {x y:Operand} {t e u:TypeId} {sz nb:Nat}
variable {α:Type} {v:Value}
theorem X6[AP α]{yv:Value}{xs ys:List α}(g:Wn P t e (AP.size α) nb=true)(hs:St I w (A++T))(j:Bx I w A v xs)(k:Nws I w yv ys)(l:ev f x=v)(c:ev f y=yv)(d:(xs.length+ys.length)*nb<=140737488355328)(i:xs.length+ys.length<=9223372036854775807)(h:∀v' A' w',Ext I w I w'->St I w' (A'++T)->Bx I w' A' v' (xs++ys)->WL P N ops R m K os (put N f dst v') w'):WL P N ops R m K (⟨dst,.call ⟨.builtin .append,#[x,y],#[t,t]⟩,ty,pos,af,none⟩::os) f w:=by obtain⟨v',A',w',n,o,a,b⟩:=Aeu (ty:=ty) hs j k (EE g) d i;refine Aw ?_ (h v' A' w' o a b);simp [execOp,resolve,invoke,builtin,l,c,n]
theorem Av8[AP α]{d:α}(hs:St I w T)(l:rep I w v d)(i:ev f x=v)(h:∀a I' w',Ext I w I' w'->St I' w' T->I' a.block->Di w' a v->rep I' w' v d->WL P N ops R m K os (put N f dst (.pointer (some a))) w'):WL P N ops R m K (⟨dst,.box e x,ty,pos,af,none⟩::os) f w:=by
 obtain⟨b,g⟩:=hs.alloc (.cells v.cells e);obtain⟨c,k⟩:=g.freeze;refine Aw (v:=.pointer (some ⟨w.heap.size,0,none⟩)) ?_ (h ⟨w.heap.size,0,none⟩ _ _ (b.trans c) k (.inr ⟨_,aj.2 rfl,rfl⟩) ⟨rfl,λj n=>?_⟩ ((b.trans c).rep l))
 .simp [execOp,Instr.box,newVar,newRow,i]
 .rw[Bo (heap_alloc_new w _)];simp
def zrB(P:Program)(t:TypeId)(z:Value):Prop:=(P.info? t).bind (·.zero)=some z
variable {b:Nat}
theorem St.heap{o:Obj}(hs:St I w ([(b,o)]++T)):w.heap[b]?=some o:=(hs.own (b,o) (by simp)).1
variable {o:Nat} {cs:Array Value}
theorem Uo{fr:Nat×Nat}(d:OZ P t false 1=true)(hs:St I w ([(b,.cells cs e fr)]++T))(g:ev f x=.pointer (some ⟨b,o,none⟩))(c:cs[o]?=some v)(h:WL P N ops R m K os (put N f dst v) w):WL P N ops R m K (⟨dst,.load t x,ty,pos,af,none⟩::os) f w:=by
 refine Aw ?_ h;have a:w.cell? ⟨b,o,none⟩=some v:=by rw[Bo hs.heap,c]
 simp [execOp,Instr.loadAt,g,Instr.sureAddr,loadVar,(GB (w:=w) d).1,a]
variable {n:Nat} {vs:List Value}
theorem Rz{fr:Nat×Nat}(c:OZ P t true n=true)(hs:St I w ([(b,.cells cs e fr)]++T))(d:ev f x=.pointer (some ⟨b,o,none⟩))(g:(cs.toList.drop o).take n=vs)(i:vs.length=n)(h:WL P N ops R m K os (put N f dst (.agg ⟨vs⟩)) w):WL P N ops R m K (⟨dst,.load t x,ty,pos,af,none⟩::os) f w:=by
 refine Aw ?_ h;have:=run_loadCells_list (P:=P) (w:=w) ⟨b,o,none⟩ vs (λj u a=>by
  rw[DF,Bo hs.heap];subst g;rw[List.getElem?_take]at a;split at a
  .rw[aq,a2]at a;exact a
  .cases a)
 rw[i]at this;simp [execOp,Instr.loadAt,d,Instr.sureAddr,loadVar,(GB (w:=w) c).1,(GB (w:=w) c).2,this]
theorem Vg{i off:Nat}(a:flB P t i off=true)(c:ev f x=.pointer (some ⟨b,o,none⟩))(h:WL P N ops R m K os (put N f dst (.pointer (some ⟨b,o+off,none⟩))) w):WL P N ops R m K (⟨dst,.fieldAddr t x i,ty,pos,af,none⟩::os) f w:=
 Aw (by simp [execOp,c,Ar4 a,DF]) h
theorem Amp{i off:Nat}(j:∃fs fd,P.underlying t=some (.struct fs)/\fs[i]?=some fd/\fd.offset=off/\OZ P fd.type false 1=true)(e:ev f x=.agg cs)(b:cs[off]?=some v)(h:WL P N ops R m K os (put N f dst v) w):WL P N ops R m K (⟨dst,.field t x i,ty,pos,af,none⟩::os) f w:=by obtain⟨fs,fd,d,a,g,c⟩:=j;refine Aw ?_ h;subst g;simp [execOp,Instr.field,run_underlying d,a,e,asAgg,part,(GB (w:=w) c).1,b]
def enum:Nat->List Value->List (Nat×Value)
 |_,[]=>[]
 |n,v::vs=>(n,v)::enum (n+1) vs
theorem XT{s:Nat}(hs:0<s):∀(vs:List Value)(n:Nat)(pre post:List Value),pre.length=n*s->post.length=vs.length*s->(∀v∈vs,v.cells.size=s)->Instr.fill (λi=>some (i*s,s)) (pre++post).toArray (enum n vs)=some (pre++vs.flatMap (·.cells.toList)).toArray
 | [],n,pre,post,_,d,_=>by have:post=[]:=ap (by simpa using d);subst this;simp [enum,Instr.fill]
 |v::vs,n,pre,post,e,d,r=>by
  have h:v.cells.size=s:=r v (by simp);have o:post.length=s+vs.length*s:=by rw[d,bc,a5,b3,Nat.add_comm]
  simp only[enum,Instr.fill,h];have t:(decide (s≠s) ||decide (n*s+s>(pre++post).toArray.size))=false:=by simp [e,o]
  rw[t];simp only[a1,if_false];have k:∀(g:List Value)(j:Nat)(a b c:List Value),b.length=j->c.length=g.length->
    (g.zipIdx j).foldl (λq(p:Value×Nat)=>q.setIfInBounds (n*s+p.2) p.1) ((pre++(b++(c++a))).toArray)=(pre++(b++(g++a))).toArray:=by
   intro g
   induction g with
   |nil=>intro j a b c m l;have:c=[]:=ap (by simpa using l);subst this;simp
   |cons x g B=>
    intro j a b c m l;cases c with
    |nil=>simp at l
    |cons y c=>
     simp only[ce,bw];have w:(pre++(b++(y::c++a))).toArray.setIfInBounds (n*s+j) x=(pre++((b++[x])++(c++a))).toArray:=by apply cz;simp only[bj];rw[b9 _ _ (by omega),e,an,b9 _ _ (by omega),m,ct];simp
     rw[w,B (j+1) a (b++[x]) c (by simp [m]) (by simpa using l)];simp
  have f:=k v.cells.toList 0 (post.drop s) [] (post.take s) rfl (by rw[ao,show v.cells.toList.length=v.cells.size from rfl];omega);simp only[ar,List.take_append_drop]at f;have z:(cy (λg(p:Value×Nat)=>g.setIfInBounds (n*s+p.2) p.1) (pre++post).toArray v.cells.zipIdx)=(pre++(v.cells.toList++post.drop s)).toArray:=by rw[<-f,<-bk];simp
  have:=XT hs vs (n+1) (pre++v.cells.toList) (post.drop s) (by rw[bl,e,show v.cells.toList.length=v.cells.size from rfl,h,a5,b3]) (by rw[br];omega) (λu A=>r u (by simp [A]));simp only[a0]at this;rw[show (cy (λg(x:Value×Nat)=>match x with|(c,j)=>g.setIfInBounds (n*s+j) c) (pre++post).toArray v.cells.zipIdx)=(pre++(v.cells.toList++post.drop s)).toArray from z,this];simp
theorem O5{α:Type}[AP α]:∀(xs:List α)(vs:List Value),vs.length=xs.length->(∀j(h:j<xs.length)(k:j<vs.length),rep I w vs[j] xs[j])->Dv I w ((vs.flatMap (·.cells.toList))[·]?) xs
 | [],_,_,_=>λj c=>by simp at c
 |x::xs,[],h,_=>by simp at h
 |x::xs,v::vs,h,d=>by
  have b:rep I w v x:=d 0 (by simp) (by simp);have e:=O5 xs vs (by simpa using h) (λj l f=>d (j+1) (by simp;omega) (by simp;omega));have:=Dv.append (xs:=[x]) (g1:=λi=>v.cells.toList[i]?) (g2:=λi=>(vs.flatMap (·.cells.toList))[i]?) (g:=λi=>((v::vs).flatMap (·.cells.toList))[i]?) (I:=I) (w:=w)
   (λj c=>by
    obtain rfl:j=0:=by simpa using c
    exact⟨v,by simpa using b,λi a=>by simp⟩) e
   (λi a=>by simp only[List.length_singleton,b3]at a;rw[bn,ab (by rw[show v.cells.toList.length=v.cells.size from rfl,AP.cells b];exact a)])
   (λi a=>by rw[bn,ak (by rw[show v.cells.toList.length=v.cells.size from rfl,AP.cells b];simp)];congr 1;rw[show v.cells.toList.length=v.cells.size from rfl,AP.cells b];simp)
  simpa using this
theorem La[AP α]{ps:Array (Nat×Value)}{xs:List α}(g:Slc P t e (AP.size α) nb)(m:ps.toList=enum 0 vs)(q:vs.length=xs.length)(u:∀j(h:j<xs.length)(D:j<vs.length),rep I w vs[j] xs[j])(C:xs.length*AP.size α<=16777216):(Instr.buildSlice t xs.length ps).run P w=.ok (.slice (some ⟨w.heap.size,0,none⟩) xs.length xs.length) (w.alloc (.cells (vs.flatMap (·.cells.toList)).toArray e)):=by
 obtain⟨i,z,B,s,A,y,r⟩:=g.info;have b:0<AP.size α:=AP.pos;have d:∀v∈vs,v.cells.size=AP.size α:=λv x=>by obtain⟨j,p,rfl⟩:=c4 x;exact AP.cells (u j (by omega) p)
 have l:=XT b vs 0 [] ((c6 (xs.length*AP.size α)).map λn=>z.cells[n%z.cells.size]!) (by simp) (by simp [q]) d;simp only[ar]at l;have k:¬(16777216<xs.length*AP.size α):=by omega
 simp only[Instr.buildSlice,Sem.run_bind,run_underlying g.under,Result.andThen_ok,g.size];simp only[Nat.reducePow,gt_iff_lt,k,if_false];by_cases o:xs.length*AP.size α=0
 .have f:xs.length=0:=by rcases ck.1 o with h|h<;>omega
  have c:vs=[]:=ap (by omega);subst c;simp [m,enum,Instr.fill,newRow,f,show be 0=#[] from rfl]
 .have a:(be (xs.length*AP.size α)).map (λn=>z.cells[n%z.cells.size]!)=((c6 (xs.length*AP.size α)).map λn=>z.cells[n%z.cells.size]!).toArray:=by apply cz;simp
  simp only[o,if_false,Sem.run_bind,zeroValue,typeInfo,run_program,Result.andThen_ok,B,Sem.run_pure,y,m,a,l,newRow,run_newObj];rfl
def Aco{α:Type}[AP α](I:Cc)(w:World):List Value->List α->Prop
 | [],[]=>True
 |v::vs,x::xs=>rep I w v x/\Aco I w vs xs
 |_,_=>False
theorem Aco.get{α:Type}[AP α]{I:_}{w:World}:∀{vs:List Value}{xs:List α},Aco I w vs xs->vs.length=xs.length/\∀j(h:j<xs.length)(e:j<vs.length),rep I w vs[j] xs[j]
 | [],[],_=>⟨rfl,λj h=>by simp at h⟩
 |[],_::_,h|_::_,[],h=>h.elim
 |v::vs,x::xs,h=>by
  obtain⟨d,c⟩:=Aco.get h.2;refine⟨by simp [d],λj b a=>?_⟩;cases j with
  |zero=>exact h.1
  |succ j=>exact c j (by simpa using b) (by simpa using a)
theorem A0d[AP α]{ps:Array (Nat×Operand)}{xs:List α}(s:Wn P t e (AP.size α) nb=true)(hs:St I w T)(l:(ps.toList.map λp=>(p.1,ev f p.2))=enum 0 vs)(d:Aco I w vs xs)(c:cu (xs.length*AP.size α) 16777216=true)(B:xs.length=n)(h:∀v I' w',Ext I w I' w'->St I' w' T->rep I' w' v xs->WL P N ops R m K os (put N f dst v) w'):WL P N ops R m K (⟨dst,.buildSlice t n ps,ty,pos,af,none⟩::os) f w:=by
 subst B;obtain⟨k,g⟩:=d.get;have r:=ba c;have a:=La (ps:=ps.map λp=>(p.1,ev f p.2)) (EE s) (by simpa using l) k g r;obtain⟨C,u⟩:=hs.alloc (.cells (vs.flatMap (·.cells.toList)).toArray e);obtain⟨o,A⟩:=u.freeze;have b:=C.trans o;refine Aw (by simp only[execOp,Sem.run_bind];rw[show (ps.map λ(x:Nat×Operand)=>match x with|(i,x)=>(i,ev f x))=ps.map (λp=>(p.1,ev f p.2)) from rfl,a];rfl) (h _ _ _ b A ?_);refine⟨⟨_,_,rfl,ae _,?_,.inr ⟨w.heap.size,0,rfl,.inr ⟨_,aj.2 rfl,rfl⟩,λj q=>?_⟩⟩⟩
 .have:xs.length<=xs.length*AP.size α:=bt _ AP.pos;unfold NA;omega
 .obtain⟨v,z,D⟩:=(O5 xs vs k g).mono b j q;exact⟨v,z,rfl,λi y=>by rw[Bo (heap_alloc_new w _)];simpa using D i y⟩
theorem Amq[AP α]{ps:Array (Nat×Operand)}{xs:List α}(z:Wn P t e (AP.size α) nb=true)(hs:St I w T)(r:(ps.toList.map λp=>(p.1,ev f p.2))=enum 0 vs)(k:Aco I w vs xs)(d:cu (xs.length*AP.size α) 16777216=true)(E:xs.length=n)(h:∀v A w',Ext I w I w'->St I w' (A++T)->Bx I w' A v xs->WL P N ops R m K os (put N f dst v) w'):WL P N ops R m K (⟨dst,.buildSlice t n ps,ty,pos,af,none⟩::os) f w:=by
 subst E;obtain⟨o,c⟩:=k.get;have y:=ba d;have a:=La (ps:=ps.map λp=>(p.1,ev f p.2)) (EE z) (by simpa using r) o c y;obtain⟨q,s⟩:=hs.alloc (.cells (vs.flatMap (·.cells.toList)).toArray e);refine Aw (by simp only[execOp,Sem.run_bind];rw[show (ps.map λ(x:Nat×Operand)=>match x with|(i,x)=>(i,ev f x))=ps.map (λp=>(p.1,ev f p.2)) from rfl,a];rfl) (h _ _ _ q s ?_);have F:xs.length<=xs.length*AP.size α:=bt _ AP.pos;refine Bx.Td rfl (ae _) (by unfold maxLen;omega) ?_ ?_
 .have:∀(l:List Value),(∀v∈l,v.cells.size=AP.size α)->(l.flatMap (·.cells.toList)).length=l.length*AP.size α:=by
   intro l;induction l with
   |nil=>intro _;simp
   |cons v l B=>intro b;rw[bn,bl,B (λu G=>b u (by simp [G])),show v.cells.toList.length=v.cells.size from rfl,b v (by simp),bc,a5];omega
  simp only[a6];rw[this vs (λv b=>by obtain⟨j,g,rfl⟩:=c4 b;exact AP.cells (c j (by omega) g)),o];exact ae _
 .refine λj g=>?_;obtain⟨v,D,H⟩:=(O5 xs vs o c).mono q j g;exact⟨v,D,λi C=>by simpa using H i C⟩
end
end
section
section
variable {P:Program} {N:Nat} {ops:Array Oper} {R:List PanicEntry->World->Prop} {m:Bool} {K:Fr->World->Prop} {os:List Oper} {f:Fr} {w:World}
variable {dst:Option Tmp} {ty:TypeId} {pos:String} {af:Array Edge} {I:Cc} {T A:Bd} {x y z:Operand} {t e u:TypeId} {sz nb:Nat} {kd:IntKind} {a b c:Int}
theorem Aam{α:Type}[AP α]{v:Value}{xs:List α}(o:rep I w v xs):∃a cap,v=.slice a xs.length cap/\xs.length<=cap/\cap<=NA/\∀lo hi m,lo<=hi->hi<=xs.length->hi<=m->m<=cap->rep I w (.slice (if m=lo then a else a.map (·.add (lo*AP.size α))) (hi-lo) (m-lo)) ((xs.drop lo).take (hi-lo)):=by
 obtain⟨a,cap,q,h,k,d⟩:=o.ex;refine⟨a,cap,q,h,k,λlo hi m t i r s=>?_⟩;have c:((xs.drop lo).take (hi-lo)).length=hi-lo:=by simp;omega
 refine⟨⟨_,m-lo,by rw[c],by omega,by omega,?_⟩⟩;by_cases n:hi=lo
 .exact .inl (by rw[n,ct];simp)
 rcases d with d|⟨b,g,rfl,p,d⟩
 .subst d;simp at i;omega
 rw[GT (by omega)];refine .inr ⟨b,g+lo*AP.size α,by simp [DF],p,λj l=>?_⟩;rw[c]at l;obtain⟨u,f,e⟩:=d (lo+j) (by omega);refine⟨u,?_,?_⟩
 .rw[cb,cc];exact f
 .rw[ac,<-a5];exact e
end
end
section
section
variable {P:Program} {I:Cc} {w:World} {T A:Bd} {t e:TypeId} {nb:Nat} {α:Type} [AP α]
variable {xs:List α}
theorem Dv.take{get:Nat->Option Value}(n:Nat)(h:Dv I w get xs):Dv I w get (xs.take n):=λj b=>by obtain⟨u,a,c⟩:=h j (by simp at b;omega);exact⟨u,by rw[cb];exact a,c⟩
theorem Dv.drop{get:Nat->Option Value}(n:Nat)(h:Dv I w get xs):Dv I w (λk=>get (n*AP.size α+k)) (xs.drop n):=λj b=>by obtain⟨u,a,c⟩:=h (n+j) (by simp at b;omega);exact⟨u,by rw[cc];exact a,λi d=>by have:=c i d;rw[a5,ac]at this;exact this⟩
theorem Dv.congr{g g':Nat->Option Value}(h:Dv I w g xs)(a:∀i,i<xs.length*AP.size α->g' i=g i):Dv I w g' xs:=by have:=Dv.append (ys:=[]) (g2:=λ_=>none) h (λj b=>by simp at b) a (by simp);simpa using this
def At(v:Value)(sz j:Nat)(a:Addr):Prop:=∃b off len cap,v=.slice (some ⟨b,off,none⟩) len cap/\a=⟨b,off+j*sz,none⟩
theorem Ah6{v y:Value}{x:α}{j:Nat}{a:Addr}{u:TypeId}(V:Bx I w A v xs)(hs:St I w (A++T))(N:At v (AP.size α) j a)(R:j<xs.length)(r:rep I w y x)(U:OZ P u (AP.agg α) (AP.size α)=true):∃A' w',(Instr.storeAt u (.pointer (some a)) y).run P w=.ok () w'/\Ext I w I w'/\St I w' (A'++T)/\Bx I w' A' v (xs.set j x):=by
 rcases V.ex with ⟨_,rfl,_⟩|⟨b,d,C,E,e,rfl,rfl,Q,W,S,X⟩
 .simp at R
 obtain⟨Z,L,J,G,O,rfl⟩:=N;cases O;have s:=AP.cells r;have D:e+(j+1)*AP.size α<=d.size:=b6 (bg (a4 _ (by omega)) _) S;rw[a5,b3]at D;have g:=run_storeCells_at P b (e+j*AP.size α) E y.cells.toList 0 d w hs.heap (by rw[show y.cells.toList.length=y.cells.size from rfl];omega) (AP.one r);simp only[bu]at g;generalize l:(c2 (e+j*AP.size α) d.toList++y.cells.toList++cq (e+j*AP.size α+y.cells.toList.length) d.toList).toArray=q at g;obtain⟨t,M⟩:=hs.write (w':=w.setRow b q) rfl rfl rfl (by simp [World.setRow]) (setRow_heap w b d _ E _ hs.heap) (λc Y=>setRow_other w b c _ Y);refine⟨_,_,?_,t,M,⟨.inr ⟨b,_,C,_,e,rfl,by simp,by simpa using Q,W,?_,?_⟩⟩⟩
 .simp [Instr.storeAt,Instr.sureAddr,storeVar,(GB (w:=w) U).2,s,g]
 all_goals subst l
 .simp only[a6,bl,ao,br,bh];omega
 .have o:(c2 (e+j*AP.size α) d.toList).length=e+j*AP.size α:=by rw[ao,show d.toList.length=d.size from rfl];omega
  have m:∀i,(c2 (e+j*AP.size α) d.toList++y.cells.toList++cq (e+j*AP.size α+y.cells.toList.length) d.toList)[e+i]? =
    if i<j*AP.size α then d[e+i]? else if i<(j+1)*AP.size α then y.cells[i-j*AP.size α]? else d[e+i]?:=by
   intro i
   rw[a0,a5,b3]
   split
   .rename_i h;rw[ab (by omega),ad (by omega),a2]
   .rw[ak (by omega),o,Nat.add_sub_add_left]
    split
    .rw[ab (by rw[show y.cells.toList.length=y.cells.size from rfl];omega),a2]
    .rw[ak (by rw[show y.cells.toList.length=y.cells.size from rfl];omega),aq,a2,show y.cells.toList.length=y.cells.size from rfl]
     congr 1;omega
  intro k F;rw[List.length_set]at F;simp only[a7,m];have p:∀{k j i:Nat},k<j->i<AP.size α->k*AP.size α+i<j*AP.size α:=λ{k j i}f n=>by have:(k+1)*AP.size α<=j*AP.size α:=a4 _ f;rw[a5,b3]at this;omega
  by_cases f:k=j
  .subst f;refine⟨y,by rw[List.getElem_set_self];exact t.rep r,λi n=>?_⟩;rw[GT (by omega),UV (by rw[a5,b3];omega),an]
  .obtain⟨z,H,K⟩:=X k F;refine⟨z,by rw[List.getElem_set_ne (Ne.symm f)];exact t.rep H,λi n=>?_⟩;have B:i<AP.size α:=by rw[<-AP.cells H];exact n
   rcases Nat.lt_or_gt_of_ne f with h|h
   .rw[UV (p h B)];exact K i n
   .have:=a4 (AP.size α) h;rw[GT (by rw[cv]at this;omega),GT (by simp only[a5,b3];rw[cv]at this;omega)];exact K i n
def Wy(v:Value)(j sz:Nat):Value:=match v with
 | .slice a len cap=>.slice (if cap=j then a else a.map (·.add (j*sz))) (len-j) (cap-j)
 |v=>v
theorem Bx.sub{v:Value}{xs:List α}{j:Nat}(l:Bx I w A v xs)(g:j<=xs.length):Bx I w A (Wy v j (AP.size α)) (xs.drop j):=by
 rcases l.ex with ⟨rfl,rfl,rfl⟩|⟨b,d,a,e,c,rfl,rfl,q,o,s,n⟩
 .simp at g;subst g;exact Bx.nil
 .have p:(a-j)*AP.size α+j*AP.size α=a*AP.size α:=by rw[<-a5];congr 1;omega
  by_cases f:a=j
  .have m:xs.drop j=[]:=List.drop_eq_nil_of_le (by omega);refine⟨.inr ⟨b,d,a-j,e,c,rfl,by simp [Wy,f],by simp;omega,by omega,by omega,?_⟩⟩;rw[m];intro k h;simp at h
  .refine⟨.inr ⟨b,d,a-j,e,c+j*AP.size α,rfl,by simp [Wy,f,DF],by simp;omega,by omega,by omega,(n.drop j).congr λi r=>by rw[ac]⟩⟩
end
section
variable {P:Program} {N:Nat} {ops:Array Oper} {R:List PanicEntry->World->Prop} {m:Bool} {K:Fr->World->Prop} {os:List Oper} {f:Fr} {w:World}
variable {dst:Option Tmp} {ty:TypeId} {pos:String} {af:Array Edge} {I:Cc} {T A:Bd} {x y z:Operand} {t e u:TypeId} {sz nb:Nat} {kd:IntKind} {a b c:Int}
theorem Aq0{α:Type}[AP α]{n:Nat}(l:Wn P t e (AP.size α) nb=true)(hs:St I w T)(p:ev f x=.int .i64 0)(q:ev f y=.int .i64 b)(F:b=(n:Int))(L:n<=9223372036854775807)(g:nb*n<=281474976710656)(h:∀v A w',Ext I w I w'->St I w' (A++T)->Bx I w' A v ([]:List α)->WL P N ops R m K os (put N f dst v) w'):WL P N ops R m K (⟨dst,.makeSlice t x y,ty,pos,af,none⟩::os) f w:=by
 obtain⟨i,z,r,c,d,E,G⟩:=(EE l).info;have s:=(EE l).under;subst F;have u:IntKind.i64.wrap (n:Int)=n:=Uj (by omega) (by omega);have a:IntKind.i64.wrap 0=0:=by decide
 obtain⟨D,C⟩:=hs.alloc (.cells ((be (n*AP.size α)).map λk=>(if n*AP.size α=0 then (#[]:Array Value) else z.cells)[k%(if n*AP.size α=0 then (#[]:Array Value) else z.cells).size]!) e);refine Aw (v:=.slice (some ⟨w.heap.size,0,none⟩) 0 n) ?_ (h _ _ _ D C (Bx.Td rfl (cg _) (by unfold maxLen;omega) (by rw[Array.size_map,Array.size_range];exact ae _) λj H=>by simp at H));have J:¬((i.bytes:Int)*(n:Int)>281474976710656):=by rw[d];have B:((nb*n:Nat):Int)<=((281474976710656:Nat):Int):=Int.ofNat_le.2 g;rw[Int.natCast_mul]at B;omega
 by_cases o:n*AP.size α=0
 .simp [execOp,Instr.makeSlice,run_underlying s,p,q,asInt,asIntOf,typeInfo,r,u,a,sizeOf,c,o,newRow];omega
 .simp [execOp,Instr.makeSlice,run_underlying s,p,q,asInt,asIntOf,typeInfo,r,u,a,sizeOf,c,o,newRow,zeroValue,E];omega
end
end
section
structure J6(P:Program)(t:TypeId)(κ:Type)[AP κ][DecidableEq κ]:Prop where
 find:∀(I:Cc)(w:World)(v:Value)(k:κ)(es:List MapEntry)(ks:List κ),rep I w v k->es.length=ks.length->(∀j(h:j<es.length)(h':j<ks.length),rep I w es[j].key ks[j])->
  (Instr.findKey t v es).run P w=.ok ((ks.findIdx? (·==k)).bind λi=>(es[i]?).map λe=>(i,e.val)) w
 check:∀(I:Cc)(w:World)(v:Value)(k:κ)(e:Bool),rep I w v k->(Instr.checkKey e 10000 t v).run P w=.ok () w
 same:∀(I:Cc)(w:World)(v u:Value)(k:κ),rep I w v k->rep I w u k->Instr.sameBits 10000 v u=true
theorem TH{k:Int}:∀(a:List MapEntry)(ks:List Int)(n:Nat),a.length=ks.length->(∀j(h:j<a.length)(o:j<ks.length),a[j].key=.int .i64 ks[j])->Instr.findNow (.int .i64) (.int .i64 k) a n=some ((ks.findIdx? (·==k)).bind λi=>(a[i]?).map λe=>(n+i,e.val))
 | [],[],n,_,_=>rfl
 |[],_::_,_,h,_|_::_,[],_,h,_=>by grind
 |e::a,x::ks,n,h,d=>by
  have f:e.key=.int .i64 x:=d 0 (by simp) (by simp);have g:=TH (k:=k) a ks (n+1) (by grind) (λj m l=>d (j+1) (by grind) (by grind));simp only[Instr.findNow,f,Instr.sameNow,if_true];by_cases b:k=x
  .grind
  .have c:¬x=k:=λh=>b h.symm;have:(k==x)=false:=by grind
   rw[this];simp only[g,c7,show (x == k)=false by grind];cases ks.findIdx? (· == k) with
   |none=>simp
   |some i=>grind
theorem J6.int{P:Program}{t:TypeId}(b:P.underlying t=some (.int .i64)):J6 P t Int where
 find I w v k g i a c l:=by obtain rfl:=Apd.eq a;have:=TH (k:=k) g i 0 c (λj h f=>(l j h f).eq);simp_all[cr,Instr.findKey,run_underlying]
 check I w v k e a:=by
  obtain rfl:=Apd.eq a;have:∀n,(Instr.checkKey e (n+1) t (.int .i64 k)).run P w=.ok () w:=λn=>by simp [Instr.checkKey,run_underlying b]
  grind
 same I w v u k a d:=by obtain rfl:=Apd.eq a;obtain rfl:=Apd.eq d;simp [Instr.sameBits]
def Ad{κ β:Type}[DecidableEq κ]:List (κ×β)->κ->Option β
 | [],_=>none
 |p::m,k=>if p.1=k then some p.2 else Ad m k
def BR{κ β:Type}[DecidableEq κ]:List (κ×β)->κ->β->List (κ×β)
 | [],k,v=>[(k,v)]
 |p::m,k,v=>if p.1=k then (p.1,v)::m else p::BR m k v
def Db{κ β:Type}[DecidableEq κ]:List (κ×β)->κ->List (κ×β)
 | [],_=>[]
 |p::m,k=>if p.1=k then m else p::Db m k
structure Cz{κ β:Type}[AP κ][AP β](I:Cc)(w:World)(A:Bd)(v:Value)(m:List (κ×β)):Prop where
 ex:∃b es clock,A=[(b,.map es clock)]/\v=.map (some b)/\es.toList.length=m.length/\∀j(h:j<es.toList.length)(h':j<m.length),rep I w es.toList[j].key m[j].1/\rep I w es.toList[j].val m[j].2
 bo:∀b es clock,A=[(b,.map es clock)]->(es.toList.map (·.born)).Nodup/\∀e∈es.toList,e.born<clock
theorem Cz.mono{κ β:Type}[AP κ][AP β]{I I':Cc}{w w':World}{A:Bd}{v:Value}{m:List (κ×β)}(h:Cz I w A v m)(e:Ext I w I' w'):Cz I' w' A v m:=by obtain⟨b,k,c,l,i,g,f⟩:=h.ex;exact⟨⟨b,k,c,l,i,g,λj d a=>⟨e.rep (f j d a).1,e.rep (f j d a).2⟩⟩,h.bo⟩
theorem UX{b b':Nat}{es es':Array MapEntry}{c c':Nat}(h:(es.toList.map (·.born)).Nodup/\∀e∈es.toList,e.born<c)(e:([(b,.map es c)]:Bd)=[(b',.map es' c')]):(es'.toList.map (·.born)).Nodup/\∀e∈es'.toList,e.born<c':=by grind
theorem R6{κ β:Type}[DecidableEq κ]:∀(m:List (κ×β))(k:κ),Ad m k=((m.map (·.1)).findIdx? (·==k)).bind λi=>(m[i]?).map (·.2)
 | [],k=>rfl
 |p::m,k=>by
  have a:=R6 m k;unfold Ad;by_cases h:p.1=k
  .grind
  .rw[GT h,a,av,c7,show (p.1 == k)=false by grind];cases (m.map (·.1)).findIdx? (· == k)<;>simp
theorem Aa3{κ β:Type}[DecidableEq κ]:∀(m:List (κ×β))(k:κ)(v:β),BR m k v=match (m.map (·.1)).findIdx? (·==k) with
  |some i=>m.modify i λp=>(p.1,v)
  |none=>m++[(k,v)]
 | [],k,v=>rfl
 |p::m,k,v=>by have a:=Aa3 m k v;unfold BR;grind
theorem Aa8{κ β:Type}[DecidableEq κ]:∀(m:List (κ×β))(k:κ),Db m k=match (m.map (·.1)).findIdx? (·==k) with
  |some i=>m.eraseIdx i
  |none=>m
 | [],k=>rfl
 |p::m,k=>by have a:=Aa8 m k;unfold Db;grind
structure Acq(P:Program)(t kt et:TypeId)(κ β:Type)[AP κ][AP β][DecidableEq κ]:Prop where
 und:P.underlying t=some (.map kt et)
 key:J6 P kt κ
section
variable {P:Program} {N:Nat} {ops:Array Oper} {R:List PanicEntry->World->Prop} {mo:Bool} {K:Fr->World->Prop} {os:List Oper} {f:Fr} {w:World}
variable {dst:Option Tmp} {ty:TypeId} {pos:String} {af:Array Edge} {I:Cc} {T A:Bd} {t kt et:TypeId}
variable {κ β:Type} [AP κ] [AP β] [DecidableEq κ] {x y z:Operand}
theorem X4(κ β:Type)[AP κ][AP β](hs:St I w T)(h:∀v A w',Ext I w I w'->St I w' (A++T)->Cz I w' A v ([]:List (κ×β))->WL P N ops R mo K os (put N f dst v) w'):WL P N ops R mo K (⟨dst,.makeMap t none,ty,pos,af,none⟩::os) f w:=by obtain⟨a,b⟩:=hs.alloc (.map #[] 0);refine Aw (v:=.map (some w.heap.size)) ?_ (h _ _ _ a b ⟨⟨_,_,_,rfl,rfl,rfl,λj c=>by simp⟩,λ_ _ _ e=>UX ⟨by simp,by simp⟩ e⟩);rfl
theorem Li{b c:Nat}{es:Array MapEntry}(hs:St I w ([(b,.map es c)]++T)):(getObj b).run P w=.ok (.map es c) w:=by have:=hs.heap;grind[getObj,Sem.run]
variable {v:Value} {m:List (κ×β)}
theorem Amn{aE:Array TypeId}(d:Cz I w A v m)(hs:St I w (A++T))(g:ev f x=v)(i:Acq P t kt et κ β)(a:aE[0]?=some t)(h:WL P N ops R mo K os (put N f dst (.int .i64 m.length)) w):WL P N ops R mo K (⟨dst,.call ⟨.builtin .len,#[x],aE⟩,ty,pos,af,none⟩::os) f w:=by obtain⟨b,j,c,rfl,rfl,e,_⟩:=d.ex;refine Aw ?_ (by rw[<-e]at h;exact h);simp [execOp,resolve,invoke,builtin,Builtin.len_,a,g,run_underlying i.und,Li hs,goInt]
theorem Cz.find{v kv:Value}{m:List (κ×β)}{k:κ}(ht:Acq P t kt et κ β)(ho:Cz I w A v m)(hk:rep I w kv k):∃b es c,A=[(b,.map es c)]/\v=.map (some b)/\(Instr.findKey kt kv es.toList).run P w=.ok (((m.map (·.1)).findIdx? (·==k)).bind λi=>(es.toList[i]?).map λe=>(i,e.val)) w/\es.toList.length=m.length/\∀j(h:j<es.toList.length)(h':j<m.length),rep I w es.toList[j].key m[j].1/\rep I w es.toList[j].val m[j].2:=by obtain⟨b,es,c,h1,h2,hl,hr⟩:=ho.ex;exact⟨b,es,c,h1,h2,ht.key.find I w kv k _ _ hk (by grind) (λj h h'=>by grind),hl,hr⟩
variable {kv:Value} {k:κ}
theorem Vf{zv:Value}{zd:β}(g:Acq P t kt et κ β)(z:Cz I w A v m)(hs:St I w (A++T))(q:ev f x=v)(s:ev f y=kv)(r:rep I w kv k)(B:(zeroValue et).run P w=.ok zv w)(l:rep I w zv zd)(h:∀u,rep I w u ((Ad m k).getD zd)->WL P N ops R mo K os (put N f dst u) w):WL P N ops R mo K (⟨dst,.lookup t x y false,ty,pos,af,none⟩::os) f w:=by
 obtain⟨b,j,c,rfl,rfl,e,D,C⟩:=z.find g r;have o:=Li (P:=P) hs;have p:=g.key.check I w kv k j.isEmpty r;rw[R6]at h;cases n:(m.map (·.1)).findIdx? (· == k) with
 |none=>
  rw[n]at e h;refine Aw (v:=zv) ?_ (h zv (by grind));simp [execOp,Instr.lookup,run_underlying g.und,q,s,o,p,e,B]
 |some i=>
  rw[n]at e h;have d:i<m.length:=by grind[aa]
  have a:i<j.toList.length:=by omega
  rw[ah,a8 a,au]at e;refine Aw (v:=j.toList[i].val) ?_ (h _ ?_)
  .simp only[execOp,Instr.lookup];simp [run_underlying g.und,q,s,o,p,e]
  grind
theorem Ve{zv:Value}{zd:β}(ht:Acq P t kt et κ β)(ho:Cz I w A v m)(hs:St I w (A++T))(hx:ev f x=v)(hy:ev f y=kv)(hk:rep I w kv k)(hz:(zeroValue et).run P w=.ok zv w)(hzr:rep I w zv zd)(h:∀u,rep I w u ((Ad m k).getD zd)->WL P N ops R mo K os (put N f dst (.tuple #[u,.bool (Ad m k).isSome])) w):WL P N ops R mo K (⟨dst,.lookup t x y true,ty,pos,af,none⟩::os) f w:=by
 obtain⟨b,es,c,rfl,rfl,hf,hl,hr⟩:=ho.find ht hk;have hg:=Li (P:=P) hs;have hc:=ht.key.check I w kv k es.isEmpty hk;rw[R6]at h;cases hi:(m.map (·.1)).findIdx? (· == k) with
 |none=>
  rw[hi]at hf h;refine Aw (v:=.tuple #[zv,.bool false]) ?_ (h zv (by grind));simp [execOp,Instr.lookup,run_underlying ht.und,hx,hy,hg,hc,hf,hz]
 |some i=>
  rw[hi]at hf h;have hlt:i<m.length:=by grind[aa]
  have hlt':i<es.toList.length:=by omega
  rw[ah,a8 hlt',au]at hf;simp only[ah,a8 hlt,au,cd,Option.isSome_some]at h;refine Aw (v:=.tuple #[es.toList[i].val,.bool true]) ?_ (h _ (hr i hlt' hlt).2);simp only[execOp,Instr.lookup];simp [run_underlying ht.und,hx,hy,hg,hc,hf]
theorem MN{b c:Nat}{es:Array MapEntry}{o':Obj}(hs:St I w ([(b,.map es c)]++T)):∃w',(setObj b o').run P w=.ok () w'/\Ext I w I w'/\St I w' ([(b,o')]++T):=by
 have hh:=hs.heap;have hlt:b<w.heap.size:=by grind
 obtain⟨e,s⟩:=hs.write (w':={w with heap:=w.heap.setIfInBounds b o'}) (o':=o') rfl rfl rfl (by simp) (by grind) (λc hc=>by grind);grind[setObj,Sem.run]
theorem Aaz{uv:Value}{u:β}(G:Acq P t kt et κ β)(L:Cz I w A v m)(hs:St I w (A++T))(O:ev f x=v)(M:ev f y=kv)(Z:ev f z=uv)(D:rep I w kv k)(hu:rep I w uv u)(h:∀A' w',Ext I w I w'->St I w' (A'++T)->Cz I w' A' v (BR m k u)->WL P N ops R false K os (put N f dst undef) w'):WL P N ops R false K (⟨dst,.mapUpdate t x y z,ty,pos,af,none⟩::os) f w:=by
 obtain⟨b,g,c,rfl,rfl,H,hl,J⟩:=L.find G D;have hg:=Li (P:=P) hs;have hc:=G.key.check I w kv k false D;rw[Aa3]at h;cases W:(m.map (·.1)).findIdx? (· == k) with
 |none=>
  rw[W]at H h;obtain⟨w',Y,a,V⟩:=MN (P:=P) hs (o':=.map (g.push {key:=kv,val:=uv,born:=c}) (c+1));refine MH ?_ (h _ w' a V ⟨⟨_,_,_,rfl,rfl,by simp [hl],λj Q o=>?_⟩,λ_ _ _ e=>UX ?_ e⟩)
  .simp only[execOp,Instr.mapUpdate];simp [run_underlying G.und,O,M,Z,hg,hc,H,Y]
  .simp only[bp];by_cases s:j<g.toList.length
   .rw[b5 s,b5 (by omega)];exact⟨a.rep (J j s (by omega)).1,a.rep (J j s (by omega)).2⟩
   .rw[bm (by omega),bm (by omega)];simp only[List.getElem_singleton];exact⟨a.rep D,a.rep hu⟩
  .obtain⟨b1,b2⟩:=L.bo _ _ _ rfl;refine⟨?_,λe q=>?_⟩
   .simp only[bp,bf,av,cw];rw[b7];refine⟨b1,by simp,λx O y M=>?_⟩;obtain⟨e,q,rfl⟩:=c9.1 O;have:=b2 e q;simp only[aj]at M;omega
   .simp only[bp,ci,aj]at q;rcases q with q|rfl
    .have:=b2 e q;omega
    .simp
 |some i=>
  rw[W]at H h;obtain⟨B,U,_⟩:=aa.1 W;have B:i<m.length:=by simpa using B
  have d:i<g.toList.length:=by omega
  have X:i<g.size:=by omega
  have p:m[i].1=k:=by grind
  rw[ah,a8 d,au]at H;have r:=G.key.same I w g.toList[i].key kv k (p▸(J i d B).1) D;obtain⟨w',Y,a,V⟩:=MN (P:=P) hs (o':=.map (g.modify i λe=>{e with key:=kv,val:=uv}) c);have F:∀(l:List MapEntry)(i:Nat),(l.modify i λe=>{e with key:=kv,val:=uv}).map (·.born)=l.map (·.born):=λl=>by
   induction l with
   |nil=>intro i;cases i<;>rfl
   |cons x l ih=>grind
  have C:((g.modify i λe=>{e with key:=kv,val:=uv}).toList.map (·.born))=g.toList.map (·.born):=by grind
  refine MH ?_ (h _ w' a V ⟨⟨_,_,_,rfl,rfl,by grind,λj Q o=>?_⟩,λ_ _ _ e=>UX ⟨C▸(L.bo _ _ _ rfl).1,λe q=>?_⟩ e⟩)
  .have n:Instr.sameBits 10000 g[i].key kv=true:=by grind
   simp only[execOp,Instr.mapUpdate];simp [run_underlying G.und,O,M,Z,hg,hc,H,X,Instr.keyThatStays,n,Y]
  .simp only[c5,List.length_modify]at Q o;simp only[c5,List.getElem_modify];by_cases E:i=j
   .subst E;simp only[if_true];exact⟨a.rep (p▸D),a.rep hu⟩
   .simp only[GT E];exact⟨a.rep (J j Q o).1,a.rep (J j Q o).2⟩
  .have h5:e.born∈g.toList.map (·.born):=C▸am q;obtain⟨e',S,h6⟩:=c9.1 h5;rw[<-h6];exact(L.bo _ _ _ rfl).2 e' S
theorem Aa0{at_:Array TypeId}(u:Acq P t kt et κ β)(B:Cz I w A v m)(hs:St I w (A++T))(E:ev f x=v)(L:ev f y=kv)(G:rep I w kv k)(q:at_[0]?=some t)(h:∀A' w',Ext I w I w'->St I w' (A'++T)->Cz I w' A' v (Db m k)->WL P N ops R mo K os (put N f dst (.tuple #[])) w'):WL P N ops R mo K (⟨dst,.call ⟨.builtin .delete,#[x,y],at_⟩,ty,pos,af,none⟩::os) f w:=by
 obtain⟨b,p,c,rfl,rfl,r,H,o⟩:=B.find u G;have J:=Li (P:=P) hs;have F:=u.key.check I w kv k p.isEmpty G;rw[Aa8]at h;cases C:(m.map (·.1)).findIdx? (· == k) with
 |none=>
  rw[C]at r h;obtain⟨w',z,g,D⟩:=MN (P:=P) hs (o':=.map p c);refine Aw (v:=.tuple #[]) ?_ (h _ w' g D ⟨⟨_,_,_,rfl,rfl,H,λj s l=>⟨g.rep (o j s l).1,g.rep (o j s l).2⟩⟩,λ_ _ _ e=>UX (B.bo _ _ _ rfl) e⟩);simp only[execOp,resolve,invoke,builtin,Builtin.delete_];simp [q,run_underlying u.und,E,L,J,F,r,z]
 |some i=>
  rw[C]at r h;obtain⟨n,Q,_⟩:=aa.1 C;have n:i<m.length:=by grind
  have a:i<p.toList.length:=by omega
  rw[ah,a8 a,au]at r;obtain⟨w',z,g,D⟩:=MN (P:=P) hs (o':=.map (p.eraseIdxIfInBounds i) c);have d:(p.eraseIdxIfInBounds i).toList=p.toList.eraseIdx i:=by simp
  refine Aw (v:=.tuple #[]) ?_ (h _ w' g D ⟨⟨_,_,_,rfl,rfl,by rw[d,b4 a,b4 n,H],λj s l=>?_⟩,λ_ _ _ e=>UX ?_ e⟩)
  .simp only[execOp,resolve,invoke,builtin,Builtin.delete_];simp [q,run_underlying u.und,E,L,J,F,r,z]
  .simp only[d,List.getElem_eraseIdx];rw[d,b4 a]at s;split
   .exact⟨g.rep (o j (by omega) (by omega)).1,g.rep (o j (by omega) (by omega)).2⟩
   .exact⟨g.rep (o (j+1) (by omega) (by omega)).1,g.rep (o (j+1) (by omega) (by omega)).2⟩
  .rw[d];obtain⟨M,O⟩:=B.bo _ _ _ rfl;grind
end
end
section
def fvB(P:Program)(t:TypeId)(i off:Nat):Bool:=match P.underlying t with
 |some (.struct fs)=>match fs[i]? with
  |some fd=>fd.offset==off&&OZ P fd.type false 1
  |none=>false
 |_=>false
section
variable {P:Program} {N:Nat} {ops:Array Oper} {R:List PanicEntry->World->Prop} {m:Bool} {K:Fr->World->Prop} {os:List Oper} {f:Fr} {w:World}
variable {dst:Option Tmp} {ty:TypeId} {pos:String} {af:Array Edge} {I:Cc} {T A:Bd} {x y z:Operand} {t e u:TypeId} {sz nb:Nat} {kd:IntKind} {a b:Int}
variable {fn:FuncId} {k:List Item}
theorem Amo{i off:Nat}{cs:Array Value}{v:Value}(hf:fvB P t i off=true)(hx:ev f x=.agg cs)(hv:cs[off]?=some v)(h:WL P N ops R m K os (put N f dst v) w):WL P N ops R m K (⟨dst,.field t x i,ty,pos,af,none⟩::os) f w:=by
 unfold fvB at hf;cases hu:P.underlying t with
 |none=>grind
 |some d=>
  cases d<;>simp only[hu,a1]at hf;rename_i fs;cases hi:fs[i]? with
  |none=>grind
  |some fd=>
   simp_all[a3,beq_iff_eq,Amp]
theorem Qq{α:Type}[AP α]{z:Value}{zd:α}{n:Nat}(hz:rep I w z zd):Dv I w (((be (n*AP.size α)).map λk=>z.cells[k%z.cells.size]!)[·]?) (bi n zd):=by
 intro j hj;rw[List.length_replicate]at hj;refine⟨z,by grind,λi hi=>?_⟩;have hs:=AP.cells hz;have hlt:j*AP.size α+i<n*AP.size α:=by have:(j+1)*AP.size α<=n*AP.size α:=a4 _ hj;grind
 grind[AP.size,Nat.mul_comm,Nat.mul_add_mod,Nat.mod_eq_of_lt]
theorem Aqz{α:Type}[AP α]{n:Nat}{zv:Value}{zd:α}(C:Wn P t e (AP.size α) nb=true)(hs:St I w T)(u:ev f x=.int .i64 a)(D:ev f y=.int .i64 b)(G:a=(n:Int))(M:b=(n:Int))(c:zrB P e zv)(d:∀(I:Cc)(w:World),rep I w zv zd)(j:n*nb<=281474976710656)(Q:n<=9223372036854775807)(h:∀v A w',Ext I w I w'->St I w' (A++T)->Bx I w' A v (bi n zd)->WL P N ops R m K os (put N f dst v) w'):WL P N ops R m K (⟨dst,.makeSlice t x y,ty,pos,af,none⟩::os) f w:=by
 obtain⟨i,z,o,p,q,B,L⟩:=(EE C).info;have F:=(EE C).under;obtain rfl:z=zv:=by grind[zrB]
 subst G M;have J:IntKind.i64.wrap (n:Int)=n:=Uj (by omega) (by omega);have O:¬((i.bytes:Int)*(n:Int)>281474976710656):=by grind
 obtain⟨g,s⟩:=hs.alloc (.cells ((be (n*AP.size α)).map λk=>z.cells[k%z.cells.size]!) e);by_cases E:n*AP.size α=0
 .have l:n=0:=by grind[ck,AP.pos]
  subst l;refine Aw (v:=.slice (some ⟨w.heap.size,0,none⟩) 0 0) ?_ (h _ _ _ g s (Bx.Td (by simp) (by simp) (by omega) (by simp) ((Qq (d I w)).mono g)));have r:IntKind.i64.wrap 0=0:=by decide
  simp [execOp,Instr.makeSlice,run_underlying F,u,D,asInt,asIntOf,typeInfo,o,r,sizeOf,newRow,show be 0=#[] from rfl]
 .refine Aw (v:=.slice (some ⟨w.heap.size,0,none⟩) n n) ?_ (h _ _ _ g s (Bx.Td (by simp) (by simp) (by grind[maxLen]) (by simp) ((Qq (d I w)).mono g)));simp [execOp,Instr.makeSlice,run_underlying F,u,D,asInt,asIntOf,typeInfo,o,J,sizeOf,p,E,newRow,zeroValue,B];omega
end
end
section
instance:AP (Option Nat) where
 size:=1
 agg:=false
 rep _ _ v p:=v=.pointer (p.map λb=>⟨b,0,none⟩)
 pos:=by decide
 cells h:=by subst h;rfl
 form h:=by subst h;simp [Value.cells]
 one h:=by subst h;simp [Value.cells,Value.oneCell']
 mono _ h:=h
structure HK(ω:Type) where
 ob:ω->Cc->World->Bd->Nat->Prop
 mono:∀{o:ω}{I:Cc}{w:World}{I':Cc}{w':World}{A:Bd}{b:Nat},Ext I w I' w'->ob o I w A b->ob o I' w' A b
 self:∀{o:ω}{I:Cc}{w:World}{A:Bd}{b:Nat},ob o I w A b->∃x A',A=(b,x)::A'
 gl:Cc->World->Prop
 glm:∀{I:Cc}{w:World}{I':Cc}{w':World},Ext I w I' w'->gl I w->gl I' w'
abbrev Hp(ω:Type):=Nat->Option ω
def Ab{ω:Type}(H:Hp ω)(b:Nat)(o:ω):Hp ω:=λc=>if c=b then some o else H c
theorem Ai{ω:Type}(H:Hp ω)(b:Nat)(o:ω):Ab H b o b=some o:=UV rfl
theorem Ag{ω:Type}(H:Hp ω){b c:Nat}(o:ω)(h:c≠b):Ab H b o c=H c:=GT h
theorem KQ{ω:Type}{H:Hp ω}{b:Nat}{o:ω}(h:H b=some o):Ab H b o=H:=by
 funext c;unfold Ab;split
 .rename_i e;rw[e,h]
 .rfl
theorem XL{ω:Type}(H:Hp ω)(b:Nat)(o o':ω):Ab (Ab H b o) b o'=Ab H b o':=by funext c;unfold Ab;split<;>rfl
def lk{ω:Type}:List (Nat×ω)->Nat->Option ω
 | [],_=>none
 |p::l,b=>if b=p.1 then some p.2 else lk l b
section
variable {ω:Type} {K:HK ω} {I:Cc} {w:World}
def HpL(K:HK ω)(I:Cc)(w:World):List (Nat×ω)->Bd->Prop
 | [],A=>A=[]/\K.gl I w
 |p::l,A=>∃A1 A2,A=A1++A2/\K.ob p.2 I w A1 p.1/\HpL K I w l A2
structure Hu(K:HK ω)(I:Cc)(w:World)(H:Hp ω)(A:Bd):Prop where
 ex:∃L,(∀b,lk L b=H b)/\HpL K I w L A
structure HpX(K:HK ω)(I:Cc)(w:World)(H:Hp ω)(b:Nat)(A:Bd):Prop where
 ex:∃L,(∀c,c≠b->lk L c=H c)/\HpL K I w L A
theorem HpL.mono{I':Cc}{w':World}(e:Ext I w I' w'):∀{L:List (Nat×ω)}{A:Bd},HpL K I w L A->HpL K I' w' L A
 | [],_,h=>⟨h.1,K.glm e h.2⟩
 |_::_,_,⟨c,d,a,f,b⟩=>⟨c,d,a,K.mono e f,HpL.mono e b⟩
theorem HpL.gl:∀{L:List (Nat×ω)}{A:Bd},HpL K I w L A->K.gl I w
 | [],_,h=>h.2
 |_::_,_,⟨_,_,_,_,h⟩=>HpL.gl h
theorem Hu.mono{I':Cc}{w':World}{H:Hp ω}{A:Bd}(h:Hu K I w H A)(e:Ext I w I' w'):Hu K I' w' H A:=by obtain⟨L,a,b⟩:=h.ex;exact⟨L,a,b.mono e⟩
theorem HpX.mono{I':Cc}{w':World}{H:Hp ω}{b:Nat}{A:Bd}(h:HpX K I w H b A)(e:Ext I w I' w'):HpX K I' w' H b A:=by obtain⟨L,a,c⟩:=h.ex;exact⟨L,a,c.mono e⟩
theorem HpL.split{b:Nat}{o:ω}:∀{L:List (Nat×ω)}{A:Bd},HpL K I w L A->lk L b=some o->∃A1 A2 L',A.Perm (A1++A2)/\K.ob o I w A1 b/\HpL K I w L' A2/\∀c,c≠b->lk L' c=lk L c
 | [],_,_,a=>by simp [lk]at a
 |p::l,A,⟨A1,A2,i,g,f⟩,a=>by
  unfold lk at a;by_cases d:b=p.1
  .rw[UV d]at a;obtain rfl:=cm a;subst d;exact⟨A1,A2,l,i▸c1 _,g,f,λc d=>by rw[lk,GT d]⟩
  .rw[GT d]at a;obtain⟨k,h,L',j,n,m,q⟩:=HpL.split f a;refine⟨k,A1++h,p::L',?_,n,⟨A1,h,rfl,g,m⟩,λc e=>by rw[lk,lk,q c e]⟩;subst i;refine(j.append_left A1).trans ?_;rw[<-a0,<-a0];exact aw.append_right _
variable {H:Hp ω} {A:Bd} {b:Nat} {o:ω}
theorem Hu.take{T:Bd}(h:Hu K I w H A)(k:H b=some o)(s:St I w (A++T)):∃A1 A2,K.ob o I w A1 b/\HpX K I w H b A2/\St I w (A1++(A2++T)):=by obtain⟨L,a,j⟩:=h.ex;obtain⟨A1,A2,l,d,g,f,e⟩:=j.split ((a b).trans k);exact⟨A1,A2,g,⟨l,λc i=>(e c i).trans (a c),f⟩,s.perm (by rw[<-a0];exact d.append_right T)⟩
variable {A1:Bd}
theorem HpX.lay{A2:Bd}(h:HpX K I w H b A2)(d:K.ob o I w A1 b):Hu K I w (Ab H b o) (A1++A2):=by
 obtain⟨L,f,e⟩:=h.ex;refine⟨(b,o)::L,λc=>?_,A1,A2,rfl,d,e⟩;unfold lk Ab;by_cases a:c=b
 .rw[UV a,UV a]
 .rw[GT a,GT a,f c a]
theorem HpX.back{A2:Bd}(h:HpX K I w H b A2)(c:H b=some o)(a:K.ob o I w A1 b):Hu K I w H (A1++A2):=by have:=h.lay a;rwa [KQ c]at this
theorem HpL.fresh{b:Nat}:∀{L:List (Nat×ω)}{A:Bd},HpL K I w L A->(∀p∈A,p.1≠b)->lk L b=none
 | [],_,_,_=>rfl
 |p::l,A,⟨j,h,c,f,d⟩,a=>by subst c;obtain⟨x,i,rfl⟩:=K.self f;rw[lk,GT,HpL.fresh d (λq g=>a q (ax _ g))];exact λe=>a (p.1,x) (by simp) e.symm
theorem Hu.fresh{T:Bd}(h:Hu K I w H A)(d:K.ob o I w A1 b)(s:St I w (A1++(A++T))):H b=none:=by obtain⟨L,f,g⟩:=h.ex;rw[<-f b];refine g.fresh λp c e=>?_;obtain⟨x,i,rfl⟩:=K.self d;have a:=s.nodup;rw[bf,b7]at a;exact a.2.2 b (by simp) p.1 (am (c0 _ c)) e.symm
theorem Hu.new(h:Hu K I w H A)(a:K.ob o I w A1 b):Hu K I w (Ab H b o) (A1++A):=by obtain⟨L,e,d⟩:=h.ex;exact HpX.lay ⟨L,λc _=>e c,d⟩ a
end
end
section
def A1j(P:Program)(r:Result Next)(v:Value)(w:World):Prop:=r=.ok (.value v) w∨∃g args,r=.ok (.enter g args) w/\Calls P g args w λe w'=>e=.returned v/\w'=w
def Akq(md:Region.Mode)(ops:Array Oper)(listed:Array Bool)(C:List Nat)(i:Nat):Bool:=
 C.all λc=>!(listed.getD c true)&&match ops[c]? with
  |some o=>o.after.any λe=>Region.binds md e&&(e.on==i ||C.contains e.on)
  |none=>false
def A08(listed:Array Bool)(E C:List Nat):Bool:=E.all λe=>C.contains e ||listed.getD e true
theorem Gx{i:Nat}{listed:Array Bool}(h:listed.getD i true=false)(a:listed.getD i false=true):False:=by
 rcases Nat.lt_or_ge i listed.size with b|b
 .simp [b]at h a;rw[h]at a;cases a
 .simp [Array.getElem?_eq_none b]at a
section
variable {P:Program} {ops:Array Oper} {R:List PanicEntry->World->Prop} {V:Act->World->Prop} {S:World->Prop} {E:List Nat} {w1:World}
def YG(P:Program)(ops:Array Oper)(S:World->Prop)(o:Oper)(v:Value)(a:Act):Prop:=(Region.wanted o (yielded ops a.tmps)=true/\∀w,S w->A1j P ((execOp a.eval o).run P w) v w)∨(Region.wanted o (yielded ops a.tmps)=false/\v=undef)
variable {i:Nat} {v:Value} {a:Act}
theorem YG.opA{o:Oper}(hi:ops[i]?=some o)(m:YG P ops S o v a){K:Act->World->Prop}{w:World}(f:S w)(h:K (a.put o.dst v) w):ZD P ops R i K a w:=by
 unfold ZD;simp only[hi];rcases m with ⟨c,k⟩|⟨c,rfl⟩
 .simp only[c,if_true];rcases k w f with b|⟨g,d,b,l⟩
  .rw[b];exact h
  .rw[b];refine⟨rfl,Calls.mono l λe n j=>?_⟩;obtain⟨rfl,rfl⟩:=j;exact h
 .simp only[c,a1,if_false];exact h
theorem YG.of_same{o:Oper}{a':Act}(c:YG P ops S o v a)(b:execOp a'.eval o=execOp a.eval o)(d:Region.wanted o (yielded ops a'.tmps)=Region.wanted o (yielded ops a.tmps)):YG P ops S o v a':=by unfold YG at *;rw[b,d];exact c
variable {oi:Oper}
theorem ZD.put{j:Nat}{oj:Oper}(o:ops[j]?=some oj)(g:oi.apart ops oj=true)(f:∀cs b,oi.op≠.select cs b)(e:∀cs b,oj.op≠.select cs b){K:Act->World->Prop}{w:World}(m:YG P ops S oi v a)(h:ZD P ops R j K (a.put oi.dst v) w):ZD P ops R j (λa' w'=>YG P ops S oi v a'/\K (a'.put oi.dst v) w') a w:=by
 obtain⟨l,k,i⟩:=Oper.apart_spec g;have c:∀u,YG P ops S oi v (a.put oj.dst u):=λu=>m.of_same (execOp_put oi f a oj.dst u i) (wanted_put oi a oj.dst u i);unfold ZD at *;simp only[o]at *;rw[wanted_put oj a oi.dst v l]at h;split
 .rename_i d;simp only[d,if_true]at h;rw[execOp_put oj e a oi.dst v l]at h;exact h.mono λu w' n=>⟨c u,by rw[<-Act.put_comm a v u k];exact n⟩
 .rename_i d;simp only[d]at h;exact⟨c _,by rw[<-Act.put_comm a v undef k];exact h⟩
theorem RR{j:Nat}{listed:Array Bool}(c:listed.getD j true=false)(a:∀j oj,ops[j]?=some oj->j≠i->listed.getD j true=false->(∀e∈oj.after,Region.binds .any e=true->e.on≠i)->oi.apart ops oj=true):∀k ok,ops[k]?=some ok->k≠i->(listed.setIfInBounds j true).getD k true=false->(∀e∈ok.after,Region.binds .any e=true->e.on≠i)->oi.apart ops ok=true:=λk ok h f b g=>by
 refine a k ok h f ?_ g;by_cases d:j=k
 .subst d;exact c
 .rw[getD_set_ne true d]at b;exact b
theorem Ae3(hi:ops[i]?=some oi)(l:∀(j:Nat)(o:Oper)cs b,ops[j]?=some o->o.op≠.select cs b):∀(d:Nat)(c:Array Bool)(a:Act)(w:World),(∀j oj,ops[j]?=some oj->j≠i->c.getD j true=false->(∀e∈oj.after,Region.binds .any e=true->e.on≠i)->oi.apart ops oj=true)->i∈Region.ready .any ops c->YG P ops S oi v a->S w->Wl P ops R V S d (c.setIfInBounds i true) (a.put oi.dst v) w->Wl P ops R V S (d+1) c a w:=by
 intro d;induction d with
 |zero=>
  intro c a w _ m s q H;refine⟨λh=>(by rw[h]at m;cases m),λj x=>?_⟩;by_cases f:j=i
  .subst f;exact s.opA hi q ⟨q,H⟩
  .have:=ready_mono x f;rw[H.1]at this;cases this
 |succ d E=>
  intro c a w g m s q H;refine⟨λh=>(by rw[h]at m;cases m),λj x=>?_⟩;by_cases f:j=i
  .subst f;exact s.opA hi q ⟨q,H⟩
  .have A:=H.2 j (ready_mono x f);have z:=(mem_ready.1 m).1;obtain⟨k,oj,n,r⟩:=mem_ready.1 x;have p:∀e∈oj.after,Region.binds .any e=true->e.on≠i:=λe B F y=>by have u:=r e B F;rw[y]at u;exact Gx z u
   have u:=ZD.put n (g j oj n f k p) (λcs b=>l i oi cs b hi) (λcs b=>l j oj cs b n) s A;refine u.mono λC D t=>⟨t.2.1,E (c.setIfInBounds j true) C D (RR k g) (ready_mono m (Ne.symm f)) t.1 t.2.1 ?_⟩
   rw[al _ _ f];exact t.2.2
theorem Ae5{C:List Nat}(hi:ops[i]?=some oi)(r:∀(j:Nat)(o:Oper)cs b,ops[j]?=some o->o.op≠.select cs b)(t:E.contains i=false):∀(g:Nat)(d:Array Bool)(a:Act),(∀j oj,ops[j]?=some oj->j≠i->d.getD j true=false->(∀e∈oj.after,Region.binds .any e=true->e.on≠i)->oi.apart ops oj=true)->i∈Region.ready .any ops d->(∀c∈C,d.getD c true=false/\∃o,ops[c]?=some o/\∃e∈o.after,Region.binds .any e=true/\(e.on=i∨e.on∈C))->(∀e∈E,e∈C∨d.getD e true=true)->YG P ops (·=w1) oi v a->Xd P ops R V S E w1 g (d.setIfInBounds i true) (a.put oi.dst v) w1->Xd P ops R V S E w1 (g+1) d a w1:=by
 intro g;induction g with
 |zero=>
  intro d a _ s _ _ B H;refine⟨λh=>(by rw[h]at s;cases s),λj D=>?_⟩;by_cases f:j=i
  .subst f;exact B.opA hi rfl (by rw[t];exact⟨rfl,H⟩)
  .have:=ready_mono D f;rw[H.1]at this;cases this
 |succ g O=>
  intro d a m s G L B H;refine⟨λh=>(by rw[h]at s;cases s),λj D=>?_⟩;by_cases f:j=i
  .subst f;exact B.opA hi rfl (by rw[t];exact⟨rfl,H⟩)
  .have x:=(mem_ready.1 s).1;obtain⟨k,oj,n,p⟩:=mem_ready.1 D;have w:j∉C:=λA=>by
    obtain⟨_,o,K,e,y,I,l⟩:=G j A;rw[n]at K;obtain rfl:=cm K;have q:=p e y I;rcases l with l|l
    .rw[l]at q;exact Gx x q
    .exact Gx (G _ l).1 q
   have F:E.contains j=false:=by
    rw[Bool.eq_false_iff];intro h;rcases L j (by simpa using h) with l|l
    .exact w l
    .rw[k]at l;cases l
   have l:=H.2 j (ready_mono D f);have z:∀e∈oj.after,Region.binds .any e=true->e.on≠i:=λe y I J=>by have q:=p e y I;rw[J]at q;exact Gx x q
   have q:=ZD.put n (m j oj n f k z) (λcs b=>r i oi cs b hi) (λcs b=>r j oj cs b n) B l;refine q.mono λN U M=>?_;rw[F]at M ⊢;obtain⟨Q,rfl,T⟩:=M;refine⟨rfl,O (d.setIfInBounds j true) N (RR k m) (ready_mono s (Ne.symm f)) (λc A=>?_) (λe y=>?_) Q ?_⟩
   .have:=G c A;exact⟨by rw[getD_set_ne true (λh:j=c=>w (h.symm▸A))];exact this.1,this.2⟩
   .refine(L e y).imp id λh=>?_;by_cases u:j=e
    .subst u;rw[k]at h;cases h
    .rw[getD_set_ne true u];exact h
   .rw[al _ _ f];exact T
theorem TP(hi:ops[i]?=some oi)(l:∀(j:Nat)(o:Oper)cs b,ops[j]?=some o->o.op≠.select cs b)(p:E.contains i=false)(F:S w1):∀(f:Nat)(c:Array Bool)(a:Act),(∀j oj,ops[j]?=some oj->j≠i->c.getD j true=false->(∀e∈oj.after,Region.binds .any e=true->e.on≠i)->oi.apart ops oj=true)->i∈Region.ready .any ops c->YG P ops S oi v a->Xd P ops R V S E w1 f (c.setIfInBounds i true) (a.put oi.dst v) w1->Xd P ops R V S E w1 (f+1) c a w1:=by
 intro f;induction f with
 |zero=>
  intro c a _ m w H;refine⟨λh=>(by rw[h]at m;cases m),λj t=>?_⟩;by_cases d:j=i
  .subst d;exact w.opA hi F (by rw[p];exact⟨rfl,H⟩)
  .have:=ready_mono t d;rw[H.1]at this;cases this
 |succ f I=>
  intro c a g m w H;refine⟨λh=>(by rw[h]at m;cases m),λj t=>?_⟩;by_cases d:j=i
  .subst d;exact w.opA hi F (by rw[p];exact⟨rfl,H⟩)
  .have z:=(mem_ready.1 m).1;obtain⟨k,oj,n,q⟩:=mem_ready.1 t;have K:=H.2 j (ready_mono t d);have s:∀e∈oj.after,Region.binds .any e=true->e.on≠i:=λe J L B=>by have x:=q e J L;rw[B]at x;exact Gx z x
   have x:=ZD.put n (g j oj n d k s) (λcs b=>l i oi cs b hi) (λcs b=>l j oj cs b n) w K;refine x.mono λC G u=>?_;by_cases r:E.contains j=true
   .rw[UV r]at u ⊢;obtain⟨A,D,y⟩:=u;refine⟨D,Ae3 hi l f _ C G (RR k g) (ready_mono m (Ne.symm d)) A D ?_⟩;rw[al _ _ d];exact y
   .rw[GT r]at u ⊢;obtain⟨A,rfl,y⟩:=u;refine⟨rfl,I (c.setIfInBounds j true) C (RR k g) (ready_mono m (Ne.symm d)) A ?_⟩;rw[al _ _ d];exact y
end
section
variable {P:Program} {φ:FK} {N:Nat} {k:List Item} {R:Qp->World->Prop} {f:Fr} {w:World} {ops:Array Oper} {S:World->Prop} {n:Nat} {l:Array Bool} {E:List Nat}
def VG(P:Program)(φ:FK)(N:Nat)(k:List Item)(R:Qp->World->Prop):Act->World->Prop:=λa w=>a.defers=φ.ds/\∃f,Is N a.tmps f/\WT P φ N k R f w
def WE(P:Program)(φ:FK)(N:Nat)(ops:Array Oper)(k:List Item)(R:Qp->World->Prop)(S:World->Prop)(E:List Nat)(n:Nat)(l:Array Bool)(f:Fr)(w:World):Prop:=∀a,Is N a f->Xd P ops (φ.at R) (VG P φ N k R) S E w n l ⟨a,φ.ds⟩ w
theorem Zw(E:List Nat)(b:S w)(h:WE P φ N ops k R S E n l f w):WG P φ N ops k R S n l f w:=λa c=>XO b _ _ _ _ (h a c)
theorem An9(c:Region.ready .any ops l=[])(h:WT P φ N k R f w):WE P φ N ops k R S E n l f w:=λa b=>by
 cases n with
 |zero=>exact⟨c,rfl,f,b,h⟩
 |succ n=>exact⟨λ_=>⟨rfl,f,b,h⟩,by rw[c];simp⟩
variable {d:Nat} {o:Oper} {f2:Fr}
theorem An8{w:World}(_:o.dst=some d)(c:cx d N=true)(a:WL P N ops (λ_ _=>False) true (λf' w'=>f'=f2/\w'=w) [o] f w):∃v,put N f o.dst v=f2/\((Region.wanted o (yl ops f)=true/\(execOp (ev f) o).run P w=.ok (.value v) w)∨(Region.wanted o (yl ops f)=false/\v=undef)):=by
 have g:d<N:=by simpa [co] using c
 by_cases b:Region.wanted o (yl ops f)=true
 .simp only[WL,b,if_true]at a;obtain⟨v,k,i,h,e⟩:=ZA _ a;exact⟨v,h,.inl ⟨b,by rw[i,e]⟩⟩
 .simp only[WL,b,if_false,a1]at a;exact⟨undef,a.1,.inr ⟨by simpa using b,rfl⟩⟩
variable {i:Nat}
theorem A09{l':Array Bool}(C:List Nat)(hi:ops[i]?=some o)(z:o.dst=some d)(t:cx d N=true)(b:(Region.noSelect ops&&Region.free .any ops l i&&(Region.ready .any ops l).contains i&&!(E.contains i)&&Akq .any ops l C i&&A08 l E C)=true)(x:l.setIfInBounds i true=l')(q:WL P N ops (λ_ _=>False) true (λf' w'=>f'=f2/\w'=w) [o] f w)(h:WE P φ N ops k R S E n l' f2 w):WE P φ N ops k R S E (n+1) l f w:=by
 intro a j;simp only[a3,az]at b;obtain⟨v,rfl,D⟩:=An8 z t q;obtain⟨u,A,m⟩:=j.put (ds:=φ.ds) o.dst v;refine Ae5 (C:=C) (v:=v) hi (Region.noSelect_spec b.1.1.1.1.1) b.1.1.2 _ _ _ (Region.free_spec hi b.1.1.1.1.2) (by simpa using b.1.1.1.2) (λc y=>?_) (λe g=>?_) ?_ ?_
 .have:=cf.1 b.1.2 c y;simp only[a3,az]at this;refine⟨this.1,?_⟩;cases s:ops[c]? with
  |none=>rw[s]at this;simp at this
  |some o=>
   rw[s]at this;have r:=this.2;simp only[<-Array.any_toList,List.any_eq_true]at r;obtain⟨e,g,p⟩:=r;simp only[a3,bx,beq_iff_eq,bz]at p;exact⟨o,rfl,e,by simpa using g,p.1,p.2⟩
 .have:=cf.1 b.2 e g;simpa [bx,bz] using this
 .unfold YG;rw[U0 j,G4 j];exact D.imp (λ⟨q,m⟩=>⟨q,λw B=>by rw[B];exact .inl m⟩) id
 .rw[A];subst x;exact h u m
theorem Mf{l':Array Bool}(hi:ops[i]?=some o)(j:o.dst=some d)(g:cx d N=true)(c:(Region.noSelect ops&&Region.free .any ops l i&&(Region.ready .any ops l).contains i&&!(E.contains i))=true)(D:l.setIfInBounds i true=l')(x:S w)(t:∀w,S w->WL P N ops (λ_ _=>False) true (λf' w'=>f'=f2/\w'=w) [o] f w)(h:WE P φ N ops k R S E n l' f2 w):WE P φ N ops k R S E (n+1) l f w:=by
 intro a q;simp only[a3,az]at c;have m:d<N:=by simpa [co] using g
 obtain⟨v,rfl,B⟩:=An8 j g (t w x);obtain⟨A,y,C⟩:=q.put (ds:=φ.ds) o.dst v;have b:∀u,put N f o.dst u d=u:=λu=>by rw[j];simp [put,DG,m]
 refine TP (v:=v) hi (Region.noSelect_spec c.1.1.1) c.2 x _ _ _ (Region.free_spec hi c.1.1.2) (by simpa using c.1.2) ?_ ?_
 .unfold YG;rw[U0 q,G4 q];refine B.imp (λ⟨s,_⟩=>⟨s,λw' r=>.inl ?_⟩) id;obtain⟨u,z,p⟩:=An8 j g (t w' r);have:u=v:=by rw[<-b u,z,b]
  subst this;rcases p with ⟨_,e⟩|⟨e,_⟩
  .exact e
  .rw[s]at e;cases e
 .rw[y];subst D;exact h A C
theorem Ag5{v:Value}(hi:ops[i]?=some o)(_:o.dst=some d)(b:(Region.noSelect ops&&Region.free .any ops l i&&(Region.ready .any ops l).contains i&&!(E.contains i))=true)(m:S w)(e:Region.wanted o (yl ops f)=true)(g:∀w,S w->A1j P ((execOp (ev f) o).run P w) v w)(h:WE P φ N ops k R S E n (l.setIfInBounds i true) (put N f o.dst v) w):WE P φ N ops k R S E (n+1) l f w:=by
 intro a c;simp only[a3,az]at b;obtain⟨j,q,r⟩:=c.put (ds:=φ.ds) o.dst v;refine TP (v:=v) hi (Region.noSelect_spec b.1.1.1) b.2 m _ _ _ (Region.free_spec hi b.1.1.2) (by simpa using b.1.2) ?_ ?_
 .unfold YG;rw[U0 c,G4 c];exact .inl ⟨e,g⟩
 .rw[q];exact h j r
theorem A1b{rs:List Nat}(c:Region.ready .any ops l=rs)(b:rs≠[])(h:∀i∈rs,∀a,Is N a f->ZD P ops (φ.at R) i (λa' w'=>if E.contains i then S w'/\Wl P ops (φ.at R) (VG P φ N k R) S n (l.setIfInBounds i true) a' w' else w'=w/\Xd P ops (φ.at R) (VG P φ N k R) S E w n (l.setIfInBounds i true) a' w') ⟨a,φ.ds⟩ w):WE P φ N ops k R S E (n+1) l f w:=λa g=>
 ⟨λd=>qG (c▸d) b,λi e=>h i (c▸e) a g⟩
end
end
section
def WY(P:Program)(g:FuncId)(vs:List Value)(I:Cc)(w:World)(Q X:Value->Cc->World->Prop):Prop:=Calls P g ⟨vs⟩ w λe w'=>(∃v I',e=.returned v/\Ext I w I' w'/\Q v I' w')∨(∃v I',e=.panicked [{v,recovered:=false}]/\Ext I w I' w'/\X v I' w')
theorem WY.mono{P:Program}{g:FuncId}{vs:List Value}{I:Cc}{w:World}{Q Q' X X':Value->Cc->World->Prop}(h:WY P g vs I w Q X)(f:∀v I' w',Ext I w I' w'->Q v I' w'->Q' v I' w')(d:∀v I' w',Ext I w I' w'->X v I' w'->X' v I' w'):WY P g vs I w Q' X':=Calls.mono h λ_ _ i=>i.imp (λ⟨v,I',c,a,b⟩=>⟨v,I',c,a,f _ _ _ a b⟩) (λ⟨v,I',c,a,b⟩=>⟨v,I',c,a,d _ _ _ a b⟩)
section
variable {P:Program} {N:Nat} {ops:Array Oper} {R:List PanicEntry->World->Prop} {m:Bool} {K:Fr->World->Prop} {os:List Oper} {f:Fr} {w:World}
variable {dst:Option Tmp} {ty:TypeId} {pos:String} {af:Array Edge} {I:Cc} {T A:Bd} {x y z:Operand} {t e u:TypeId} {kd:IntKind}
variable {k:List Item}
variable {vs:List Value} {Q X:Value->Cc->World->Prop}
theorem Amh{g:FuncId}{aE:Array Operand}{at_:Array TypeId}(k:CO P g=true)(j:WY P g vs I w Q X)(l:aE.toList.map (ev f)=vs)(d:∀v I' w',Ext I w I' w'->X v I' w'->R [{v,recovered:=false}] w')(h:∀v I' w',Ext I w I' w'->Q v I' w'->WL P N ops R false K os (put N f dst v) w'):WL P N ops R false K (⟨dst,.call ⟨.value (.func g),aE,at_⟩,ty,pos,af,none⟩::os) f w:=
 Vi k l (Calls.mono j λe w' i=>by grind)
theorem Af7{g:FuncId}{fv:Operand}{first captured:Array Value}{aE:Array Operand}{at_:Array TypeId}(l:CO P g=true)(k:WY P g vs I w Q X)(d:ev f fv=.func (.func g) first captured)(m:first.toList++aE.toList.map (ev f)++captured.toList=vs)(i:∀v I' w',Ext I w I' w'->X v I' w'->R [{v,recovered:=false}] w')(h:∀v I' w',Ext I w I' w'->Q v I' w'->WL P N ops R false K os (put N f dst v) w'):WL P N ops R false K (⟨dst,.call ⟨.value fv,aE,at_⟩,ty,pos,af,none⟩::os) f w:=
 Agb d l m (Calls.mono k λe w' j=>by grind)
theorem Q1{q:FuncId}{F:Func}{c:Code}(b:P.funcs[q]?=some F)(a:F.body=some c)(d:F.ntmps=N)(f:cu vs.length N=true)(h:WT P ⟨q,none,[]⟩ N [.code c] (Ajz P F N λe w'=>(∃v I',e=.returned v/\Ext I w I' w'/\Q v I' w')∨(∃v I',e=.panicked [{v,recovered:=false}]/\Ext I w I' w'/\X v I' w')) (Wo vs) w):WY P q vs I w Q X:=Ix b a d (ba f) h
theorem NX(n:Nat)(p:Option Addr)(a:P.underlying t=some (.pointer e)):(Op.equalIn (n+1) t (.pointer p) (.pointer none)).run P w=.ok p.isNone w:=by cases p<;>simp [Op.equalIn,run_underlying a]
variable {p:Option Addr}
theorem Ado(a:P.underlying t=some (.pointer e)):(binOp .eql t (.pointer p) (.pointer none)).run P w=.ok (.bool p.isNone) w:=by simp only[binOp,Op.equal,Sem.run_bind,Op.maxDepth,NX 9999 p a,Result.andThen_ok,Sem.run_pure]
theorem Adn(a:P.underlying t=some (.pointer e)):(binOp .neq t (.pointer p) (.pointer none)).run P w=.ok (.bool (!p.isNone)) w:=by simp only[binOp,Op.equal,Sem.run_bind,Op.maxDepth,NX 9999 p a,Result.andThen_ok,Sem.run_pure]
theorem XP{op:BinOp}{q:Option Addr}:(eqGuard op t x y (.pointer p) (.pointer q)).run P w=.ok () w:=by simp only[eqGuard];cases op<;>simp
theorem Aar{p:Option Nat}:(p.map λb=>(⟨b,0,none⟩:Addr)).isNone=decide (p=none):=by cases p<;>simp
variable {v:Value}
theorem Az9{p:Option Nat}(c:∃e,P.underlying t=some (.pointer e))(a:rep I w v p)(d:ev f x=v)(g:ev f y=.pointer none)(h:WL P N ops R m K os (put N f dst (.bool (decide (p=none)))) w):WL P N ops R m K (⟨dst,.binOp .eql t x y u,ty,pos,af,none⟩::os) f w:=by obtain⟨e,c⟩:=c;have a:v=.pointer (p.map λb=>⟨b,0,none⟩):=a;subst a;exact Aw (by simp only[execOp,d,g,Sem.run_bind,XP,Result.andThen_ok,Ado c,Sem.run_pure,Aar]) h
theorem Az2{p:Option Nat}(c:∃e,P.underlying t=some (.pointer e))(a:rep I w v p)(d:ev f x=v)(g:ev f y=.pointer none)(h:WL P N ops R m K os (put N f dst (.bool (decide (¬(p=none))))) w):WL P N ops R m K (⟨dst,.binOp .neq t x y u,ty,pos,af,none⟩::os) f w:=by obtain⟨e,c⟩:=c;have a:v=.pointer (p.map λb=>⟨b,0,none⟩):=a;subst a;exact Aw (by simp only[execOp,d,g,Sem.run_bind,XP,Result.andThen_ok,Adn c,Sem.run_pure,Aar,decide_not]) h
variable {a b:ByteArray}
theorem Ti{op:BinOp}:(eqGuard op t x y (.string a) (.string b)).run P w=.ok () w:=by simp only[eqGuard];cases op<;>simp
theorem Ao1(a b:ByteArray):(a.toList==b.toList)=decide (a=b):=by
 by_cases h:a=b
 .grind
 .rw[decide_eq_false h];refine beq_eq_false_iff_ne.2 λe=>h ?_;rw[ByteArray.toList_eq,ByteArray.toList_eq]at e;cases a with|mk a=>simp_all
theorem Az8(d:ev f x=.string a)(c:ev f y=.string b)(h:WL P N ops R m K os (put N f dst (.bool (decide (a=b)))) w):WL P N ops R m K (⟨dst,.binOp .eql t x y u,ty,pos,af,none⟩::os) f w:=
 Aw (by simp only[execOp,d,c,Sem.run_bind,Ti,Result.andThen_ok,binOp,Op.stringOp,Sem.run_pure,Ao1]) h
theorem Az0(d:ev f x=.string a)(c:ev f y=.string b)(h:WL P N ops R m K os (put N f dst (.bool (decide (¬(a=b))))) w):WL P N ops R m K (⟨dst,.binOp .neq t x y u,ty,pos,af,none⟩::os) f w:=
 Aw (by simp only[execOp,d,c,Sem.run_bind,Ti,Result.andThen_ok,binOp,Op.stringOp,Sem.run_pure,Ao1,decide_not]) h
theorem Aqy{tv:TypeId}(a:ev f x=.iface tv v)(h:R [{v:=.iface tv v,recovered:=false}] w):WL P N ops R false K (⟨dst,.panic x,ty,pos,af,none⟩::os) f w:=by simp_all[WL,Region.wanted,execOp,Instr.panic,UP]
end
end
section
def Bn(k:IntKind)(n:Int):Prop:=k.min<=n/\n<=k.max
theorem IJ(k:IntKind)(n:Int):Bn k (k.wrap n):=by unfold Bn;have:=(Lit.wf_int_iff k _).1 (WideShapes.wf_wrap k n);exact this
theorem Axd(b:UInt8):Bn .u8 (b.toNat:Int):=by
 have a:IntKind.u8.min=0:=by decide
 have c:IntKind.u8.max=255:=by decide
 have:=b.toNat_lt;unfold Bn;omega
theorem EL{k:IntKind}{n:Int}(h:Bn k n):k.wrap n=n:=by unfold Bn at h;cases k<;>simp [IntKind.min,IntKind.max,IntKind.bits,IntKind.signed]at h<;>simp [IntKind.wrap,IntKind.bits,IntKind.signed]<;>omega
theorem Zu{a d:Int}(b:0<d):(0<=a->0<=a.fdiv d/\a.fdiv d<=a)/\(a<0->a<=a.fdiv d/\a.fdiv d<0):=by rw[Int.fdiv_eq_ediv_of_nonneg a (by omega)];refine⟨λh=>⟨Int.ediv_nonneg h (by omega),Int.ediv_le_self d h⟩,λh=>⟨?_,Int.ediv_neg_of_neg_of_pos h b⟩⟩;rw[Int.le_ediv_iff_mul_le b];have:=Int.mul_le_mul_of_nonpos_left (a:=a) (show a<=0 by omega) (show (1:Int)<=d by omega);omega
theorem Ajb(k:IntKind):k.min<=0/\0<=k.max:=by cases k<;>decide
theorem Arq{k:IntKind}{a b:Int}(h:Bn k a)(_:0<=b):Bn k (a.fdiv (2^(min b.toNat k.bits))):=by
 have e:=Zu (a:=a) (d:=2^(min b.toNat k.bits)) (Int.pow_pos (by decide));have f:=Ajb k;unfold Bn at *;rcases Int.lt_or_le a 0 with c|c
 .have:=e.2 c;omega
 .have:=e.1 c;omega
section
variable {P:Program} {N:Nat} {ops:Array Oper} {R:List PanicEntry->World->Prop} {m:Bool} {K:Fr->World->Prop} {os:List Oper} {f:Fr} {w:World}
variable {dst:Option Tmp} {ty:TypeId} {pos:String} {af:Array Edge} {I:Cc} {T A:Bd} {x y z:Operand} {t e u:TypeId} {kd kd2:IntKind} {a b:Int}
def C3(op:BinOp)(k:IntKind)(a b:Int):Int:=match op with
 | .and=>k.wrap (BitVec.ofInt k.bits a&&&BitVec.ofInt k.bits b).toNat
 | .or=>k.wrap (BitVec.ofInt k.bits a|||BitVec.ofInt k.bits b).toNat
 | .xor=>k.wrap (BitVec.ofInt k.bits a ^^^ BitVec.ofInt k.bits b).toNat
 |_=>k.wrap (BitVec.ofInt k.bits a&&&~~~ BitVec.ofInt k.bits b).toNat
theorem Pw{op:BinOp}{k:IntKind}{a b:Int}:Bn k (C3 op k a b):=by unfold C3;split<;>exact IJ _ _
theorem Ats(c:ev f x=.int kd a)(d:ev f y=.int kd b)(h:WL P N ops R m K os (put N f dst (.int kd (C3 .and kd a b))) w):WL P N ops R m K (⟨dst,.binOp .and t x y u,ty,pos,af,none⟩::os) f w:=
 R0 c d (by simp [binOp,Op.intBits,C3]) h
theorem Azz(d:ev f x=.int kd a)(c:ev f y=.int kd b)(h:WL P N ops R m K os (put N f dst (.int kd (C3 .or kd a b))) w):WL P N ops R m K (⟨dst,.binOp .or t x y u,ty,pos,af,none⟩::os) f w:=
 R0 d c (by simp [binOp,Op.intBits,C3]) h
theorem Atn(c:ev f x=.int kd a)(d:ev f y=.int kd b)(h:WL P N ops R m K os (put N f dst (.int kd (C3 .xor kd a b))) w):WL P N ops R m K (⟨dst,.binOp .xor t x y u,ty,pos,af,none⟩::os) f w:=
 R0 c d (by simp [binOp,Op.intBits,C3]) h
theorem Vy{op:BinOp}:(eqGuard op t x y (.int kd a) (.int kd2 b)).run P w=.ok () w:=by simp only[eqGuard];cases op<;>simp
theorem Azy(c:ev f x=.int kd a)(d:ev f y=.int kd2 b)(e:0<=b)(h:WL P N ops R m K os (put N f dst (.int kd (kd.wrap (a*2^(min b.toNat kd.bits))))) w):WL P N ops R m K (⟨dst,.binOp .shl t x y u,ty,pos,af,none⟩::os) f w:=
 Aw (by
  have:¬b<0:=by omega
  simp only[execOp,c,d,Sem.run_bind,Vy,Result.andThen_ok,binOp,Op.shift,GT this,Sem.run_pure]) h
theorem Azx(c:ev f x=.int kd a)(d:ev f y=.int kd2 b)(e:0<=b)(h:WL P N ops R m K os (put N f dst (.int kd (a.fdiv (2^(min b.toNat kd.bits))))) w):WL P N ops R m K (⟨dst,.binOp .shr t x y u,ty,pos,af,none⟩::os) f w:=
 Aw (by
  have:¬b<0:=by omega
  simp only[execOp,c,d,Sem.run_bind,Vy,Result.andThen_ok,binOp,Op.shift,GT this,Sem.run_pure]) h
theorem Vh{kt ku:IntKind}(c:P.underlying t=some (.int kt))(b:P.underlying e=some (.int ku))(d:ev f x=.int kd a)(h:WL P N ops R m K os (put N f dst (.int ku (ku.wrap a))) w):WL P N ops R m K (⟨dst,.convert t e x,ty,pos,af,none⟩::os) f w:=
 Aw (by simp only[execOp,d,convert,Sem.run_bind,run_underlying c,run_underlying b,Result.andThen_ok,Conv.intToInt,Sem.run_pure]) h
theorem Amj(e:ev f x=.int kd a)(d:ev f y=.int kd b)(g:b≠0)(c:Bn kd (a.tdiv b))(h:WL P N ops R m K os (put N f dst (.int kd (a.tdiv b))) w):WL P N ops R m K (⟨dst,.binOp .quo t x y u,ty,pos,af,none⟩::os) f w:=
 R0 e d (by simp [binOp,Op.intDiv,g,EL c]) h
theorem Ami(e:ev f x=.int kd a)(d:ev f y=.int kd b)(g:b≠0)(_:Bn kd (a.tmod b))(h:WL P N ops R m K os (put N f dst (.int kd (a.tmod b))) w):WL P N ops R m K (⟨dst,.binOp .rem t x y u,ty,pos,af,none⟩::os) f w:=
 R0 e d (by simp [binOp,Op.intDiv,g]) h
theorem Amm{s:ByteArray}{j:Nat}(d:P.underlying t=some .string)(c:j<s.size)(g:ev f x=.string s)(e:ev f y=.int kd a)(b:a=(j:Int))(h:WL P N ops R m K os (put N f dst (.int .u8 (s[j].toNat:Int))) w):WL P N ops R m K (⟨dst,.index t x y,ty,pos,af,none⟩::os) f w:=
 Aw (by subst b;simp [execOp,g,e,Instr.index,asIntOf,run_underlying d,c]) h
end
end
section
section
variable {P:Program} {φ:FK} {N:Nat} {k:List Item} {R:Qp->World->Prop} {f:Fr} {w:World}
def TX(fn:FuncId)(a:Array Value)(ps:Array Tmp)(aE bd:Code)(b:Nat):Loop:={state:=.ready,pending:=none,fn:=fn,tmps:=a,params:=ps,assign:=aE,body:=bd,defers:=b}
def FK.mark(φ:FK)(b:Nat):FK:={φ with ds:=⟨.collected b,#[]⟩::φ.ds}
theorem Yq(t:φ.ro=none){g:Operand}{ps:Array Tmp}{aE bd:Code}{q:FuncId}{first cap:Array Value}(M:ev f g=.func (.func q) first cap)(h:∀a,Is N a f->CO P q=true/\Calls P q ⟨first.toList++[.func (.yield (w.heap.size+1)) #[] #[]]++cap.toList⟩ ((w.alloc (.deferred (some []))).alloc (.loop (TX φ.fn a ps aE bd w.heap.size))) λe w'=>match e with
   | .returned _=>∃r,w'.heap[w.heap.size+1]?=some (.loop r)/\r.state≠.busy/\WT P (φ.mark w.heap.size) N ((r.pending.map Item.code).toList++k) R f (w'.putObj (w.heap.size+1) (.loop {r with state:=.exhausted}))
   | .panicked ch=>R (.pan ch f (φ.mark w.heap.size).ds) w'
   | .outgrown=>False):WT P φ N (.code (.rangeFunc g ps aE bd)::k) R f w:=by
 intro b cs a p D J C
 obtain⟨E,h⟩:=h a p
 have K:(Instr.enterLoop b.fn a ps aE bd b.roundOf).run P w=.ok (w.heap.size+1,[⟨.collected w.heap.size,#[]⟩]) ((w.alloc (.deferred (some []))).alloc (.loop (TX φ.fn a ps aE bd w.heap.size))):=by rw[C,t,D,run_enterLoop_outer];rfl
 have A:(Act.eval ⟨a,φ.ds⟩) g=.func (.func q) first cap:=by rw[Sc p];exact M
 have n:∀o:World,∃d,(resolve (Act.eval ⟨a,φ.ds⟩) (rangeCall g (w.heap.size+1)) 0).run P o=.ok d o/\(invoke d.target d.args).run P o=.ok (.enter q ⟨first.toList++[.func (.yield (w.heap.size+1)) #[] #[]]++cap.toList⟩) o:=λo=>by have z:(Act.eval ⟨a,φ.ds⟩) (.const (.func (.yield (w.heap.size+1)) #[] #[]))=.func (.yield (w.heap.size+1)) #[] #[]:=rfl;refine⟨_,by simp only[resolve,A,Sem.run_pure,Deferred.ofValue];rfl,?_⟩;simp [invoke,Mo E,z]
 obtain⟨d,G,H⟩:=n ((w.alloc (.deferred (some []))).alloc (.loop (TX φ.fn a ps aE bd w.heap.size)))
 have c:=stepR_rangeFunc (P:=P) (b:=b) (a:=⟨a,φ.ds⟩) (k:=k) (cs:=cs) (w:=w) K G H
 obtain⟨e,m,Q,u,i,I,j⟩:=h (b.atR ⟨a,(φ.mark w.heap.size).ds⟩ (.inRangeFunc (w.heap.size+1)::k)::cs)
 cases e with
 |outgrown=>exact u.elim
 |returned v=>
  obtain⟨r,x,s,F⟩:=u;have l:=run_endLoop (P:=P) x s;obtain⟨O,L,B,z⟩:=F b cs a p D J C;refine⟨O,L,B,z.of_steps (.head c (i.trans (.head ?_ (.one (stepR_endRangeFunc l)))))⟩;rw[<-finish_atR_inRangeFunc _ v];exact step_leave_returned j
 |panicked ch=>
  refine⟨.pan ch f (φ.mark w.heap.size).ds,m,u,a,.inRangeFunc (w.heap.size+1)::k,p,.head c (i.trans (.one ?_))⟩;rw[<-Frame.raise_atR];exact step_leave_panicked j
def Atc(P:Program)(l:Nat)(R:Ending->World->Prop):Qp->World->Prop
 | .lv j _ [],w=>∃v w',(Instr.endRound l j).run P w=.ok v w'/\R (.returned v) w'
 | .pan ch _ [],w=>R (.panicked ch) w
 |_,_=>False
theorem Wt{l:Nat}{w':World}(a:φ.ro=some l)(c:(Instr.beginRound l).run P w=.ok () w')(h:WT P φ N k R f w'):WT P φ N (.beginRound::k) R f w:=GA (λ_ _ _ _ _ b=>stepR_beginRound (b.trans a) c) h
theorem Aie{l:Nat}{fn:FuncId}{tmps:Array Value}{aE bd:Code}{R:Ending->World->Prop}(hF:∃F,P.funcs[fn]?=some F)(B:Is N tmps f)(h:WT P ⟨fn,some l,[]⟩ N [.code aE,.beginRound,.code bd] (Atc P l R) f w):Rnd P l fn tmps aE bd w R:=by
 refine⟨trivial,λc k _=>?_⟩;let b:Frame:={(default:Frame) with fn:=fn,kind:=.normal,roundOf:=some l}
 have t:Frame.round l fn tmps aE bd .normal=b.atR ⟨tmps,[]⟩ [.code aE,.beginRound,.code bd]:=by simp [Frame.round,Frame.atR,b]
 obtain⟨e,x,m,r⟩:=h b (c::k) tmps B rfl rfl rfl;rw[<-t]at r;cases e with
 |pan C A u=>
  cases u with
  |cons _ _=>exact m.elim
  |nil=>
   obtain⟨a,s,_,q⟩:=r;exact⟨.panicked C,x,m,comesIn_wide.2 (q.trans (.one (step_leave_panicked ⟨rfl,rfl,hF⟩)))⟩
 |lv j A u=>
  cases u with
  |cons _ _=>exact m.elim
  |nil=>
   obtain⟨a,s,_,n,q⟩:=r;obtain⟨v,y,d,m⟩:=m;have i:step P (lone (b.atR ⟨a,[]⟩ s) (c::k) x)=.next (lone (c.finish v) k y)->∃e o,R e o/\ComesIn (Machine.fenced P Fence.wide) P (lone (Frame.round l fn tmps aE bd .normal) (c::k) w) (match e with
     | .returned v=>lone (c.finish v) k o
     | .panicked g=>lone (c.raise g) k o
     | .outgrown=>lone c k o) e:=λp=>⟨.returned v,y,m,comesIn_wide.2 (q.trans (.one p))⟩
   cases j with
   |none=>obtain rfl:s=[]:=n;exact i (stepR_round_end rfl rfl d)
   |some j=>
    cases j with
    |ret=>obtain⟨z,rfl⟩:=n;exact i (stepR_round_ret rfl rfl d)
    |exit E=>obtain⟨z,rfl,D⟩:=n;exact i (stepR_round_exit rfl rfl D d)
    |_=>exact n.elim
def Ac5(N:Nat):List Tmp->List Value->Fr->Fr
 |p::ps,v::vs,f=>Ac5 N ps vs (DG N f p v)
 |_,_,f=>f
def Clb(P:Program)(v:Value)(vs:List Value)(w:World)(R:Ending->World->Prop):Prop:=(∃g first cap,v=.func (.func g) first cap/\CO P g=true/\Calls P g ⟨first.toList++vs++cap.toList⟩ w R)∨(∃l r,v=.func (.yield l) #[] #[]/\w.heap[l]?=some (.loop r)/\vs.length=r.params.size/\Rnd P l r.fn ((r.params.zip ⟨vs⟩).foldl (λtmps(t,a)=>tmps.setIfInBounds t a) r.tmps) r.assign r.body w R)
theorem Clb.mono{v:Value}{vs:List Value}{R R':Ending->World->Prop}(h:Clb P v vs w R)(i:∀e w,R e w->R' e w):Clb P v vs w R':=by
 rcases h with ⟨g,a,f,b,c,d⟩|⟨l,r,b,c,d,j⟩
 .exact .inl ⟨g,a,f,b,c,Calls.mono d i⟩
 .exact .inr ⟨l,r,b,c,d,RoundIn.mono j i⟩
theorem XS:∀(ps:List Tmp)(vs:List Value)(f:Fr)(a:Array Value),Is N a f->Is N ((ps.zip vs).foldl (λ(b:Array Value)(p:Tmp×Value)=>b.setIfInBounds p.1 p.2) a) (Ac5 N ps vs f)
 |[],_,f,a,h|_::_,[],f,a,h=>by simpa [Ac5] using h
 |p::ps,v::vs,f,a,h=>by
  obtain⟨d,c,e⟩:=h.put (ds:=[]) (some p) v;have:d=a.setIfInBounds p v:=by simp only[Act.put]at c;injection c with c;exact c.symm
  subst this;simp only[List.zip_cons_cons,bw,Ac5];exact XS ps vs _ _ e
theorem Aw6{ps:Array Tmp}{vs:List Value}{a:Array Value}(h:Is N a f):Is N ((ps.zip ⟨vs⟩).foldl (λtmps(t,a)=>tmps.setIfInBounds t a) a) (Ac5 N ps.toList vs f):=by have:=XS ps.toList vs f a h;rw[<-bk];simpa using this
section
variable {Rp:List PanicEntry->World->Prop} {ops:Array Oper} {K:Fr->World->Prop} {os:List Oper} {dst:Option Tmp} {ty:TypeId} {pos:String} {af:Array Edge}
theorem A0c{fv:Operand}{aE:Array Operand}{at_:Array TypeId}{vs:List Value}(k:aE.toList.map (ev f)=vs)(h:Clb P (ev f fv) vs w λe w'=>match e with
   | .returned v=>WL P N ops Rp false K os (put N f dst v) w'
   | .panicked ch=>Rp ch w'
   | .outgrown=>False):WL P N ops Rp false K (⟨dst,.call ⟨.value fv,aE,at_⟩,ty,pos,af,none⟩::os) f w:=by
 rcases h with ⟨g,c,o,i,j,d⟩|⟨l,r,i,j,d,m⟩
 .exact Agb i j (by rw[k]) d
 .have p:(execOp (ev f) ⟨dst,.call ⟨.value fv,aE,at_⟩,ty,pos,af,none⟩).run P w=.ok (.round l r.fn ((r.params.zip ⟨vs⟩).foldl (λb(t,a)=>b.setIfInBounds t a) r.tmps) r.assign r.body) w:=by
   have n:(aE.map (ev f))=⟨vs⟩:=by rw[<-k];exact(Array.toArray_toList).symm.trans (by rw[bq])
   simp only[execOp,resolve,i,Sem.run_bind,Sem.run_pure,Result.andThen_ok,Deferred.ofValue,invoke,n];have:=run_yield (P:=P) (args:=⟨vs⟩) j d;rw[Array.empty_append];exact this
  simp only[WL,Region.wanted,if_true,p,UP];exact⟨trivial,m⟩
end
end
end
section
section
variable {P:Program} {φ:FK} {N:Nat} {k:List Item} {R:Qp->World->Prop} {f:Fr} {w:World}
def Qd(P:Program)(φ:FK)(N:Nat)(k:List Item)(R:Qp->World->Prop):Exit->Act->World->Prop
 | .normal,a,w=>∃f,Is N a.tmps f/\WT P {φ with ds:=a.defers} N k R f w
 | .panic ch,a,w=>a.defers=φ.ds/\∃f,Is N a.tmps f/\R (.pan ch f φ.ds) w
 |_,_,_=>False
theorem Ahy{c:Code}(h:∀a,Is N a f->c.wpIn φ.Mt 0 P (Qd P φ N k R) ⟨a,φ.ds⟩ w):WT P φ N (.code c::k) R f w:=by
 intro b r a B v z s;obtain⟨e,q,D,j,g⟩:=h a B b k r s trivial (λd o=>(by cases o));cases e with
 |normal=>
  obtain⟨u,i,C⟩:=j;obtain⟨t,d⟩:=q;obtain⟨e,n,p,y⟩:=C b r t i v z s;exact⟨e,n,p,y.of_steps (MM g)⟩
 |panic A=>
  obtain⟨o,u,i,p⟩:=j;obtain⟨t,d⟩:=q;simp only at o;subst o;obtain⟨m,x⟩:=g;exact⟨.pan A u φ.ds,D,p,t,m,i,MM x⟩
 |exit E|goto l|ret|outgrown=>exact j.elim
theorem ZM{Rp:List PanicEntry->World->Prop}{o:Oper}{a:Array Value}{K':Act->World->Prop}{next:Value->World->Prop}(c:∀ch w,Rp ch w->∃f,Is N a f/\R (.pan ch f φ.ds) w)(b:∀v w',next v w'->K' (Act.put ⟨a,φ.ds⟩ o.dst v) w')(h:UP P Rp false next ((execOp (Act.eval ⟨a,φ.ds⟩) o).run P w)):o.wpIn φ.Mt 0 P ⟨a,φ.ds⟩ w K' (Qd P φ N k R):=by
 refine⟨λf _=>trivial,?_⟩;rw[Aaf h];generalize (execOp (Act.eval ⟨a,φ.ds⟩) o).run P w=r at h;cases r with
 |ok n w'=>
  cases n with
  |value v=>exact b _ _ h
  |skip=>exact b _ _ h.2
  |enter g m=>
   refine⟨λd=>(by cases d),Acd (Calls.mono h.2 λe i=>?_)⟩;cases e with
   |returned v=>exact b _ _
   |panicked ch=>exact λh=>⟨rfl,c _ _ h⟩
   |outgrown=>exact λh=>h.elim
  |round l g j p q=>
   refine⟨λd=>(by cases d),Aaj (RoundIn.mono h.2 λe i=>?_)⟩;cases e with
   |returned v=>exact b _ _
   |panicked ch=>exact λh=>⟨rfl,c _ _ h⟩
   |outgrown=>exact λh=>h.elim
  |_=>exact False.elim h
 |halt x w'=>
  cases x with
  |panic v=>exact⟨rfl,c _ _ h.2⟩
  |_=>exact False.elim h
theorem QU{ops:Array Oper}{cl:Call}{ty:TypeId}{pos:String}{af:Array Edge}(j:φ.ro=none):∀(os:List Oper)(l:List Nat)(f:Fr)(w:World)(a:Array Value),Is N a f->l.map (ops[·]?)=(os++[(⟨none,.defer cl,ty,pos,af,none⟩:Oper)]).map some->WL P N ops (φ.at R) false (λf w=>∃d w',(resolve (ev f) cl ty).run P w=.ok d w'/\WT P {φ with ds:=d::φ.ds} N k R f w') os f w->wpOpsIn φ.Mt 0 P ops (Qd P φ N k R) l ⟨a,φ.ds⟩ w
 | [],[],_,_,_,_,b,_=>by simp at b
 | [],[i],f,w,a,e,b,h=>by
  simp only[av,cw,ar,bv,and_true]at b;obtain⟨d,w',s,g⟩:=h;simp only[wpOpsIn,b];rw[U0 e];have m:Region.wanted (⟨none,.defer cl,ty,pos,af,none⟩:Oper) (yl ops f)=true:=by simp [Region.wanted]
  simp only[m,if_true];refine⟨λ_ _=>trivial,?_⟩;have n:(Oper.semAt φ.Mt.round (Act.eval ⟨a,φ.ds⟩) ⟨none,.defer cl,ty,pos,af,none⟩).run P w=.ok (.defer d) w':=by show (Oper.semAt φ.ro _ _).run P w=_;rw[j];rw[G4 e];simp [Oper.semAt,execOp,s]
  rw[n];exact⟨f,e,g⟩
 |[],_::_::_,_,_,_,_,b,_|_::_,[],_,_,_,_,b,_=>by simp at b
 |o::os,i::l,f,w,a,e,b,h=>by
  simp only[bb,av,bv]at b;obtain⟨r,b⟩:=b;simp only[wpOpsIn,r];simp only[WL]at h;rw[U0 e];have c:∀v w',WL P N ops (φ.at R) false (λf w=>∃d w',(resolve (ev f) cl ty).run P w=.ok d w'/\WT P {φ with ds:=d::φ.ds} N k R f w') os (put N f o.dst v) w'->wpOpsIn φ.Mt 0 P ops (Qd P φ N k R) l (Act.put ⟨a,φ.ds⟩ o.dst v) w':=λv w' q=>by obtain⟨u,t,p⟩:=e.put o.dst v;rw[t];exact QU j os l _ _ _ p b q
  split at h
  .rename_i g;simp only[g,if_true];exact ZM (Rp:=φ.at R) (λx w h=>⟨f,e,h f⟩) c (by rw[G4 e];exact h)
  .rename_i g;simp only[g,if_false,a1];exact⟨λ_ _=>trivial,c _ _ h⟩
theorem ZI{id:Nat}{ops:Array Oper}{os:List Oper}{cl:Call}{ty:TypeId}{pos:String}{af:Array Edge}(c:φ.ro=none)(b:ops.toList=os++[⟨none,.defer cl,ty,pos,af,none⟩])(h:WL P N ops (φ.at R) false (λf w=>∃d w',(resolve (ev f) cl ty).run P w=.ok d w'/\WT P {φ with ds:=d::φ.ds} N k R f w') os f w):WT P φ N (.code (.region id ops false)::k) R f w:=
 Ahy λa e=>wpIn_region (QU c os _ _ _ a e (by rw[PT,b]) h)
end
end
section
section
variable {P:Program} {N:Nat} {ops:Array Oper} {R:List PanicEntry->World->Prop} {mo:Bool} {K:Fr->World->Prop} {os:List Oper} {f:Fr} {w:World}
variable {dst:Option Tmp} {ty:TypeId} {pos:String} {af:Array Edge} {I:Cc} {T A:Bd} {t kt et:TypeId} {x:Operand}
variable {b c:Nat} {es:Array MapEntry}
theorem Af8(g:P.underlying t=some (.map kt et))(hs:St I w ([(b,.map es c)]++T))(a:ev f x=.map (some b))(h:∀r w',Ext I w I w'->St I w' ([(r,.mapIter (some b) c #[] c)]++([(b,.map es c)]++T))->WL P N ops R mo K os (put N f dst (.pointer (some ⟨r,0,none⟩))) w'):WL P N ops R mo K (⟨dst,.range t x,ty,pos,af,none⟩::os) f w:=by obtain⟨e,d⟩:=hs.alloc (.mapIter (some b) c #[] c);refine Aw ?_ (h w.heap.size _ e d);simp [execOp,a,run_range_map w t kt et b es c g hs.heap]
variable {r:Nat}
theorem Aad{o o':Obj}(hs:St I w ((r,o)::T)):Ext I w I (ChangeMaps.setBlock w r o')/\St I (ChangeMaps.setBlock w r o') ((r,o')::T):=by
 have d:=(hs.own (r,o) (by simp)).1;have a:r<w.heap.size:=(ai.1 d).1;refine hs.write (b:=r) (o:=o) (o':=o') (T:=T) rfl rfl rfl ?_ ?_ λc f=>?_
 .simp [ChangeMaps.setBlock]
 .simp [ChangeMaps.setBlock,a]
 .simp [ChangeMaps.setBlock];exact Array.getElem?_setIfInBounds_ne (λe=>f e.symm)
theorem Av2{seen:Array Nat}(hs:St I w ([(r,.mapIter (some b) c seen c)]++([(b,.map es c)]++T)))(s:∀e∈es.toList,e.born<c)(i:ev f x=.pointer (some ⟨r,0,none⟩))(n:(leftOf es seen).size=0->WL P N ops R mo K os (put N f dst (.tuple #[.bool false])) w)(p:∀e∈(leftOf es seen).toList,∀w',Ext I w I w'->St I w' ([(r,.mapIter (some b) c (seen.push e.born) c)]++([(b,.map es c)]++T))->WL P N ops R mo K os (put N f dst (.tuple #[.bool true,e.key,e.val])) w'):WL P N ops R mo K (⟨dst,.next x false,ty,pos,af,none⟩::os) f w:=by
 have m:=hs.heap;have j:=hs.W8.heap;rcases run_next_at (P:=P) w ty r b c c seen es c m j s (ae _) with ⟨k,a⟩|⟨e,o,g,d,a⟩
 .refine Aw ?_ (n k);simp [execOp,i,a]
 .have h:Ext I w I g/\St I g ([(r,.mapIter (some b) c seen c)]++([(b,.map es c)]++T)):=by
   rcases d with rfl|rfl
   .exact⟨Ext.refl _ _,hs⟩
   .exact hs.drew (w.drawn+1)
  obtain⟨l,q⟩:=Aad (o':=.mapIter (some b) c (seen.push e.born) c) h.2;refine Aw ?_ (p e o _ (h.1.trans l) q);simp [execOp,i,a]
theorem Aq1{seen:Array Nat}{e:MapEntry}(hs:St I w ([(r,.mapIter (some b) c (seen.push e.born) c)]++([(b,.map es c)]++T)))(a:e∈es.toList)(d:(es.toList.map (·.born)).Nodup)(g:ev f x=.pointer (some ⟨r,0,none⟩))(h:WL P N ops R mo K os (put N f dst (.tuple #[e.key,e.val])) w):WL P N ops R mo K (⟨dst,.entry x,ty,pos,af,none⟩::os) f w:=by refine Aw ?_ h;simp [execOp,g,run_entry_at (P:=P) w r b c seen es c e hs.heap hs.W8.heap a d]
end
theorem Ana{es:Array MapEntry}:leftOf es #[]=es:=by unfold leftOf;simp
end
end Go.X
namespace Go.Y
open Go Go.RowKit Go.X
section
inductive Ty where
 |int (k:IntKind)
 |bool
 |str
 |ptr
 |mref
 |sl (e:Ty)
 |u (n:Nat)
abbrev I6:Ty:=.int .i64
def Ty.dec:(a b:Ty)->Decidable (a=b)
 | .int j,.int k=>if h:j=k then .isTrue (by rw[h]) else .isFalse (by intro e;cases e;exact h rfl)
 |.bool,.bool|.str,.str|.ptr,.ptr|.mref,.mref=>.isTrue rfl
 | .sl a,.sl b=>match Ty.dec a b with
  | .isTrue h=>.isTrue (by rw[h])
  | .isFalse h=>.isFalse (by intro e;cases e;exact h rfl)
 | .u a,.u b=>if h:a=b then .isTrue (by rw[h]) else .isFalse (by intro e;cases e;exact h rfl)
 | .int _,.mref | .bool,.mref | .str,.mref | .ptr,.mref | .sl _,.mref | .u _,.mref=>.isFalse (by intro e;cases e)
 | .mref,.int _ | .mref,.bool | .mref,.str | .mref,.ptr | .mref,.sl _ | .mref,.u _=>.isFalse (by intro e;cases e)
 | .int _,.bool | .int _,.str | .int _,.ptr | .int _,.sl _ | .int _,.u _=>.isFalse (by intro e;cases e)
 | .bool,.int _ | .bool,.str | .bool,.ptr | .bool,.sl _ | .bool,.u _=>.isFalse (by intro e;cases e)
 | .str,.int _ | .str,.bool | .str,.ptr | .str,.sl _ | .str,.u _=>.isFalse (by intro e;cases e)
 | .ptr,.int _ | .ptr,.bool | .ptr,.str | .ptr,.sl _ | .ptr,.u _=>.isFalse (by intro e;cases e)
 | .sl _,.int _ | .sl _,.bool | .sl _,.str | .sl _,.ptr | .sl _,.u _=>.isFalse (by intro e;cases e)
 | .u _,.int _ | .u _,.bool | .u _,.str | .u _,.ptr | .u _,.sl _=>.isFalse (by intro e;cases e)
instance:DecidableEq Ty:=Ty.dec
abbrev den(D:Nat->Type):Ty->Type
 | .int _=>Int
 | .bool=>Bool
 | .str=>ByteArray
 |.ptr|.mref=>Option Nat
 | .sl e=>List (den D e)
 | .u n=>D n
structure Lf(D:Nat->Type) where
 t:Ty
 x:den D t
def Ty.leaf:Ty->Bool
 | .u _=>false
 |_=>true
structure US where
 D:Nat->Type
 sig:Nat->List Ty
 flat:(n:Nat)->D n->List (Lf D)
 Ah1:(n:Nat)->List (Lf D)->Option (D n)
 RU:∀n x,(flat n x).map (·.t)=sig n
 QZ:∀n l x,Ah1 n l=some x->flat n x=l
 Aab:∀n,∀t∈sig n,t.leaf=true
 Aft:∀n,0<(sig n).length
section
variable (S:US)
def sz:Ty->Nat
 | .u n=>(S.sig n).length
 |_=>1
inductive F2{α β:Type}(R:α->β->Prop):List α->List β->Prop
 |nil:F2 R [] []
 |cons {a b aE bs}:R a b->F2 R aE bs->F2 R (a::aE) (b::bs)
theorem F2.len{α β:Type}{R:α->β->Prop}{l:List α}{m:List β}(h:F2 R l m):l.length=m.length:=by
 induction h with
 |nil=>rfl
 |cons _ _ ih=>grind
theorem F2.mono{α β:Type}{R R':α->β->Prop}{l:List α}{m:List β}(h:F2 R l m)(f:∀a b,R a b->R' a b):F2 R' l m:=by
 induction h with
 |nil=>exact .nil
 |cons h _ c=>exact .cons (f _ _ h) c
variable {α β:Type}
theorem F2.mem{R:α->β->Prop}{l:List α}{m:List β}(h:F2 R l m):∀a∈l,∃b∈m,R a b:=by
 induction h with
 |nil=>simp
 |cons h _ ih=>
  grind
theorem F2.get{R:α->β->Prop}{l:List α}{m:List β}(h:F2 R l m):∀{i:Nat}{b:β},m[i]?=some b->∃a,l[i]?=some a/\R a b:=by
 induction h with
 |nil=>simp
 |cons h _ ih=>
  grind
theorem F2.get'{R:α->β->Prop}{l:List α}{m:List β}(h:F2 R l m):∀{i:Nat}{a:α},l[i]?=some a->∃b,m[i]?=some b/\R a b:=by
 induction h with
 |nil=>simp
 |cons h _ ih=>
  grind
theorem F2.take{R:α->β->Prop}{l:List α}{m:List β}(h:F2 R l m):∀n,F2 R (l.take n) (m.take n):=by
 induction h with
 |nil=>intro n;simp;exact .nil
 |cons h _ a=>
  intro n;cases n with
  |zero=>exact .nil
  |succ n=>exact .cons h (a n)
theorem F2.drop{R:α->β->Prop}{l:List α}{m:List β}(h:F2 R l m):∀n,F2 R (l.drop n) (m.drop n):=by
 induction h with
 |nil=>intro n;simp;exact .nil
 |cons h h2 ih=>
  intro n;cases n with
  |zero=>exact .cons h h2
  |succ n=>grind
theorem F2.app{R:α->β->Prop}{l l':List α}{m m':List β}(h:F2 R l m)(a:F2 R l' m'):F2 R (l++l') (m++m'):=by
 induction h with
 |nil=>exact a
 |cons h _ b=>exact .cons h b
def UM(ru:(n:Nat)->Cc->World->Value->S.D n->Prop):(t:Ty)->Cc->World->Value->den S.D t->Prop
 | .int k,_,_,v,n=>v=.int k n/\Bn k n
 | .bool,_,_,v,b=>v=.bool b
 | .str,_,_,v,s=>v=.string s/\s.size<=NA
 | .ptr,_,_,v,p=>v=.pointer (p.map λb=>⟨b,0,none⟩)
 | .mref,_,_,v,p=>v=.map p
 | .sl e,I,w,v,xs=>∃a cap,v=.slice a xs.length cap/\xs.length<=cap/\cap<=NA/\
  (xs=[]∨∃b off,a=some ⟨b,off,none⟩/\I b/\∀j(h:j<xs.length),∃v,UM ru e I w v xs[j]/\Di w ⟨b,off+j*sz S e,none⟩ v)
 | .u n,I,w,v,x=>ru n I w v x
def TU:Nat->(n:Nat)->Cc->World->Value->S.D n->Prop
 |0=>λ_ _ _ _ _=>False
 |f+1=>λn I w v x=>∃cs:List Value,v=.agg ⟨cs⟩/\F2 (λc(l:Lf S.D)=>UM S (TU f) l.t I w c l.x) cs (S.flat n x)
theorem YD{ru ru':(n:Nat)->Cc->World->Value->S.D n->Prop}(h:∀n I w v x,ru n I w v x->ru' n I w v x):∀(t:Ty)(I:Cc)(w:World)(v:Value)(x:den S.D t),UM S ru t I w v x->UM S ru' t I w v x
 |.int _,_,_,_,_,r|.bool,_,_,_,_,r|.str,_,_,_,_,r|.ptr,_,_,_,_,r|.mref,_,_,_,_,r=>r
 | .sl e,I,w,v,y,⟨a,c,l,p,m,i⟩=>⟨a,c,l,p,m,i.imp id λ⟨b,d,q,s,k⟩=>⟨b,d,q,s,λj o=>by obtain⟨v,g,f⟩:=k j o;exact⟨v,YD h e _ _ _ _ g,f⟩⟩⟩
 | .u n,I,w,v,x,r=>h n I w v x r
theorem Xu:∀(f n:Nat)(I:Cc)(w:World)(v:Value)(x:S.D n),TU S f n I w v x->TU S (f+1) n I w v x
 |0,_,_,_,_,_,h=>h.elim
 |f+1,_,_,_,_,_,⟨b,a,d⟩=>⟨b,a,d.mono λ_ _ r=>YD S (Xu f) _ _ _ _ _ r⟩
theorem Aqn{f g:Nat}(a:f<=g)(n:Nat)(I:Cc)(w:World)(v:Value)(x:S.D n)(h:TU S f n I w v x):TU S g n I w v x:=by
 induction a with
 |refl=>exact h
 |step _ b=>grind[Xu]
def rp(t:Ty)(I:Cc)(w:World)(v:Value)(x:den S.D t):Prop:=∃f,UM S (TU S f) t I w v x
theorem YE{f g:Nat}(a:f<=g){t:Ty}{I:Cc}{w:World}{v:Value}{x:den S.D t}(h:UM S (TU S f) t I w v x):UM S (TU S g) t I w v x:=YD S (Aqn S a) _ _ _ _ _ h
variable {S}
theorem Yf{p:Nat->Nat->Prop}(a:∀j f g,f<=g->p j f->p j g):∀n,(∀j,j<n->∃f,p j f)->∃f,∀j,j<n->p j f
 |0,_=>⟨0,λj h=>by omega⟩
 |n+1,h=>by
  obtain⟨f,c⟩:=Yf a n λj e=>h j (by omega);obtain⟨g,d⟩:=h n (by omega);refine⟨max f g,λj e=>?_⟩;by_cases b:j=n
  .grind
  .exact a _ _ _ (cn _ _) (c j (by omega))
variable {I:Cc} {w:World} {v:Value}
theorem AT{k:IntKind}{n:Int}:rp S (.int k) I w v n↔v=.int k n/\Bn k n:=⟨λ⟨_,h⟩=>h,λh=>⟨0,h⟩⟩
theorem GN{b:Bool}:rp S .bool I w v b↔v=.bool b:=⟨λ⟨_,h⟩=>h,λh=>⟨0,h⟩⟩
theorem LX{s:ByteArray}:rp S .str I w v s↔v=.string s/\s.size<=NA:=⟨λ⟨_,h⟩=>h,λh=>⟨0,h⟩⟩
theorem Lb{p:Option Nat}:rp S .ptr I w v p↔v=.pointer (p.map λb=>⟨b,0,none⟩):=⟨λ⟨_,h⟩=>h,λh=>⟨0,h⟩⟩
theorem KG{p:Option Nat}:rp S .mref I w v p↔v=.map p:=⟨λ⟨_,h⟩=>h,λh=>⟨0,h⟩⟩
theorem Rq{e:Ty}{xs:List (den S.D e)}:rp S (.sl e) I w v xs↔∃a cap,v=.slice a xs.length cap/\xs.length<=cap/\cap<=NA/\(xs=[]∨∃b off,a=some ⟨b,off,none⟩/\I b/\∀j(h:j<xs.length),∃v,rp S e I w v xs[j]/\Di w ⟨b,off+j*sz S e,none⟩ v):=by
 constructor
 .rintro⟨f,a,cap,d,i,l,k⟩;refine⟨a,cap,d,i,l,k.imp id λ⟨b,off,n,o,q⟩=>⟨b,off,n,o,λj c=>?_⟩⟩;obtain⟨v,s,t⟩:=q j c;exact⟨v,⟨f,s⟩,t⟩
 .rintro⟨a,cap,d,i,l,k⟩;rcases k with k|⟨b,off,n,o,q⟩
  .exact⟨0,a,cap,d,i,l,.inl k⟩
  .obtain⟨f,r⟩:=Yf (p:=λj f=>∀c:j<xs.length,∃v,UM S (TU S f) e I w v xs[j]/\Di w ⟨b,off+j*sz S e,none⟩ v)
    (λj f g m h c=>by grind[YE]) xs.length
    (λj c=>by obtain⟨v,⟨f,d⟩,i⟩:=q j c;exact⟨f,λ_=>⟨v,d,i⟩⟩)
   exact⟨f,a,cap,d,i,l,.inr ⟨b,off,n,o,λj c=>r j c c⟩⟩
theorem Api{cs:List Value}{ls:List (Lf S.D)}(h:F2 (λc(l:Lf S.D)=>rp S l.t I w c l.x) cs ls):∃f,F2 (λc(l:Lf S.D)=>UM S (TU S f) l.t I w c l.x) cs ls:=by
 induction h with
 |nil=>exact⟨0,.nil⟩
 |cons h _ a=>
  obtain⟨f,b⟩:=a;obtain⟨g,d⟩:=h;exact⟨max f g,.cons (YE S (Nat.le_max_right _ _) d) (b.mono λc l r=>YE S (cn _ _) r)⟩
theorem GM{n:Nat}{x:S.D n}:rp S (.u n) I w v x↔∃cs:List Value,v=.agg ⟨cs⟩/\F2 (λc(l:Lf S.D)=>rp S l.t I w c l.x) cs (S.flat n x):=by
 constructor
 .rintro⟨f,a⟩;cases f with
  |zero=>exact a.elim
  |succ f=>obtain⟨cs,b,d⟩:=a;exact⟨cs,b,d.mono λc l r=>⟨f,r⟩⟩
 .rintro⟨cs,b,d⟩;obtain⟨f,a⟩:=Api d;exact⟨f+1,cs,b,a⟩
theorem Ak6(t:Ty):0<sz S t:=by cases t<;>simp only[sz]<;>first|exact Nat.one_pos|exact S.Aft _
variable {t:Ty}
theorem JF(b:t.leaf=true){x:den S.D t}(h:rp S t I w v x):v.cells=#[v]/\v.oneCell'=true:=by
 cases t with
 |int k=>rw[(AT.1 h).1];exact⟨rfl,rfl⟩
 |bool=>rw[GN.1 h];exact⟨rfl,rfl⟩
 |str=>rw[(LX.1 h).1];exact⟨rfl,rfl⟩
 |ptr=>rw[Lb.1 h];exact⟨rfl,rfl⟩
 |mref=>rw[KG.1 h];exact⟨rfl,rfl⟩
 |sl e=>obtain⟨a,c,h,_⟩:=Rq.1 h;rw[h];exact⟨rfl,rfl⟩
 |u n=>grind[Ty.leaf]
theorem Py{n:Nat}{x:S.D n}:∀l∈S.flat n x,l.t.leaf=true:=λl a=>S.Aab n _ (by rw[<-S.RU n x];grind)
theorem Aai{x:den S.D t}(h:rp S t I w v x):v.cells.size=sz S t:=by
 cases t with
 |u n=>
  obtain⟨a,rfl,b⟩:=GM.1 h;have:=b.len;show a.length=_;rw[this,sz,<-S.RU n x,List.length_map]
 |_=>exact congrArg Array.size (JF rfl h).1
theorem Wh{cs:List Value}{ls:List (Lf S.D)}(h:F2 (λc(l:Lf S.D)=>rp S l.t I w c l.x) cs ls):(∀l∈ls,l.t.leaf=true)->∀c∈cs,c.oneCell'=true:=by
 induction h with
 |nil=>simp
 |cons h _ d=>
  intro b c a;rcases cp.1 a with rfl|a
  .exact(JF (b _ c8) h).2
  grind
theorem SS{I I':Cc}{w w':World}(e:Ext I w I' w'){ru:(n:Nat)->Cc->World->Value->S.D n->Prop}(f:∀n v x,ru n I w v x->ru n I' w' v x):∀(t:Ty)(v:Value)(x:den S.D t),UM S ru t I w v x->UM S ru t I' w' v x
 |.int _,_,_,r|.bool,_,_,r|.str,_,_,r|.ptr,_,_,r|.mref,_,_,r=>r
 | .sl t,v,y,⟨a,c,k,p,l,s⟩=>⟨a,c,k,p,l,s.imp id λ⟨b,d,q,g,o⟩=>⟨b,d,q,e.sub b g,λj m=>by obtain⟨v,i,h⟩:=o j m;exact⟨v,SS e f t _ _ i,Di.mono e g h⟩⟩⟩
 | .u n,v,x,r=>f n v x r
theorem Xv{I I':Cc}{w w':World}(e:Ext I w I' w'):∀(f n:Nat)(v:Value)(x:S.D n),TU S f n I w v x->TU S f n I' w' v x
 |0,_,_,_,h=>h.elim
 |f+1,_,_,_,⟨d,a,b⟩=>⟨d,a,b.mono λ_ _ r=>SS e (Xv e f) _ _ _ r⟩
theorem EH{I':Cc}{w':World}(e:Ext I w I' w'){x:den S.D t}(h:rp S t I w v x):rp S t I' w' v x:=by obtain⟨f,a⟩:=h;exact⟨f,SS e (Xv e f) _ _ _ a⟩
def isU:Ty->Bool
 | .u _=>true
 |_=>false
@[reducible] def RT(S:US)(t:Ty):AP (den S.D t) where
 size:=sz S t
 agg:=isU t
 rep:=rp S t
 pos:=Ak6 t
 cells h:=Aai h
 form {I w v x} h:=by
  cases t with
  |u n=>obtain⟨cs,rfl,_⟩:=GM.1 h;exact⟨_,rfl⟩
  |_=>exact(JF rfl h).1
 one {I w v x} h:=by
  cases t with
  |u n=>
   obtain⟨cs,rfl,h2⟩:=GM.1 h;exact Wh h2 Py
  |_=>rw[(JF rfl h).1];intro c hc;simp at hc;subst hc;exact(JF rfl h).2
 mono e h:=EH e h
end
end
section
inductive OL(D:Nat->Type) where
 |dat (l:Lf D)
 |own (t:Ty) (xs:List (den D t))
 |map (k v:Ty) (m:List (den D k×den D v))
 |ownO (t:Ty) (o:Option (List (den D t)))
@[reducible] def FJ(S:US)(dq:(n:Nat)->DecidableEq (S.D n)):(t:Ty)->DecidableEq (den S.D t)
 | .int _=>inferInstanceAs (DecidableEq Int)
 | .bool=>inferInstanceAs (DecidableEq Bool)
 | .str=>inferInstanceAs (DecidableEq ByteArray)
 |.ptr|.mref=>inferInstanceAs (DecidableEq (Option Nat))
 | .u n=>dq n
 | .sl e=>@instDecidableEqList _ (FJ S dq e)
inductive RK where
 |dat (t:Ty)
 |own (t:Ty)
 |map (k e:Ty)
 |ownO (t:Ty)
structure Sys extends US where
 P:Program
 ty:TypeId->Option Ty
 deq:(n:Nat)->DecidableEq (D n)
 gls:Nat->Option ((T:Ty)×List (den D T))
 O:Nat->Type
 Al8:Nat->List RK
 ocl:(n:Nat)->O n->List (OL D)
 oun:(n:Nat)->List (OL D)->Option (O n)
 Al7:∀n l x,oun n l=some x->ocl n x=l
 ok:TypeId->Option Nat
 km:TypeId->Ty->Bool
 Ang:∀t k,km t k=true->@J6 P t (den D k) (RT toUS k) (FJ toUS deq k)
 eqs:TypeId->Ty->Bool
 At6:∀t k,eqs t k=true->P.eqGuardType P.depth t=false/\∀I w v u(x y:den D k),rp toUS k I w v x->rp toUS k I w u y->∀w',(Op.equal t v u).run P w'=.ok (@decide (x=y) (FJ toUS deq k x y)) w'
inductive Ob(Y:Sys) where
 |st (n:Nat) (x:Y.O n)
 |mp (k v:Ty) (m:List (den Y.D k×den Y.D v))
 |lp (r:Loop)
section
variable (Y:Sys)
@[reducible] def HI(t:Ty):DecidableEq (den Y.D t):=FJ Y.toUS Y.deq t
abbrev Nz(t:Ty)(I:Cc)(w:World)(A:Bd)(v:Value)(xs:List (den Y.D t)):Prop:=@Bx _ (RT Y.toUS t) I w A v xs
abbrev Ws(k e:Ty)(I:Cc)(w:World)(A:Bd)(v:Value)(m:List (den Y.D k×den Y.D e)):Prop:=@Cz _ _ (RT Y.toUS k) (RT Y.toUS e) I w A v m
def OR(I:Cc)(w:World):List Value->List (OL Y.D)->Bd->Prop
 | [],[],A=>A=[]
 |v::vs,.dat l::ls,A=>rp Y.toUS l.t I w v l.x/\v.oneCell'=true/\OR I w vs ls A
 |v::vs,.own t xs::ls,A=>∃A1 A2,A=A1++A2/\Nz Y t I w A1 v xs/\OR I w vs ls A2
 |v::vs,.map k e m::ls,A=>∃A1 A2,A=A1++A2/\Ws Y k e I w A1 v m/\OR I w vs ls A2
 |v::vs,.ownO _ none::ls,A=>v=.slice none 0 0/\OR I w vs ls A
 |v::vs,.ownO t (some xs)::ls,A=>∃A1 A2,A=A1++A2/\Nz Y t I w A1 v xs/\OR I w vs ls A2
 |_,_,_=>False
def obR(o:Ob Y)(I:Cc)(w:World)(A:Bd)(b:Nat):Prop:=match o with
 | .st n x=>∃arr e A',A=(b,.cells arr e (0,0))::A'/\OR Y I w arr.toList (Y.ocl n x) A'
 | .mp k e m=>Ws Y k e I w A (.map (some b)) m
 | .lp r=>A=[(b,.loop r)]
theorem OR.mono{I I':Cc}{w w':World}(h:Ext I w I' w'):∀{vs:List Value}{ls:List (OL Y.D)}{A:Bd},OR Y I w vs ls A->OR Y I' w' vs ls A
 | [],[],_,r=>r
 |_::_,.dat _::_,_,⟨a,b,f⟩=>⟨EH h a,b,OR.mono h f⟩
 |_::_,.own _ _::_,_,⟨c,d,e,a,b⟩=>⟨c,d,e,@Bx.mono _ (RT _ _) _ _ _ _ _ _ _ h a,OR.mono h b⟩
 |_::_,.map _ _ _::_,_,⟨c,d,e,a,b⟩=>⟨c,d,e,@Cz.mono _ _ (RT _ _) (RT _ _) _ _ _ _ _ _ _ a h,OR.mono h b⟩
 |_::_,.ownO _ none::_,_,⟨a,b⟩=>⟨a,OR.mono h b⟩
 |_::_,.ownO _ (some _)::_,_,⟨c,d,e,a,b⟩=>⟨c,d,e,@Bx.mono _ (RT _ _) _ _ _ _ _ _ _ h a,OR.mono h b⟩
 |[],.ownO _ _::_,_,r|[],.dat _::_,_,r|[],.own _ _::_,_,r|[],.map _ _ _::_,_,r|_::_,[],_,r=>r.elim
def P8:HK (Ob Y) where
 ob:=obR Y
 mono {o I w I' w' A b} h r:=by
  cases o with
  |st n x=>obtain⟨arr,e,A',h1,h2⟩:=r;exact⟨arr,e,A',h1,OR.mono Y h h2⟩
  |mp k e m=>exact @Cz.mono _ _ (RT _ _) (RT _ _) _ _ _ _ _ _ _ r h
  |lp r'=>exact r
 self {o I w A b} r:=by
  cases o with
  |st n x=>obtain⟨arr,e,A',h1,h2⟩:=r;exact⟨_,_,h1⟩
  |mp k e m=>
   obtain⟨b',es,c,h1,h2,_⟩:=@Cz.ex _ _ (RT _ _) (RT _ _) _ _ _ _ _ r;cases h2;exact⟨_,_,h1⟩
  |lp r'=>exact⟨_,[],r⟩
 gl I w:=∀g q,Y.gls g=some q->rp Y.toUS (.sl q.1) I w (.slice (some ⟨g,0,none⟩) q.2.length q.2.length) q.2
 glm e h g q hq:=EH e (h g q hq)
abbrev HH:=Hp (Ob Y)
def I5:List Ty->Type
 | []=>Unit
 |t::ts=>den Y.D t×I5 ts
def We(I:Cc)(w:World):(ts:List Ty)->I5 Y ts->List Value->Prop
 | [],_,vs=>vs=[]
 |t::ts,x,vs=>∃v vs',vs=v::vs'/\rp Y.toUS t I w v x.1/\We I w ts x.2 vs'
def KI:List Value->Value
 | [v]=>v
 |vs=>.tuple ⟨vs⟩
abbrev Tz:=TypeId->Lf Y.D->HH Y->Prop
abbrev FT(aE rs:List Ty):=I5 Y aE->HH Y->(I5 Y rs->HH Y->Prop)->Tz Y->Prop
def A5u(g:FuncId)(vs:List Value)(I:Cc)(w:World)(T:Bd)(Q:Cc->World->Value->Bd->HH Y->Prop)(X:Tz Y):Prop:=WY Y.P g vs I w (λr I' w'=>∃AH' A' H',St I' w' (AH'++(A'++T))/\Hu (P8 Y) I' w' H' AH'/\Q I' w' r A' H') (λv I' w'=>∃AH' H' t l u,St I' w' (AH'++T)/\Hu (P8 Y) I' w' H' AH'/\v=.iface t u/\rp Y.toUS l.t I' w' u l.x/\X t l H')
def Ahs(I:Cc)(w:World)(Q X:Value->Cc->World->Prop):Ending->World->Prop:=λe w'=>(∃v I',e=.returned v/\Ext I w I' w'/\Q v I' w')∨(∃v I',e=.panicked [{v,recovered:=false}]/\Ext I w I' w'/\X v I' w')
def Ahr(I:Cc)(w:World)(T:Bd)(Q:Cc->World->Value->Bd->HH Y->Prop)(X:Tz Y):Ending->World->Prop:=Ahs I w (λr I' w'=>∃AH' A' H',St I' w' (AH'++(A'++T))/\Hu (P8 Y) I' w' H' AH'/\Q I' w' r A' H') (λv I' w'=>∃AH' H' t l u,St I' w' (AH'++T)/\Hu (P8 Y) I' w' H' AH'/\v=.iface t u/\rp Y.toUS l.t I' w' u l.x/\X t l H')
def FvR(aE rs:List Ty)(F:FT Y aE rs)(I0:Cc)(w0:World)(v:Value):Prop:=(∃g first cap,v=.func g first cap)/\∀a H Q X,F a H Q X->∀I w,Ext I0 w0 I w->∀(T AH:Bd)(vs:List Value),We Y I w aE a vs->Hu (P8 Y) I w H AH->St I w (AH++T)->Clb Y.P v vs w (Ahr Y I w T (λI' w' r A' H'=>A'=[]/\∃b us,r=KI us/\We Y I' w' rs b us/\Q b H') X)
theorem FvR.mono{aE rs:List Ty}{F:FT Y aE rs}{I I':Cc}{w w':World}{v:Value}(e:Ext I w I' w')(h:FvR Y aE rs F I w v):FvR Y aE rs F I' w' v:=⟨h.1,λa H Q X f d b c=>h.2 a H Q X f d b (e.trans c)⟩
inductive AK where
 |dat (t:Ty)
 |own (t:Ty)
 |map (k e:Ty)
 |mob
 |del (t:Ty)
 |fn (aE rs:List Ty)
 |fbx (aE rs:List Ty)
structure Bi where
 args:List AK
 res:List RK
def Jg:List AK->Type
 | []=>Unit
 | .dat t::l=>den Y.D t×Jg l
 | .own t::l=>List (den Y.D t)×Jg l
 | .map k e::l=>List (den Y.D k×den Y.D e)×Jg l
 | .mob::l=>Nat×Jg l
 | .del t::l=>den Y.D t×Jg l
 |.fn aE rs::l|.fbx aE rs::l=>FT Y aE rs×Jg l
def A1o(t:Ty)(I:Cc)(w:World)(x:den Y.D t)(v:Value):Prop:=∃b off u,rp Y.toUS t I w u x/\Di w ⟨b,off,none⟩ u/\I b/\v=.pointer (some ⟨b,off,none⟩)
def FbR(aE rs:List Ty)(F:FT Y aE rs)(I:Cc)(w:World)(v:Value):Prop:=∃b off u,FvR Y aE rs F I w u/\Di w ⟨b,off,none⟩ u/\I b/\v=.pointer (some ⟨b,off,none⟩)
theorem FbR.mono{aE rs:List Ty}{F:FT Y aE rs}{I I':Cc}{w w':World}{v:Value}(e:Ext I w I' w')(h:FbR Y aE rs F I w v):FbR Y aE rs F I' w' v:=by obtain⟨b,a,u,d,g,c,f⟩:=h;exact⟨b,a,u,FvR.mono Y e d,Di.mono e c g,e.sub b c,f⟩
def ArR(I:Cc)(w:World):(l:List AK)->Jg Y l->List Value->Bd->Prop
 | [],_,vs,A=>vs=[]/\A=[]
 | .dat t::l,x,vs,A=>∃v vs',vs=v::vs'/\rp Y.toUS t I w v x.1/\ArR I w l x.2 vs' A
 | .own t::l,x,vs,A=>∃v vs' A1 A2,vs=v::vs'/\A=A1++A2/\Nz Y t I w A1 v x.1/\ArR I w l x.2 vs' A2
 | .map k e::l,x,vs,A=>∃v vs' A1 A2,vs=v::vs'/\A=A1++A2/\Ws Y k e I w A1 v x.1/\ArR I w l x.2 vs' A2
 | .mob::l,x,vs,A=>∃v vs',vs=v::vs'/\v=.map (some x.1)/\ArR I w l x.2 vs' A
 | .del t::l,x,vs,A=>∃v vs',vs=v::vs'/\A1o Y t I w x.1 v/\ArR I w l x.2 vs' A
 | .fn aE rs::l,x,vs,A=>∃v vs',vs=v::vs'/\FvR Y aE rs x.1 I w v/\ArR I w l x.2 vs' A
 | .fbx aE rs::l,x,vs,A=>∃v vs',vs=v::vs'/\FbR Y aE rs x.1 I w v/\ArR I w l x.2 vs' A
def L0:List RK->Type
 | []=>Unit
 | .dat t::l=>den Y.D t×L0 l
 | .own t::l=>List (den Y.D t)×L0 l
 | .map k e::l=>List (den Y.D k×den Y.D e)×L0 l
 | .ownO _::_=>Empty
def ReR(I:Cc)(w:World):(l:List RK)->L0 Y l->List Value->Bd->Prop
 | [],_,vs,A=>vs=[]/\A=[]
 | .dat t::l,x,vs,A=>∃v vs',vs=v::vs'/\rp Y.toUS t I w v x.1/\ReR I w l x.2 vs' A
 | .own t::l,x,vs,A=>∃v vs' A1 A2,vs=v::vs'/\A=A1++A2/\Nz Y t I w A1 v x.1/\ReR I w l x.2 vs' A2
 | .map k e::l,x,vs,A=>∃v vs' A1 A2,vs=v::vs'/\A=A1++A2/\Ws Y k e I w A1 v x.1/\ReR I w l x.2 vs' A2
 | .ownO _::_,_,_,_=>False
def No:List AK->Type
 | []=>Unit
 | .own t::l=>List (den Y.D t)×No l
 | .map k e::l=>List (den Y.D k×den Y.D e)×No l
 | .dat _::l | .mob::l | .fn _ _::l | .del _::l | .fbx _ _::l=>No l
def IoR(I:Cc)(w:World):(l:List AK)->No Y l->List Value->Bd->Prop
 | [],_,_,A=>A=[]
 | .own t::l,x,vs,A=>∃v vs' A1 A2,vs=v::vs'/\A=A1++A2/\Nz Y t I w A1 v x.1/\IoR I w l x.2 vs' A2
 | .map k e::l,x,vs,A=>∃v vs' A1 A2,vs=v::vs'/\A=A1++A2/\Ws Y k e I w A1 v x.1/\IoR I w l x.2 vs' A2
 |.dat _::l,x,vs,A|.mob::l,x,vs,A|.del _::l,x,vs,A|.fn _ _::l,x,vs,A|.fbx _ _::l,x,vs,A=>IoR I w l x vs.tail A
def Wp(g:FuncId)(σ:Bi)(a:Jg Y σ.args)(H:HH Y)(Q:L0 Y σ.res->No Y σ.args->HH Y->Prop)(X:Tz Y):Prop:=∀(I:Cc)(w:World)(T A AH:Bd)(vs:List Value),ArR Y I w σ.args a vs A->Hu (P8 Y) I w H AH->St I w (AH++(A++T))->A5u Y g vs I w T (λI' w' r A' H'=>∃b io us A1 A2,A'=A1++A2/\r=KI us/\ReR Y I' w' σ.res b us A1/\IoR Y I' w' σ.args io vs A2/\Q b io H') X
structure B4 where
 I:Cc
 w:World
 n:Nat
 μ:Nat->Value
 φ:Fr
structure Le(g g':B4):Prop where
 ext:Ext g.I g.w g'.I g'.w
 n:g.n<=g'.n
 μ:∀i,i<g.n->g'.μ i=g.μ i
 φ:g'.φ=g.φ
structure Lx(g g':B4):Prop where
 ext:Ext g.I g.w g'.I g'.w
 n:g.n<=g'.n
 μ:∀i,i<g.n->g'.μ i=g.μ i
variable {a b:B4}
theorem Lx.trans{c:B4}(h:Lx a b)(k:Lx b c):Lx a c:=⟨h.ext.trans k.ext,b6 h.n k.n,λi d=>(k.μ i (a9 d h.n)).trans (h.μ i d)⟩
theorem Le.lx(h:Le a b):Lx a b:=⟨h.ext,h.n,h.μ⟩
theorem Lx.refl(g:B4):Lx g g:=⟨Ext.refl _ _,ae _,λ_ _=>rfl⟩
theorem Le.refl(g:B4):Le g g:=⟨Ext.refl _ _,ae _,λ_ _=>rfl,rfl⟩
theorem Le.trans{c:B4}(h:Le a b)(k:Le b c):Le a c:=⟨h.ext.trans k.ext,b6 h.n k.n,λi d=>(k.μ i (a9 d h.n)).trans (h.μ i d),k.φ.trans h.φ⟩
inductive AV where
 |dat (t:Ty) (x:den Y.D t)
 |nat (j:Nat)
 |prp (p:Prop) (d:Decidable p)
 |own (i:Nat)
 |adr (i o:Nat)
 |el (i:Nat) (t:Ty) (j o:Nat)
 |del (t:Ty) (x:den Y.D t) (o:Nat)
 |ptr (w:Nat) (p:Option Nat)
 |hp (w b o:Nat)
 |mob (b:Nat)
 |sub (i:Nat) (T:Ty) (lo:Nat)
 |val (v:Value)
 |ifc (t:TypeId) (T:Ty) (x:den Y.D T)
 |fn (aE rs:List Ty) (F:FT Y aE rs)
 |fbx (aE rs:List Ty) (F:FT Y aE rs)
inductive C4 where
 |blk (cs:List (AV Y))
 |sl (t:Ty) (xs:List (den Y.D t))
 |mp (k e:Ty) (m:List (den Y.D k×den Y.D e))
 |tp (l:List (AV Y))
 |ag (cs:List (AV Y))
 |clo (g:FuncId) (fs cs:List (AV Y))
structure Wr where
 i:Nat
 b:Nat
 n:Nat
 x:Option (Y.O n)
structure Hs where
 w:Nat
 b:Nat
 n:Option Nat
structure Cf where
 fr:List (Nat×AV Y)
 sg:List (Nat×C4 Y)
 nx:Nat
 H:HH Y
 op:Option (Wr Y)
 hs:List Hs
 pt:List Nat
variable {Y}
def AR(g:B4):AV Y->Value->Prop
 | .dat t x,v=>rp Y.toUS t g.I g.w v x
 | .nat j,v=>v=.int .i64 j/\j<=9223372036854775807
 | .prp p d,v=>v=.bool (@decide p d)
 | .own i,v=>i<g.n/\v=g.μ i
 | .adr i o,v=>i<g.n/\∃b,g.μ i=.pointer (some ⟨b,0,none⟩)/\v=.pointer (some ⟨b,o,none⟩)
 | .el i t j o,v=>i<g.n/\∃b off len cap,g.μ i=.slice (some ⟨b,off,none⟩) len cap/\v=.pointer (some ⟨b,off+j*sz Y.toUS t+o,none⟩)
 | .del t x o,v=>∃b off u,rp Y.toUS t g.I g.w u x/\Di g.w ⟨b,off,none⟩ u/\g.I b/\v=.pointer (some ⟨b,off+o,none⟩)
 | .ptr i p,v=>i<g.n/\g.μ i=v/\v=.pointer (p.map λb=>⟨b,0,none⟩)
 | .hp i b o,v=>i<g.n/\g.μ i=.pointer (some ⟨b,0,none⟩)/\v=.pointer (some ⟨b,o,none⟩)
 | .mob b,v=>v=.map (some b)
 | .sub i T lo,v=>i<g.n/\v=Wy (g.μ i) lo (sz Y.toUS T)/\∃a len cap,g.μ i=.slice a len cap/\lo<=len
 | .val u,v=>v=u
 | .ifc t T x,v=>∃u,v=.iface t u/\rp Y.toUS T g.I g.w u x
 | .fn aE rs F,v=>FvR Y aE rs F g.I g.w v
 | .fbx aE rs F,v=>FbR Y aE rs F g.I g.w v
theorem AR.mono{g g':B4}(h:Le g g'):∀{a:AV Y}{v:Value},AR g a v->AR g' a v
 | .dat _ _,_,r=>EH h.ext r
 |.nat _,_,r|.prp _ _,_,r=>r
 |.own i,_,⟨c,d⟩|.adr i _,_,⟨c,d⟩|.el i _ _ _,_,⟨c,d⟩=>⟨a9 c h.n,by rw[h.μ i c];exact d⟩
 | .del _ _ _,_,⟨b,f,u,c,d,e,j⟩=>⟨b,f,u,EH h.ext c,Di.mono h.ext e d,h.ext.sub b e,j⟩
 |.ptr i _,_,⟨c,d,e⟩|.hp i _ _,_,⟨c,d,e⟩=>⟨a9 c h.n,by rw[h.μ i c];exact d,e⟩
 | .mob _,_,r=>r
 | .sub i _ _,_,⟨c,d⟩=>⟨a9 c h.n,by rw[h.μ i c];exact d⟩
 | .val _,_,r=>r
 | .ifc _ _ _,_,⟨u,c,d⟩=>⟨u,c,EH h.ext d⟩
 | .fn _ _ _,_,r=>FvR.mono Y h.ext r
 | .fbx _ _ _,_,r=>FbR.mono Y h.ext r
def SR(g:B4)(i:Nat):C4 Y->Bd->Prop
 | .blk cs,A=>∃b arr e,A=[(b,.cells arr e (0,0))]/\g.μ i=.pointer (some ⟨b,0,none⟩)/\F2 (λa v=>AR g a v/\v.oneCell'=true) cs arr.toList
 | .sl t xs,A=>Nz Y t g.I g.w A (g.μ i) xs
 | .mp k e m,A=>Ws Y k e g.I g.w A (g.μ i) m
 | .tp l,A=>A=[]/\∃vs:List Value,g.μ i=.tuple ⟨vs⟩/\F2 (AR g) l vs
 | .ag cs,A=>A=[]/\∃vs:List Value,g.μ i=.agg ⟨vs⟩/\F2 (λa v=>AR g a v/\v.oneCell'=true) cs vs
 | .clo f l m,A=>A=[]/\∃vs us:List Value,g.μ i=.func (.func f) ⟨vs⟩ ⟨us⟩/\F2 (AR g) l vs/\F2 (AR g) m us
theorem SR.mono{g g':B4}(h:Le g g'){i:Nat}(hi:i<g.n):∀{s:C4 Y}{A:Bd},SR g i s A->SR g' i s A
 | .blk _,_,⟨b,j,e,a,d,c⟩=>⟨b,j,e,a,by rw[h.μ i hi];exact d,c.mono λ_ _ r=>⟨r.1.mono h,r.2⟩⟩
 | .sl _ _,_,r=>by show Nz _ _ _ _ _ _ _;rw[h.μ i hi];exact @Bx.mono _ (RT _ _) _ _ _ _ _ _ _ h.ext r
 | .mp _ _ _,_,r=>by show Ws _ _ _ _ _ _ _ _;rw[h.μ i hi];exact @Cz.mono _ _ (RT _ _) (RT _ _) _ _ _ _ _ _ _ r h.ext
 | .tp _,_,⟨a,f,d,c⟩=>⟨a,f,by rw[h.μ i hi];exact d,c.mono λ_ _ r=>r.mono h⟩
 | .ag _,_,⟨a,f,d,c⟩=>⟨a,f,by rw[h.μ i hi];exact d,c.mono λ_ _ r=>⟨r.1.mono h,r.2⟩⟩
 | .clo _ _ _,_,⟨a,f,k,d,c,l⟩=>⟨a,f,k,by rw[h.μ i hi];exact d,c.mono λ_ _ r=>r.mono h,l.mono λ_ _ r=>r.mono h⟩
def Fg(g:B4):List (Nat×C4 Y)->Bd->Prop
 | [],A=>A=[]
 |p::l,A=>∃A1 A2,A=A1++A2/\p.1<g.n/\SR g p.1 p.2 A1/\Fg g l A2
theorem Fg.mono{g g':B4}(h:Le g g'):∀{l:List (Nat×C4 Y)}{A:Bd},Fg g l A->Fg g' l A
 | [],_,r=>r
 |_::_,_,⟨c,d,e,a,b,f⟩=>⟨c,d,e,a9 a h.n,b.mono h a,Fg.mono h f⟩
def Ie:List (Nat×C4 Y)->Nat->Option (C4 Y)
 | [],_=>none
 |p::l,i=>if p.1=i then some p.2 else Ie l i
def FP:List (Nat×C4 Y)->Nat->List (Nat×C4 Y)
 | [],_=>[]
 |p::l,i=>if p.1=i then l else p::FP l i
def HF:List (Nat×AV Y)->Nat->Option (AV Y)
 | [],_=>none
 |p::l,i=>if p.1=i then some p.2 else HF l i
theorem Fg.take{g:B4}{i:Nat}{s:C4 Y}:∀{l:List (Nat×C4 Y)}{A:Bd},Fg g l A->Ie l i=some s->∃A1 A2,A.Perm (A1++A2)/\i<g.n/\SR g i s A1/\Fg g (FP l i) A2
 | [],_,_,h=>by grind[Ie]
 |p::l,A,⟨A1,A2,f,d,c,e⟩,h=>by
  unfold Ie at h;by_cases a:p.1=i
  .rw[UV a]at h;cases h;subst a;exact⟨A1,A2,f▸c1 _,d,c,by rw[FP,UV rfl];exact e⟩
  .rw[GT a]at h;obtain⟨k,b,m,o,n,j⟩:=Fg.take e h;refine⟨k,A1++b,?_,o,n,by rw[FP,GT a];exact⟨A1,b,rfl,d,c,j⟩⟩;subst f;refine(m.append_left A1).trans ?_;rw[<-a0,<-a0];exact aw.append_right _
def HR(g:B4)(H:HH Y)(_:List (Nat×C4 Y))(AH:Bd):Option (Wr Y)->Prop
 |none=>Hu (P8 Y) g.I g.w H AH
 |some o=>HpX (P8 Y) g.I g.w H o.b AH/\(∀x,o.x=some x->H o.b=some (.st o.n x))/\o.i<g.n/\g.μ o.i=.pointer (some ⟨o.b,0,none⟩)
theorem HR.mono{g g':B4}(h:Le g g'){H:HH Y}{sg sg':List (Nat×C4 Y)}{AH:Bd}:∀{o:Option (Wr Y)},HR g H sg AH o->HR g' H sg' AH o
 |none,r=>Hu.mono r h.ext
 |some _,⟨d,b,a,c⟩=>⟨d.mono h.ext,b,a9 a h.n,by rw[h.μ _ a];exact c⟩
def HsR(g:B4)(l:List Hs):Prop:=∀h∈l,h.w<g.n/\g.μ h.w=.pointer (some ⟨h.b,0,none⟩)
theorem HsR.mono{g g':B4}(h:Le g g'){l:List Hs}(r:HsR g l):HsR g' l:=λx a=>⟨a9 (r x a).1 h.n,by rw[h.μ _ (r x a).1];exact(r x a).2⟩
def lkH:List Hs->Nat->Option Hs
 | [],_=>none
 |h::l,w=>if h.w=w then some h else lkH l w
theorem Zi{w:Nat}{h:Hs}:∀{l:List Hs},lkH l w=some h->h∈l/\h.w=w
 | [],e=>by simp [lkH]at e
 |x::l,e=>by
  unfold lkH at e;by_cases a:x.w=w
  .rw[UV a]at e;cases e;exact⟨c8,a⟩
  .rw[GT a]at e;exact⟨List.mem_cons_of_mem _ (Zi e).1,(Zi e).2⟩
def LZ(i:Nat):List Nat->Bool
 | []=>false
 |j::l=>Nat.beq i j ||LZ i l
theorem Le.pt{g g':B4}(h:Le g g'){l:List Nat}{f:Fr}(p:∀t,LZ t l=true->f t=g.φ t):∀t,LZ t l=true->f t=g'.φ t:=λt a=>by rw[h.φ];exact p t a
end
end
section
section
variable {Y:Sys}
structure RG(g0:B4)(T:Bd)(c:Cf Y)(f:Fr)(g:B4)(AH A:Bd):Prop where
 n:g.n=c.nx
 le:Ext g0.I g0.w g.I g.w
 st:St g.I g.w (AH++(A++T))
 hr:HR g c.H c.sg AH c.op
 sg:Fg g c.sg A
 hs:HsR g c.hs
 pt:∀t,LZ t c.pt=true->f t=g.φ t
 fr:∀i a,HF c.fr i=some a->AR g a (f i)
def Cf.set(c:Cf Y)(d:Nat)(a:AV Y):Cf Y:={c with fr:=(d,a)::c.fr}
variable {g0 g:B4} {T AH A:Bd} {c:Cf Y} {f:Fr} {a:AV Y} {v:Value}
theorem RG.set{N d:Nat}(h:RG g0 T c f g AH A)(k:(cx d N&&!LZ d c.pt)=true)(q:AR g a v):RG g0 T (c.set d a) (DG N f d v) g AH A where
 n:=h.n
 le:=h.le
 st:=h.st
 hr:=h.hr
 sg:=h.sg
 hs:=h.hs
 pt t p:=by
  simp only[a3,az]at k;have:t≠d:=λe=>by subst e;have l:LZ t c.pt=true:=p;grind
  rw[show DG N f d v t=f t from GT this];exact h.pt t p
 fr i b j:=by
  simp only[a3,co]at k;have o:d<N:=k.1;unfold Cf.set HF at j;by_cases m:d=i
  .grind[DG]
  .rw[GT m]at j;have:DG N f d v i=f i:=GT (Ne.symm m);rw[this];exact h.fr i b j
theorem RG.cons(h:RG g0 T c f g AH A){d:Nat}(k:AR g a (f d)):RG g0 T (c.set d a) f g AH A where
 n:=h.n
 le:=h.le
 st:=h.st
 hr:=h.hr
 sg:=h.sg
 hs:=h.hs
 pt:=h.pt
 fr i b e:=by
  unfold Cf.set HF at e;by_cases j:d=i
  .grind
  .rw[GT j]at e;exact h.fr i b e
def B4.new(g:B4)(w:World)(v:Value):B4:={g with w:=w,n:=g.n+1,μ:=λj=>if j=g.n then v else g.μ j}
variable {w:World}
theorem Le.new(h:Ext g.I g.w g.I w):Le g (g.new w v):=⟨h,Nat.le_succ _,λ_ a=>GT (Nat.ne_of_lt a),rfl⟩
theorem B4.BC(g:B4)(w:World)(v:Value):(g.new w v).μ g.n=v:=UV rfl
theorem F6{B C:Bd}(h:A.Perm (B++C))(a:Bd):(a++(A++T)).Perm (B++(a++(C++T))):=by refine((h.append_right T).append_left a).trans ?_;rw[a0,<-a0 a,<-a0 B];exact aw.append_right _
theorem RG.new(h:RG g0 T c f g AH A){w':World}{s:C4 Y}{A1:Bd}(e:Ext g.I g.w g.I w')(hs:SR (g.new w' v) g.n s A1)(d:St g.I w' (A1++(AH++(A++T)))):RG g0 T {c with sg:=(c.nx,s)::c.sg,nx:=c.nx+1} f (g.new w' v) AH (A1++A):=by have b:=Le.new (v:=v) e;refine⟨by show g.n+1=c.nx+1;rw[h.n],h.le.trans b.ext,d.perm (F6 (c1 _) AH).symm,h.hr.mono b,⟨A1,A,rfl,by show c.nx<g.n+1;rw[h.n];omega,by rw[<-h.n];exact hs,h.sg.mono b⟩,h.hs.mono b,b.pt h.pt,λj a i=>(h.fr j a i).mono b⟩
def En(c:Cf Y):Operand->Option (AV Y)
 | .tmp t=>HF c.fr t
 | .const v=>some (.val v)
 | .global b=>some (.val (.pointer (some ⟨b,0,none⟩)))
 | .func q=>some (.val (.func (.func q) #[] #[]))
theorem RG.ev(h:RG g0 T c f g AH A){x:Operand}(d:En c x=some a):AR g a (ev f x):=by
 cases x with
 |tmp t=>exact h.fr t a d
 |const v|global b|func q=>cases d;rfl
def kno(c:Cf Y)(z:Operand)(b:Bool):Cf Y:=match z with
 | .tmp t=>c.set t (.val (.bool b))
 |_=>c
theorem Zm(h:RG g0 T c f g AH A){z:Operand}{b:Bool}(d:ev f z=.bool b):RG g0 T (kno c z b) f g AH A:=by
 unfold kno;split
 .exact h.cons (a:=.val (.bool b)) d
 omega
def asInt:AV Y->Option (IntKind×Int)
 | .dat (.int k) n=>some (k,n)
 | .nat j=>some (.i64,(j:Int))
 | .val (.int k n)=>some (k,n)
 |_=>none
theorem F9{p:IntKind×Int}(h:asInt a=some p)(b:AR g a v):v=.int p.1 p.2:=by
 unfold asInt at h;split at h
 .cases h;exact(AT.1 b).1
 .cases h;exact b.1
 .cases h;exact b
 grind
def Axb:AV Y->Prop
 | .dat (.int k) n=>Bn k n
 | .nat j=>j<=9223372036854775807
 |_=>True
theorem Arp(b:AR g a v):Axb a:=by
 unfold Axb;split
 .exact(AT.1 b).2
 .exact b.2
 simp
inductive BV where
 |kn (b:Bool)
 |pr (p:Prop) (d:Decidable p)
def BV.val:BV->Bool
 | .kn b=>b
 | .pr p d=>@decide p d
def asB:AV Y->Option BV
 | .dat .bool b=>some (.pr (b=true) inferInstance)
 | .prp p d=>some (.pr p d)
 | .val (.bool b)=>some (.kn b)
 |_=>none
theorem Nl{p:BV}(h:asB a=some p)(c:AR g a v):v=.bool p.val:=by
 unfold asB at h;split at h
 .cases h;rename_i b;have:=GN.1 c;rw[this];cases b<;>rfl
 .cases h;exact c
 .cases h;exact c
 grind
def Arn:Option (AV Y)->Bool
 |some (.val (.bool _))=>false
 |some (.val _)=>true
 |_=>false
theorem Agm{a:Option (AV Y)}(h:Arn a=true)(c:∀b,a=some b->AR g b v):∀b,v≠.bool b:=by
 intro b e;unfold Arn at h;split at h
 .cases h
 .rename_i u d;have:v=u:=c _ rfl;grind
 grind
def Z3:(t:Ty)->Value->Option (den Y.D t)
 | .int k,.int j n=>if j=k/\k.min<=n/\n<=k.max then some n else none
 | .bool,.bool b=>some b
 | .str,.string s=>if s.size<=9223372036854775807 then some s else none
 |.ptr,.pointer none|.mref,.map none=>some none
 | .sl _,.slice none 0 0=>some []
 |_,_=>none
variable {I:Cc}
theorem XY:∀{t:Ty}{v:Value}{x:den Y.D t},Z3 t v=some x->rp Y.toUS t I w v x:=by
 intro t v x h;unfold Z3 at h;split at h
 .split at h
  .rename_i a;cases h;exact AT.2 ⟨by rw[a.1],a.2⟩
  grind
 .cases h;exact GN.2 rfl
 .split at h
  .rename_i a;cases h;exact LX.2 ⟨rfl,a⟩
  grind
 .cases h;exact Lb.2 rfl
 .cases h;exact KG.2 rfl
 .cases h;exact Rq.2 ⟨none,0,rfl,ae _,cg _,.inl rfl⟩
 grind
def KO:List Ty->List Value->Option (List (Lf Y.D))
 | [],[]=>some []
 |t::ts,v::vs=>match Z3 t v,KO ts vs with
  |some x,some l=>some (⟨t,x⟩::l)
  |_,_=>none
 |_,_=>none
theorem Ls{I:Cc}{w:World}:∀{ts:List Ty}{vs:List Value}{l:List (Lf Y.D)},KO ts vs=some l->F2 (λc(l:Lf Y.D)=>rp Y.toUS l.t I w c l.x) vs l
 | [],[],l,h=>by cases h;exact .nil
 |t::ts,v::vs,l,h=>by
  unfold KO at h;split at h
  .rename_i x d a b;cases h;exact .cons (XY a) (Ls b)
  grind
 |[],_::_,_,h|_::_,[],_,h=>by grind[KO]
def Tq:(t:Ty)->Value->Option (den Y.D t)
 | .u n,.agg cs=>(KO (Y.sig n) cs.toList).bind (Y.Ah1 n)
 |t,v=>Z3 t v
variable {t:Ty}
theorem P3{x:den Y.D t}(h:Tq t v=some x):rp Y.toUS t I w v x:=by
 unfold Tq at h;split at h
 .rename_i n b;cases a:KO (Y:=Y) (Y.sig n) b.toList with
  |none=>grind
  |some l=>
   rw[a]at h;have c:=Y.QZ n l x h;exact GM.2 ⟨b.toList,rfl,by rw[c];exact Ls a⟩
 grind[XY]
def Ug(t:Ty):AV Y->Option (den Y.D t)
 | .dat t' x=>match Ty.dec t' t with
  | .isTrue h=>some (h▸x)
  | .isFalse _=>none
 | .nat j=>match t with
  | .int .i64=>some (j:Int)
  |_=>none
 | .prp p d=>match t with
  | .bool=>some (@decide p d)
  |_=>none
 | .ptr _ p=>match t with
  | .ptr=>some p
  |_=>none
 | .hp _ b o=>match t,o with
  | .ptr,0=>some (some b)
  |_,_=>none
 | .val v=>Tq t v
 |_=>none
theorem Dh{x:den Y.D t}(h:Ug t a=some x)(b:AR g a v):rp Y.toUS t g.I g.w v x:=by
 unfold Ug at h;split at h
 .split at h
  .rename_i e _;subst e;cases h;exact b
  grind
 .split at h
  .cases h;refine AT.2 ⟨b.1,?_⟩;have d:IntKind.i64.min=-9223372036854775808:=by decide
   have c:IntKind.i64.max=9223372036854775807:=by decide
   have:=b.2;grind[Bn]
  grind
 .split at h
  .cases h;exact GN.2 b
  grind
 .split at h
  .cases h;exact Lb.2 b.2.2
  grind
 .split at h
  .cases h;exact Lb.2 b.2.2
  grind
 .obtain rfl:v=_:=b;exact P3 h
 grind
def Abw:(t:Ty)->den Y.D t->List (Lf Y.D)
 | .u n,x=>Y.flat n x
 | .int k,x=>[⟨.int k,x⟩]
 | .bool,x=>[⟨.bool,x⟩]
 | .str,x=>[⟨.str,x⟩]
 | .ptr,x=>[⟨.ptr,x⟩]
 | .mref,x=>[⟨.mref,x⟩]
 | .sl e,x=>[⟨.sl e,x⟩]
def Xh:(t:Ty)->List (Lf Y.D)->Option (den Y.D t)
 | .u n,l=>Y.Ah1 n l
 |t,[⟨t',x⟩]=>match Ty.dec t' t with
  | .isTrue h=>some (h▸x)
  | .isFalse _=>none
 |_,_=>none
theorem Abv{x:den Y.D t}(h:rp Y.toUS t I w v x):F2 (λc(l:Lf Y.D)=>rp Y.toUS l.t I w c l.x) v.cells.toList (Abw t x):=by
 cases t with
 |u n=>obtain⟨b,rfl,a⟩:=GM.1 h;exact a
 |_=>rw[(JF rfl h).1];exact .cons h .nil
theorem ZQ{cs:List Value}{l:List (Lf Y.D)}{x:den Y.D t}(h:Xh t l=some x)(i:F2 (λc(l:Lf Y.D)=>rp Y.toUS l.t I w c l.x) cs l):∃v,v.cells=⟨cs⟩/\rp Y.toUS t I w v x/\(if isU t then v=.agg ⟨cs⟩ else ∃u,v=u/\cs=[u]):=by
 unfold Xh at h;split at h
 .rename_i n;have d:=Y.QZ n _ x h;exact⟨.agg ⟨cs⟩,rfl,GM.2 ⟨cs,rfl,by grind⟩,rfl⟩
 .rename_i j f y a;split at h
  .rename_i e _;subst e;cases h;cases i with
   |cons g d=>
    cases d;rename_i c;have b:f.leaf=true:=by cases f<;>first|rfl|grind
    refine⟨c,(JF b g).1,g,?_⟩;cases f<;>first|exact⟨c,rfl,rfl⟩|grind
  grind
 grind
end
end
section
def EZ(b:Bool)(p:Prop):Prop:=match b with
 |true=>p
 |false=>False
theorem AG{b:Bool}{p:Prop}(h:EZ b p):b=true/\p:=by
 cases b with
 |true=>exact⟨rfl,h⟩
 |false=>exact h.elim
structure Sx(g:B4)(w':World):Prop where
 ext:Ext g.I g.w g.I w'
theorem Sx.BD{g:B4}{w':World}(h:Sx g w'):∀b,g.I b->w'.heap[b]?=g.w.heap[b]?:=h.ext.BD
theorem Sx.refl(g:B4):Sx g g.w:=⟨Ext.refl _ _⟩
theorem Sx.points{g:B4}{w':World}(h:Sx g w'){a:Addr}{v:Value}(c:g.I a.block)(b:Di g.w a v):Di w' a v:=⟨b.1,λj d=>(cell?_of_heap (a:=⟨a.block,a.off+j,none⟩) (h.BD _ c)).trans (b.2 j d)⟩
def KR(P:Program)(f:Fr)(op:Op)(ty:TypeId)(v:Value)(w:World):Prop:=∀dst pos af gd,(execOp (ev f) ⟨dst,op,ty,pos,af,gd⟩).run P w=.ok (.value v) w
theorem A9{P:Program}{f:Fr}{op:Op}{ty:TypeId}{v:Value}{w:World}(h:∀(a:String)(b:Array Edge)(K:Fr->World->Prop),K (put 1 f (some 0) v) w->WL P 1 #[] (λ_ _=>False) true K [⟨some 0,op,ty,a,b,none⟩] f w):KR P f op ty v w:=by
 intro l a b n;have c:=h a b (λk m=>k 0=v/\m=w) ⟨rfl,rfl⟩;simp only[WL,Region.wanted,if_true]at c;obtain⟨e,o,d,g,i⟩:=ZA _ c;have j:e=v:=by simp_all[put,DG]
 rw[j,i]at d;exact d
section
variable {Y:Sys}
def Azw(P:Program)(t:TypeId)(i:Nat):Option Nat:=match P.underlying t with
 |some (.struct fs)=>(fs[i]?).map (·.offset)
 |_=>none
def slI(P:Program)(t:TypeId):Option (TypeId×Nat):=match P.underlying t with
 |some (.slice e)=>(P.info? e).map λi=>(e,i.bytes)
 |_=>none
def ixA(a:AV Y)(len:Nat)(k:(j:Nat)->j<len->Prop):Prop:=match a with
 | .nat j=>∃h:j<len,k j h
 |a=>match asInt a with
  |some (_,n)=>(Axb a->0<=n)/\∃h:n.toNat<len,k n.toNat h
  |none=>False
variable {g:B4} {a:AV Y}
theorem Vw{v:Value}{len:Nat}{k:(j:Nat)->j<len->Prop}(d:AR g a v)(h:ixA a len k):∃kd j,v=.int kd (j:Nat)/\∃hj:j<len,k j hj:=by
 unfold ixA at h;split at h
 .obtain⟨b,c⟩:=h;exact⟨_,_,d.1,b,c⟩
 .split at h
  .rename_i kd n e;obtain⟨f,b,c⟩:=h;have:=F9 e d;refine⟨kd,n.toNat,?_,b,c⟩;rw[this,Int.toNat_of_nonneg (f (Arp d))]
  grind
def isK:Operand->Bool
 | .const _=>true
 |_=>false
def Kv(x:Operand)(a:AV Y)(p:Prop):Prop:=match isK x with
 |true=>p
 |false=>match a with
  | .dat (.int k) n=>Bn k n->p
  | .nat j=>j<=9223372036854775807->p
  |_=>p
variable {x:Operand}
theorem EM{v:Value}{p:Prop}(b:AR g a v)(h:Kv x a p):p:=by
 unfold Kv at h;split at h
 .exact h
 .split at h
  .exact h (AT.1 b).2
  .exact h b.2
  omega
def WV:BinOp->Int->Int->(p:Prop)×(Decidable p)
 | .eql,a,b=>⟨a=b,inferInstance⟩
 | .neq,a,b=>⟨¬a=b,inferInstance⟩
 | .lss,a,b=>⟨a<b,inferInstance⟩
 | .leq,a,b=>⟨a<=b,inferInstance⟩
 | .gtr,a,b=>⟨b<a,inferInstance⟩
 |_,a,b=>⟨b<=a,inferInstance⟩
def arI(op:BinOp)(k:IntKind)(a b:Int)(K:Int->Prop):Prop:=match op with
 | .add=>Bn k (a+b)/\K (a+b)
 | .sub=>Bn k (a-b)/\K (a-b)
 | .mul=>Bn k (a*b)/\K (a*b)
 | .quo=>b≠0/\Bn k (a.tdiv b)/\K (a.tdiv b)
 | .rem=>b≠0/\Bn k (a.tmod b)/\K (a.tmod b)
 | .and=>K (C3 .and k a b)
 | .or=>K (C3 .or k a b)
 | .xor=>K (C3 .xor k a b)
 |_=>False
def arW(op:BinOp)(k:IntKind)(a b:Int)(K:Int->Prop):Prop:=match op with
 | .add=>K (k.wrap (a+b))
 | .sub=>K (k.wrap (a-b))
 | .mul=>K (k.wrap (a*b))
 | .quo=>b≠0/\Bn k (a.tdiv b)/\K (a.tdiv b)
 | .rem=>b≠0/\Bn k (a.tmod b)/\K (a.tmod b)
 | .and=>K (C3 .and k a b)
 | .or=>K (C3 .or k a b)
 | .xor=>K (C3 .xor k a b)
 |_=>False
def A34:IntKind->Bool
 | .i64=>true
 |_=>false
variable {P:Program} {f:Fr} {op:BinOp} {kd:IntKind} {b:Int} {K:Int->Prop} {y:Operand} {t u ty:TypeId}
theorem Aym{a:Int}(h:arI op kd a b K)(hx:ev f x=.int kd a)(hy:ev f y=.int kd b):∃n,K n/\Bn kd n/\∀w,KR P f (.binOp op t x y u) ty (.int kd n) w:=by
 unfold arI at h;split at h
 .exact⟨_,h.2,h.1,λw=>A9 λpos af K' hk=>Agc hx hy (by rw[EL h.1];exact hk)⟩
 .exact⟨_,h.2,h.1,λw=>A9 λpos af K' hk=>Ato hx hy (by rw[EL h.1];exact hk)⟩
 .exact⟨_,h.2,h.1,λw=>A9 λpos af K' hk=>Atr hx hy (by rw[EL h.1];exact hk)⟩
 .exact⟨_,h.2.2,h.2.1,λw=>A9 λpos af K' hk=>Amj hx hy h.1 h.2.1 hk⟩
 .exact⟨_,h.2.2,h.2.1,λw=>A9 λpos af K' hk=>Ami hx hy h.1 h.2.1 hk⟩
 .exact⟨_,h,Pw,λw=>A9 λpos af K' hk=>Ats hx hy hk⟩
 .exact⟨_,h,Pw,λw=>A9 λpos af K' hk=>Azz hx hy hk⟩
 .exact⟨_,h,Pw,λw=>A9 λpos af K' hk=>Atn hx hy hk⟩
 grind
theorem Ao3{a:Int}(h:arW op kd a b K)(hx:ev f x=.int kd a)(hy:ev f y=.int kd b):∃n,K n/\Bn kd n/\∀w,KR P f (.binOp op t x y u) ty (.int kd n) w:=by
 unfold arW at h;split at h
 .exact⟨_,h,IJ _ _,λw=>A9 λpos af K' hk=>Agc hx hy hk⟩
 .exact⟨_,h,IJ _ _,λw=>A9 λpos af K' hk=>Ato hx hy hk⟩
 .exact⟨_,h,IJ _ _,λw=>A9 λpos af K' hk=>Atr hx hy hk⟩
 .exact⟨_,h.2.2,h.2.1,λw=>A9 λpos af K' hk=>Amj hx hy h.1 h.2.1 hk⟩
 .exact⟨_,h.2.2,h.2.1,λw=>A9 λpos af K' hk=>Ami hx hy h.1 h.2.1 hk⟩
 .exact⟨_,h,Pw,λw=>A9 λpos af K' hk=>Ats hx hy hk⟩
 .exact⟨_,h,Pw,λw=>A9 λpos af K' hk=>Azz hx hy hk⟩
 .exact⟨_,h,Pw,λw=>A9 λpos af K' hk=>Atn hx hy hk⟩
 grind
theorem Ahg(g:Oq op=true){a:Int}(c:ev f x=.int kd a)(d:ev f y=.int kd b)(w:World):KR P f (.binOp op t x y u) ty (.bool (@decide (WV op a b).1 (WV op a b).2)) w:=A9 λi k j e=>by
 cases op<;>first|(simp [Oq]at g;done)|skip
 .exact Av6 c d e
 .refine Amk c d ?_;have:(!decide (a=b))=@decide (WV .neq a b).1 (WV .neq a b).2:=by simp only[WV];by_cases h:a=b<;>simp [h]
  rw[this];exact e
 .exact Aml c d e
 .exact Av3 c d e
 .exact Av4 c d e
 .exact Av5 c d e
def shI(op:BinOp)(k:IntKind)(a b:Int)(K:Int->Prop):Prop:=match op with
 | .shl=>0<=b/\K (k.wrap (a*2^(min b.toNat k.bits)))
 | .shr=>0<=b/\K (a.fdiv (2^(min b.toNat k.bits)))
 |_=>False
def A33:BinOp->Bool
 | .shl | .shr=>true
 |_=>false
theorem Au9{kd2:IntKind}{a:Int}(h:shI op kd a b K)(hx:ev f x=.int kd a)(hy:ev f y=.int kd2 b)(ha:op=.shr->Bn kd a):∃n,K n/\Bn kd n/\∀w,KR P f (.binOp op t x y u) ty (.int kd n) w:=by
 unfold shI at h;split at h
 .exact⟨_,h.2,IJ _ _,λw=>A9 λpos af K' hk=>Azy hx hy h.1 hk⟩
 .exact⟨_,h.2,Arq (ha rfl) h.1,λw=>A9 λpos af K' hk=>Azx hx hy h.1 hk⟩
 grind
def FX(P:Program)(t:TypeId)(q:TypeDesc->Bool):Bool:=match P.underlying t with
 |some d=>q d
 |none=>false
def Aha:TypeDesc->Bool
 | .bool=>true
 |_=>false
def Asc:TypeDesc->Bool
 | .pointer _=>true
 |_=>false
def Asb:TypeDesc->Bool
 | .string=>true
 |_=>false
def Aog(k:IntKind):TypeDesc->Bool
 | .int j=>j==k
 |_=>false
theorem Xl(h:FX P t Aha=true):P.underlying t=some .bool:=by grind[FX,Aha]
theorem ZR(h:FX P t Asb=true):P.underlying t=some .string:=by grind[FX,Asb]
theorem ZS(h:FX P t Asc=true):∃e,P.underlying t=some (.pointer e):=by
 unfold FX at h;split at h
 .rename_i d hd;cases d<;>simp [Asc]at h;grind
 grind
theorem U9{k:IntKind}(h:FX P t (Aog k)=true):P.underlying t=some (.int k):=by
 unfold FX at h;split at h
 .rename_i d hd;cases d<;>simp [Aog]at h;grind
 grind
def asS(a:AV Y):Option ByteArray:=Ug .str a
def asP(a:AV Y):Option (Option Nat):=Ug .ptr a
def dFn:TypeDesc->Bool
 | .func _ _ _=>true
 |_=>false
theorem Afj(h:FX P t dFn=true):∃a b c,P.underlying t=some (.func a b c):=by
 unfold FX at h;split at h
 .rename_i d hd;cases d<;>simp [dFn]at h;grind
 grind
theorem NY{w:World}{g:Fn}{p q:Array Value}(n:Nat)(d:∃a b c,P.underlying t=some (.func a b c)):(Op.equalIn (n+1) t (.func g p q) .nilFunc).run P w=.ok false w:=by obtain⟨e,f,h,d⟩:=d;simp [Op.equalIn,run_underlying d]
theorem ZH{g:Fn}{p q:Array Value}{b:Bool}(h:∃a b c,P.underlying t=some (.func a b c))(e:ev f x=.func g p q)(d:ev f y=.nilFunc)(k:(op=.eql/\b=false)∨(op=.neq/\b=true))(w:World):KR P f (.binOp op t x y u) ty (.bool b) w:=by
 intro j l m n;have i:∀op:BinOp,(eqGuard op t x y (.func g p q) .nilFunc).run P w=.ok () w:=λop=>by simp only[eqGuard];cases op<;>simp
 rcases k with ⟨rfl,rfl⟩|⟨rfl,rfl⟩
 .simp only[execOp,e,d,Sem.run_bind,i,Result.andThen_ok,binOp,Op.equal,Op.maxDepth,NY 9999 h,Sem.run_pure]
 .simp only[execOp,e,d,Sem.run_bind,i,Result.andThen_ok,binOp,Op.equal,Op.maxDepth,NY 9999 h,Sem.run_pure,Bool.not_false]
def gtS(s r:ByteArray):Bool:=!(Op.bytesLess s.toList r.toList ||s.toList==r.toList)
def eqX(P:Program)(op:BinOp)(t:TypeId)(a b:AV Y)(k:AV Y->Prop):Prop:=match asB a,asB b with
 |some p,some q=>match op with
  | .eql=>EZ (FX P t Aha) (k (.dat .bool (p.val==q.val)))
  | .neq=>EZ (FX P t Aha) (k (.dat .bool (!(p.val==q.val))))
  |_=>False
 |_,_=>match asS a,asS b with
  |some s,some r=>match op with
   | .eql=>k (.prp (s=r) inferInstance)
   | .neq=>k (.prp (¬s=r) inferInstance)
   | .gtr=>k (.dat .bool (gtS s r))
   |_=>False
  |_,_=>match asP a,b with
   |some p,.val (.pointer none)=>match op with
    | .eql=>EZ (FX P t Asc) (k (.prp (p=none) inferInstance))
    | .neq=>EZ (FX P t Asc) (k (.prp (¬p=none) inferInstance))
    |_=>False
   |_,_=>match a,b with
    | .fn _ _ _,.val .nilFunc=>match op with
     | .eql=>EZ (FX P t dFn) (k (.val (.bool false)))
     | .neq=>EZ (FX P t dFn) (k (.val (.bool true)))
     |_=>False
    |_,_=>False
theorem Axq{b:AV Y}{k:AV Y->Prop}(h:eqX P op t a b k)(z:AR g a (ev f x))(o:AR g b (ev f y)):∃v c,k c/\AR g c v/\∀w,KR P f (.binOp op t x y u) ty v w:=by
 unfold eqX at h;split at h
 .rename_i p q A C;have i:=Nl A z;have l:=Nl C o;split at h
  .obtain⟨j,h⟩:=AG h;exact⟨_,_,h,GN.2 rfl,λw=>A9 λe n m d=>A0b i l (Xl j) d⟩
  .obtain⟨j,h⟩:=AG h;exact⟨_,_,h,GN.2 rfl,λw=>A9 λe n m d=>Az3 i l (Xl j) d⟩
  grind
 .split at h
  .rename_i s r D E;have i:=(LX.1 (Dh D z)).1;have l:=(LX.1 (Dh E o)).1;split at h
   .exact⟨_,_,h,rfl,λw=>A9 λe n m d=>Az8 i l d⟩
   .exact⟨_,_,h,rfl,λw=>A9 λe n m d=>Az0 i l d⟩
   .exact⟨_,_,h,GN.2 rfl,λw=>A9 λe n m d=>Aw (by simp only[execOp,i,l,Sem.run_bind,Ti,Result.andThen_ok,binOp,Op.stringOp,Sem.run_pure];rfl) d⟩
   grind
  .split at h
   .rename_i p A _ _;have i:rep (α:=Option Nat) g.I g.w (ev f x) p:=Lb.1 (Dh A z);split at h
    .obtain⟨j,h⟩:=AG h;exact⟨_,_,h,rfl,λw=>A9 λe n m d=>Az9 (I:=g.I) (ZS j) i rfl o d⟩
    .obtain⟨j,h⟩:=AG h;exact⟨_,_,h,rfl,λw=>A9 λe n m d=>Az2 (I:=g.I) (ZS j) i rfl o d⟩
    grind
   .split at h
    .obtain⟨⟨q,B,F,i⟩,_⟩:=z;have l:ev f y=.nilFunc:=o;split at h
     .obtain⟨j,h⟩:=AG h;exact⟨_,_,h,rfl,λw=>ZH (Afj j) i l (.inl ⟨rfl,rfl⟩) w⟩
     .obtain⟨j,h⟩:=AG h;exact⟨_,_,h,rfl,λw=>ZH (Afj j) i l (.inr ⟨rfl,rfl⟩) w⟩
     grind
    grind
def eqU(op:BinOp)(t:TypeId)(a b:AV Y)(k:AV Y->Prop):Prop:=match a with
 | .dat (.u n) x=>match Ug (.u n) b with
  |some y=>EZ (Y.eqs t (.u n)) (match op with
   | .eql=>k (.prp (x=y) (FJ Y.toUS Y.deq (.u n) x y))
   | .neq=>k (.prp (¬x=y) (@instDecidableNot _ (FJ Y.toUS Y.deq (.u n) x y)))
   |_=>False)
  |none=>False
 |_=>False
theorem Axr{b:AV Y}{k:AV Y->Prop}(h:eqU op t a b k)(H:AR g a (ev f x))(G:AR g b (ev f y)):∃v c,k c/\AR g c v/\∀w,KR Y.P f (.binOp op t x y u) ty v w:=by
 unfold eqU at h;split at h
 .rename_i n d;split at h
  .rename_i e C;obtain⟨A,h⟩:=AG h;obtain⟨D,E⟩:=Y.At6 t _ A;have r:rp Y.toUS (.u n) g.I g.w (ev f x) d:=H;have s:=Dh C G;obtain⟨I,j,_⟩:=GM.1 r;obtain⟨J,i,_⟩:=GM.1 s;have p:∀(op:BinOp)(w:World),(eqGuard op t x y (ev f x) (ev f y)).run Y.P w=.ok () w:=λop w=>by rw[j,i];simp only[eqGuard];cases op<;>simp [Sem.run_bind,run_program,D]
   have m:=E _ _ _ _ _ _ r s;rw[j,i]at m p;split at h
   .exact⟨_,_,h,rfl,λw q o F B=>by simp_all[execOp,Sem.run_bind,Result.andThen_ok,binOp]⟩
   .exact⟨_,_,h,rfl,λw q o F B=>by
     have:(!(@decide (d=e) (FJ Y.toUS Y.deq (.u n) d e)))=@decide (¬d=e) (@instDecidableNot _ (FJ Y.toUS Y.deq (.u n) d e)):=by simp
     simp_all[execOp,Sem.run_bind,Result.andThen_ok,binOp]⟩
   grind
  grind
 grind
end
end
section
section
variable {Y:Sys}
variable {w:World} {b off o:Nat} {u v:Value}
theorem UW{n:Nat}(hp:Di w ⟨b,off,none⟩ u)(hv:v.cells.toList=(u.cells.toList.drop o).take n):Di w ⟨b,off+o,none⟩ v:=by
 refine⟨rfl,λj hj=>?_⟩;have h1:v.cells[j]?=((u.cells.toList.drop o).take n)[j]?:=by rw[<-hv,a2]
 have hjn:j<n/\o+j<u.cells.size:=by grind
 have h2:((u.cells.toList.drop o).take n)[j]?=u.cells[o+j]?:=by rw[ad hjn.1,aq,a2]
 have:=hp.2 (o+j) hjn.2;rw[h1,h2,<-this];show w.cell? ⟨b,off+o+j,none⟩=w.cell? ⟨b,off+(o+j),none⟩;rw[ac]
variable {t:TypeId}
theorem Nr{P:Program}{agg:Bool}{n:Nat}{a:Addr}(ht:OZ P t agg n=true)(hp:Di w a v)(hc:v.cells.size=n)(hf:if agg then ∃cs,v=.agg cs else v.cells=#[v]):(loadVar t a).run P w=.ok v w:=by
 simp only[loadVar,Sem.run_bind,(GB (w:=w) ht).1,Result.andThen_ok];cases agg with
 |true=>
  simp only[if_true]at hf;obtain⟨cs,rfl⟩:=hf;simp only[if_true,Sem.run_bind,(GB (w:=w) ht).2,Result.andThen_ok];rw[<-hc,NW hp];rfl
 |false=>
  simp only[a1,if_false]at hf;have h2:=hf;have h0:=hp.2 0 (by grind);obtain⟨b,o,s⟩:=a;obtain⟨hs,_⟩:=hp;simp_all[bu,a7,List.getElem?_cons_zero]
variable {T:Ty}
theorem Aqj{I:Cc}{x:den Y.D T}(h:rp Y.toUS T I w v x):if isU T then ∃cs,v=.agg cs else v.cells=#[v]:=(RT Y.toUS T).form h
variable {f:Fr} {ty:TypeId} {x:Operand}
theorem QP{I:Cc}{w':World}{y:den Y.D T}{a:Addr}(d:OZ Y.P t (isU T) (sz Y.toUS T)=true)(c:Di w' a v)(b:rp Y.toUS T I w v y)(e:ev f x=.pointer (some a)):KR Y.P f (.load t x) ty v w':=λg h j i=>by simp [execOp,Instr.loadAt,e,Instr.sureAddr,Nr d c (Aai b) (Aqj b)]
def ldD(t:TypeId)(T:Ty)(d:den Y.D T)(o:Nat)(k:AV Y->Prop):Prop:=match Y.ty t with
 |some T'=>EZ (OZ Y.P t (isU T') (sz Y.toUS T')) (match o with
  |0=>match Ty.dec T T' with
   | .isTrue h=>k (.dat T' (h▸d))
   | .isFalse _=>match Xh T' ((Abw T d).take (sz Y.toUS T')) with
    |some y=>k (.dat T' y)
    |none=>False
  |o=>match Xh T' (((Abw T d).drop o).take (sz Y.toUS T')) with
   |some y=>k (.dat T' y)
   |none=>False)
 |none=>False
variable {g:B4}
theorem Abl{T':Ty}{d:den Y.D T}{y:den Y.D T'}(p:OZ Y.P t (isU T') (sz Y.toUS T')=true)(l:rp Y.toUS T g.I g.w u d)(i:Di g.w ⟨b,off,none⟩ u)(q:g.I b)(j:ev f x=.pointer (some ⟨b,off+o,none⟩))(k:Xh T' (((Abw T d).drop o).take (sz Y.toUS T'))=some y):∃v,rp Y.toUS T' g.I g.w v y/\∀w',Sx g w'->KR Y.P f (.load t x) ty v w':=by have m:=((Abv l).drop o).take (sz Y.toUS T');obtain⟨v,n,c,_⟩:=ZQ k m;refine⟨v,c,λw' e=>?_⟩;have h:=e.points (a:=⟨b,off,none⟩) q i;exact QP p (UW h (by rw[n])) c j
theorem Ad9{d:den Y.D T}{k:AV Y->Prop}(h:ldD t T d o k)(c:rp Y.toUS T g.I g.w u d)(i:Di g.w ⟨b,off,none⟩ u)(r:g.I b)(j:ev f x=.pointer (some ⟨b,off+o,none⟩)):∃v a,k a/\AR g a v/\∀w',Sx g w'->KR Y.P f (.load t x) ty v w':=by
 unfold ldD at h;split at h
 .rename_i s w;obtain⟨l,h⟩:=AG h;split at h
  .split at h
   .rename_i e _;subst e;exact⟨u,_,h,c,λw' q=>QP l (q.points (a:=⟨b,off,none⟩) r i) c j⟩
   .split at h
    .rename_i y n;obtain⟨v,m,p⟩:=Abl (o:=0) l c i r j n;exact⟨v,_,h,m,p⟩
    grind
  .split at h
   .rename_i y n;obtain⟨v,m,p⟩:=Abl l c i r j n;exact⟨v,_,h,m,p⟩
   grind
 grind
theorem V6:∀(l:List Value)(s off:Nat)(cells:Array Value),off+s+l.length<=cells.size->((l.zipIdx s).foldl (λcs(p:Value×Nat)=>cs.setIfInBounds (off+p.2) p.1) cells).toList=cells.toList.take (off+s)++(l++cells.toList.drop (off+s+l.length))
 | [],s,off,cells,_=>by simp
 |x::l,s,off,cells,h=>by
  simp only[bc]at h;have g:=V6 l (s+1) off (cells.setIfInBounds (off+s) x) (by simp;omega);simp only[ce,bw];rw[g];have a:off+s<cells.toList.length:=by simp;omega
  have f:off+(s+1)=off+s+1:=by omega
  rw[bj,f,List.take_set,List.drop_set];have e:off+s<off+s+1+l.length:=by omega
  rw[UV e];have c:(cells.toList.take (off+s+1)).set (off+s) x=cells.toList.take (off+s)++[x]:=by
   rw[List.take_succ_eq_append_getElem a,b9 _ _ (by simp;omega)];have b:min (off+s) cells.size=off+s:=by simp at a;omega
   simp [ao,b]
  rw[c,a0,bc];have d:off+s+1+l.length=off+s+(l.length+1):=by omega
  rw[d];rfl
def Up(a:AV Y)(ts:List Ty):Option (List (Lf Y.D)):=match a with
 | .dat (.u m) d=>some (Y.flat m d)
 | .val (.agg cs)=>KO ts cs.toList
 |a=>match ts with
  | [t]=>match t.leaf,Ug t a with
   |true,some x=>some [⟨t,x⟩]
   |_,_=>none
  |_=>none
theorem Vs{a:AV Y}{ts:List Ty}{l:List (Lf Y.D)}(h:Up a ts=some l)(b:AR g a v):F2 (λc(l:Lf Y.D)=>rp Y.toUS l.t g.I g.w c l.x) v.cells.toList l:=by
 unfold Up at h;split at h
 .cases h;obtain⟨j,rfl,i⟩:=GM.1 b;exact i
 .obtain rfl:v=_:=b;exact Ls h
 .split at h
  .split at h
   .rename_i e f;cases h;have d:=Dh f b;rw[(JF e d).1];exact .cons d .nil
   .cases h
  .cases h
def Aby(place:Nat->Option (Nat×Nat))(ts:List Ty):List (Lf Y.D)->List (Nat×AV Y)->Option (List (Lf Y.D))
 |ls,[]=>some ls
 |ls,(i,a)::rest=>match place i with
  |none=>none
  |some (off,size)=>match Up a ((ts.drop off).take size) with
   |some l=>match Nat.beq l.length size&&cu (off+size) ls.length with
    |true=>Aby place ts (ls.take off++(l++ls.drop (off+size))) rest
    |false=>none
   |none=>none
theorem Abx{g:B4}{place:Nat->Option (Nat×Nat)}{ts:List Ty}:∀{ps:List (Nat×AV Y)}{qs:List (Nat×Value)}{cells:Array Value}{ls l':List (Lf Y.D)},Aby place ts ls ps=some l'->F2 (λc(l:Lf Y.D)=>rp Y.toUS l.t g.I g.w c l.x) cells.toList ls->F2 (λ(p:Nat×AV Y)(q:Nat×Value)=>p.1=q.1/\AR g p.2 q.2) ps qs->∃cells',Instr.fill place cells qs=some cells'/\F2 (λc(l:Lf Y.D)=>rp Y.toUS l.t g.I g.w c l.x) cells'.toList l'
 | [],_,cells,ls,l',h,j,.nil=>by cases h;exact⟨cells,rfl,j⟩
 |(i,a)::r,(A,v)::qs,cells,ls,l',h,j,.cons ⟨m,o⟩ w=>by
  simp only at m o;subst m;unfold Aby at h;unfold Instr.fill;split at h
  .cases h
  .rename_i b d s;split at h
   .rename_i l y;split at h
    .rename_i z;simp only[a3,Nat.beq_eq,Nat.ble_eq]at z;have n:=Vs y o;have k:v.cells.size=d:=by have:=n.len;simp only[bh]at this;omega
     have u:cells.size=ls.length:=by have:=j.len;simpa using this
     have t:¬(v.cells.size≠d∨b+v.cells.size>cells.size):=by omega
     simp only[s,bx,decide_eq_true_eq,t,if_false];refine Abx h ?_ w;have:=V6 v.cells.toList 0 b cells (by simp;omega);have e:(v.cells.zipIdx.foldl (λf(x:Value×Nat)=>f.setIfInBounds (b+x.2) x.1) cells)=(v.cells.toList.zipIdx.foldl (λf(x:Value×Nat)=>f.setIfInBounds (b+x.2) x.1) cells):=by rw[<-bk,Array.toList_zipIdx]
     show F2 _ (v.cells.zipIdx.foldl (λf(x:Value×Nat)=>f.setIfInBounds (b+x.2) x.1) cells).toList _;rw[e,this];simp only[bu,bh,k];exact(j.take b).app (n.app (j.drop _))
    .cases h
   .cases h
def plc(P:Program)(t:TypeId):Option ((Nat->Option (Nat×Nat))×Value):=match P.info? t,P.underlying t with
 |some it,some (.array _ e)=>match it.zero,P.info? e with
  |some z,some ie=>some (λi=>some (i*ie.size,ie.size),z)
  |_,_=>none
 |some it,some (.struct fields)=>match it.zero,fields.toList.mapM (λf=>(P.info? f.type).map λi=>(f.offset,i.size)) with
  |some z,some places=>some ((places.toArray[·]?),z)
  |_,_=>none
 |_,_=>none
theorem Xy{P:Program}{p:(Nat->Option (Nat×Nat))×Value}(h:plc P t=some p)(a:List (Nat×Value)):P.built t a=Instr.fill p.1 p.2.cells a:=by
 unfold plc at h;unfold Program.built;split at h
 .rename_i g e b f;split at h
  .rename_i z k d c;cases h;simp only[b,f,d,c]
  .cases h
 .rename_i g i b f;split at h
  .rename_i z j d c;cases h;simp only[b,f,d,c]
  .cases h
 .cases h
def evP(c:Cf Y):List (Nat×Operand)->Option (List (Nat×AV Y))
 | []=>some []
 |(i,x)::l=>match En c x,evP c l with
  |some a,some m=>some ((i,a)::m)
  |_,_=>none
theorem Aek{g0 g:B4}{T AH A:Bd}{c:Cf Y}{f:Fr}(h:RG g0 T c f g AH A):∀{l:List (Nat×Operand)}{m:List (Nat×AV Y)},evP c l=some m->F2 (λ(p:Nat×AV Y)(q:Nat×Value)=>p.1=q.1/\AR g p.2 q.2) m (l.map λp=>(p.1,ev f p.2))
 | [],m,b=>by cases b;exact .nil
 |(i,x)::l,m,b=>by
  unfold evP at b;split at b
  .rename_i a j e d;cases b;exact .cons ⟨rfl,h.ev e⟩ (Aek h d)
  .cases b
def Asw(c:Cf Y)(t:TypeId)(ps:Array (Nat×Operand))(k:AV Y->Prop):Prop:=match Y.ty t,plc Y.P t,evP c ps.toList with
 |some (.u n),some (p,.agg z),some qs=>match KO (Y:=Y) (Y.sig n) z.toList with
  |some zl=>match (Aby p (Y.sig n) zl qs).bind (Y.Ah1 n) with
   |some x=>k (.dat (.u n) x)
   |none=>False
  |none=>False
 |_,_,_=>False
theorem Ahk{g0:B4}{T AH A:Bd}{c:Cf Y}(h:RG g0 T c f g AH A){ps:Array (Nat×Operand)}{k:AV Y->Prop}(d:Asw c t ps k):∃v a,k a/\AR g a v/\∀w',KR Y.P f (.build t ps) ty v w':=by
 unfold Asw at d;split at d
 .rename_i n p z q E w y;split at d
  .rename_i m r;cases j:Aby p (Y.sig n) m q with
   |none=>rw[j]at d;exact d.elim
   |some F=>
    rw[j]at d;simp only[ah]at d;split at d
    .rename_i x u;obtain⟨cells,l,e⟩:=Abx (cells:=z) j (Ls r) (Aek h y);refine⟨.agg cells,_,d,GM.2 ⟨cells.toList,rfl,by rw[Y.QZ n _ _ u];exact e⟩,λw' o s D C=>?_⟩;have B:Y.P.built t (ps.map λ(x:Nat×Operand)=>match x with|(i,x)=>(i,ev f x)).toList=some cells:=by rw[Xy w,bq];exact l
     simp only[execOp,Sem.run_bind];rw[run_build w' t _ cells B];rfl
    .exact d.elim
  .exact d.elim
 .exact d.elim
end
end
end Go.Y
