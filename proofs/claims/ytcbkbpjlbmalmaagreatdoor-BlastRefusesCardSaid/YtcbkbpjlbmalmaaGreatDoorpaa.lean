/-
  The X layer, part d: one rule for each operation that reads or makes memory: loads, addresses of elements and fields, structs, boxes, slices of the call's own. (Merged by program out of 4 texts.)
-/
import Derived.WalkKit
import Derived.OrdersHeld
import Derived.OrdersIn
import Derived.RangeFuncRecord
namespace Go.X
open Go Go.RowKit
section
abbrev Fr:=Nat->Value
def Is(N:Nat)(a:Array Value)(f:Fr):Prop:=a.size=N/\∀i,a.getD i undef=f i
structure FK where
 fn:FuncId
 ro:Option Nat
 ds:List Deferred
inductive Xit where
 |lv (j:Option Code) (f:Fr) (ds:List Deferred)
 |pan (ch:List PanicEntry) (f:Fr) (ds:List Deferred)
def A80:Option Code->List Item->Prop
 |none,td=>td=[]
 |some .ret,td=>∃k,td=.code .ret::k
 |some (.exit id),td=>∃k,td=.code (.exit id)::k/\exitTo id k=none
 |_,_=>False
def Ends(P:Program)(N:Nat)(b:Frame)(cs:List Frame)(m:Machine):Xit->World->Prop
 | .lv j f ds,w=>∃a td,Is N a f/\A80 j td/\Steps P m (lone (b.atR ⟨a,ds⟩ td) cs w)
 | .pan ch f ds,w=>∃a td,Is N a f/\Steps P m (lone {b.atR ⟨a,ds⟩ td with mode:=.panicking ch} cs w)
def WT(P:Program)(φ:FK)(N:Nat)(todo:List Item)(R:Xit->World->Prop)(f:Fr)(w:World):Prop:=∀(b:Frame)(cs:List Frame)(a:Array Value),Is N a f->b.fn=φ.fn->b.kind=.normal->b.roundOf=φ.ro->∃e w',R e w'/\Ends P N b cs (lone (b.atR ⟨a,φ.ds⟩ todo) cs w) e w'
theorem Ends.of_steps{P:Program}{N:Nat}{b:Frame}{cs:List Frame}{m m':Machine}{e:Xit}{w:World}(s:Steps P m m')(h:Ends P N b cs m' e w):Ends P N b cs m e w:=by
 cases e with
 |lv j f ds=>obtain⟨a,td,h1,h2,h3⟩:=h;exact⟨a,td,h1,h2,s.trans h3⟩
 |pan ch f ds=>obtain⟨a,td,h1,h2⟩:=h;exact⟨a,td,h1,s.trans h2⟩
variable {P:Program} {φ:FK} {N:Nat} {k:List Item} {R:Xit->World->Prop} {f:Fr} {w:World}
theorem K3{todo todo':List Item}{w':World}(hs:∀(b:Frame)(cs:List Frame)(a:Array Value),Is N a f->b.kind=.normal->b.roundOf=φ.ro->step P (lone (b.atR ⟨a,φ.ds⟩ todo) cs w)=.next (lone (b.atR ⟨a,φ.ds⟩ todo') cs w'))(h:WT P φ N todo' R f w'):WT P φ N todo R f w:=by intro b cs a ha hb hk hr;obtain⟨e,w₂,hR,hc⟩:=h b cs a ha hb hk hr;exact⟨e,w₂,hR,hc.of_steps (.one (hs b cs a ha hk hr))⟩
theorem Aax(h:WT P φ N k R f w):WT P φ N (.code .skip::k) R f w:=K3 (λ_ _ _ _ _ _=>stepR_skip) h
theorem Am2{l:Nat}(h:WT P φ N k R f w):WT P φ N (.code (.label l)::k) R f w:=K3 (λ_ _ _ _ _ _=>stepR_label) h
variable {id:Nat}
theorem Q7(h:WT P φ N k R f w):WT P φ N (.inBlock id::k) R f w:=K3 (λ_ _ _ _ _ _=>stepR_inBlock) h
variable {x y:Code}
theorem Fo(h:WT P φ N (.code x::.code y::k) R f w):WT P φ N (.code (.seq x y)::k) R f w:=K3 (λ_ _ _ _ _ _=>stepR_seq) h
variable {c:Code}
theorem Q8(h:WT P φ N (.code c::.inBlock id::k) R f w):WT P φ N (.code (.block id c)::k) R f w:=K3 (λ_ _ _ _ _ _=>stepR_block) h
theorem Afa{k':List Item}(hk:exitTo id k=some k')(h:WT P φ N k' R f w):WT P φ N (.code (.exit id)::k) R f w:=K3 (λ_ _ _ _ _ _=>stepR_exit hk) h
theorem A7d(h:WT P φ N (.code c::.inLoop c::k) R f w):WT P φ N (.inLoop c::k) R f w:=K3 (λ_ _ _ _ _ _=>stepR_inLoop) h
theorem A0b(h:WT P φ N (.code c::.inLoop c::k) R f w):WT P φ N (.code (.loop c)::k) R f w:=K3 (λ_ _ _ _ _ _=>stepR_loop) h
theorem Avy(h:WT P φ N (.code c::.inScope c::k) R f w):WT P φ N (.code (.scope c)::k) R f w:=
 K3 (λb cs a _ _ _=>step_lone_go (by simp [stepG,stepG.exec,Frame.atR])) h
theorem Apz(h:WT P φ N k R f w):WT P φ N (.inScope c::k) R f w:=
 K3 (λb cs a _ _ _=>step_lone_go (by simp [stepG,stepG.exec,Frame.atR])) h
def A2u(p:Prop):Prop:=p
theorem A2u.out{p:Prop}(h:A2u p):p:=h
theorem Aky(S:Nat->Fr->World->Prop)(n:Nat)(h0:S n f w)(round:∀n f w,S n f w->A2u (∀m f' w',m<n->S m f' w'->WT P φ N (.inLoop c::k) R f' w')->WT P φ N (.code c::.inLoop c::k) R f w):WT P φ N (.code (.loop c)::k) R f w:=by
 have key:∀n f w,S n f w->WT P φ N (.code c::.inLoop c::k) R f w:=by
  intro n;induction n using Nat.strongRecOn with
  |_ n ih=>exact λf w hS=>round n f w hS λm f' w' hm hS'=>A7d (ih m hm f' w' hS')
 exact A0b (key n f w h0)
def ev(f:Fr):Operand->Value
 | .tmp t=>f t
 | .const v=>v
 | .global g=>.pointer (some ⟨g,0,none⟩)
 | .func f=>.func (.func f) #[] #[]
def upd(N:Nat)(f:Fr)(d:Nat)(v:Value):Fr:=λj=>if j=d then (if d<N then v else undef) else f j
def put(N:Nat)(f:Fr)(dst:Option Tmp)(v:Value):Fr:=
 match dst with
 |some d=>upd N f d v
 |none=>f
variable {ds:List Deferred} {a:Array Value}
theorem Ack(ha:Is N a f)(x:Operand):(Act.eval ⟨a,ds⟩) x=ev f x:=by
 cases x with
 |tmp t=>exact ha.2 t
 |const v=>rfl
 |global g=>rfl
 |func g=>rfl
theorem Kt(ha:Is N a f):(Act.eval ⟨a,ds⟩)=ev f:=funext (Ack ha)
theorem Is.put(ha:Is N a f)(d:Option Tmp)(v:Value):∃a',(Act.put ⟨a,ds⟩ d v)=⟨a',ds⟩/\Is N a' (put N f d v):=by
 cases d with
 |none=>exact⟨a,rfl,ha⟩
 |some d=>
  refine⟨_,rfl,by simp [ha.1],λi=>?_⟩;have hi:=ha.2 i;have hs:=ha.1;simp only[Array.getD_eq_getD_getElem?]at hi ⊢;show _=upd N f d v i;unfold upd;by_cases h:i=d
  .subst h;simp only[if_true];by_cases hN:i<N
   .rw[Array.getElem?_setIfInBounds_self_of_lt (by omega)];simp [hN]
   .rw[Array.getElem?_eq_none (by simp;omega)];simp [hN]
  .rw[Array.getElem?_setIfInBounds_ne (Ne.symm h)];simp [h,hi]
theorem Akz{c:Operand}{t:Bool}(hc:ev f c=.bool t)(ht:t=true->WT P φ N (.code x::k) R f w)(hf:t=false->WT P φ N (.code y::k) R f w):WT P φ N (.code (.cond c x y)::k) R f w:=by
 cases t
 .exact K3 (λ_ _ _ ha _ _=>stepR_cond (t:=false) (by rw[Ack ha];exact hc)) (hf rfl)
 .exact K3 (λ_ _ _ ha _ _=>stepR_cond (t:=true) (by rw[Ack ha];exact hc)) (ht rfl)
theorem Aaw{c:Operand}(hc:ev f c=.bool true)(h:WT P φ N (.code x::k) R f w):WT P φ N (.code (.cond c x y)::k) R f w:=Akz hc (λ_=>h) (by simp)
theorem V3{c:Operand}(hc:ev f c=.bool false)(h:WT P φ N (.code y::k) R f w):WT P φ N (.code (.cond c x y)::k) R f w:=Akz hc (by simp) (λ_=>h)
theorem A2x{j:Option Code}{td:List Item}(hj:A80 j td)(h:R (.lv j f φ.ds) w):WT P φ N td R f w:=λ_ _ a ha _ _ _=>⟨_,w,h,a,td,ha,hj,Steps.refl _ _⟩
theorem Ui(h:R (.lv (some .ret) f φ.ds) w):WT P φ N (.code .ret::k) R f w:=A2x (j:=some .ret) ⟨k,rfl⟩ h
theorem Acz(h:R (.lv none f φ.ds) w):WT P φ N [] R f w:=A2x (j:=none) rfl h
abbrev Rnd(P:Program)(l:Nat)(g:FuncId)(tmps:Array Value)(assign body:Code)(w:World)(R:Ending->World->Prop):Prop:=RoundIn Fence.wide 0 P l g tmps assign body w R
def UP(P:Program)(R:List PanicEntry->World->Prop)(m:Bool)(next:Value->World->Prop):Result Next->Prop
 | .ok (.value v) w=>next v w
 | .ok .skip w=>m=false/\next undef w
 | .ok (.enter g args) w=>m=false/\Calls P g args w λe w'=>match e with
  | .returned v=>next v w'
  | .panicked ch=>R ch w'
  | .outgrown=>False
 | .ok (.round l g tmps assign body) w=>m=false/\Rnd P l g tmps assign body w λe w'=>match e with
  | .returned v=>next v w'
  | .panicked ch=>R ch w'
  | .outgrown=>False
 | .halt (.panic v) w=>m=false/\R [{v,recovered:=false}] w
 |_=>False
theorem UP.mono{R:List PanicEntry->World->Prop}{m:Bool}{next next':Value->World->Prop}{r:Result Next}(hn:∀v w,next v w->next' v w)(h:UP P R m next r):UP P R m next' r:=by
 have he:∀(e:Ending)(w':World),(match e with | .returned v=>next v w' | .panicked ch=>R ch w' | .outgrown=>False:Prop)->(match e with | .returned v=>next' v w' | .panicked ch=>R ch w' | .outgrown=>False:Prop):=λe w' h=>by
  cases e with
  |returned v=>exact hn _ _ h
  |panicked ch=>exact h
  |outgrown=>exact h
 cases r with
 |ok nx w'=>
  cases nx with
  |value v=>exact hn _ _ h
  |skip=>exact⟨h.1,hn _ _ h.2⟩
  |enter g args=>exact⟨h.1,Calls.mono h.2 he⟩
  |round l g tmps as bd=>exact⟨h.1,RoundIn.mono h.2 he⟩
  |_=>exact False.elim h
 |halt x w'=>
  cases x with
  |panic v=>exact h
  |_=>exact False.elim h
variable {next:Value->World->Prop}
theorem Amw{R:List PanicEntry->World->Prop}(r:Result Next)(h:UP P R true next r):∃v w',r=.ok (.value v) w'/\next v w':=by
 cases r with
 |ok nx w'=>
  cases nx with
  |value v=>exact⟨v,w',rfl,h⟩
  |skip=>exact absurd h.1 (by decide)
  |enter g args=>exact absurd h.1 (by decide)
  |round l g tmps as bd=>exact absurd h.1 (by decide)
  |_=>exact False.elim h
 |halt x w'=>
  cases x with
  |panic v=>exact absurd h.1 (by decide)
  |_=>exact False.elim h
def yl(ops:Array Oper)(f:Fr)(j:Nat):Option Bool:=
 match (ops[j]?).bind (·.dst) with
 |some d=>match f d with
  | .bool b=>some b
  |_=>none
 |none=>none
theorem Afp{ops:Array Oper}(ha:Is N a f):yielded ops a=yl ops f:=by
 funext j;unfold yielded yl;cases hd:(ops[j]?).bind (·.dst) with
 |none=>rfl
 |some d=>
  have:=ha.2 d;simp only[Option.bind_some];rw[<-this,Array.getD_eq_getD_getElem?];cases h:a[d]? with
  |none=>rfl
  |some v=>cases v<;>rfl
def WL(P:Program)(N:Nat)(ops:Array Oper)(R:List PanicEntry->World->Prop)(m:Bool)(K:Fr->World->Prop):List Oper->Fr->World->Prop
 | [],f,w=>K f w
 |o::os,f,w=>
  if Region.wanted o (yl ops f) then UP P R m (λv w'=>WL P N ops R m K os (put N f o.dst v) w') ((execOp (ev f) o).run P w)
  else WL P N ops R m K os (put N f o.dst undef) w
def FK.T7(φ:FK):Fence:={Fence.wide with round:=φ.ro}
theorem Un{m m':Machine}(h:StepsIn (Machine.fenced P φ.T7) P m m'):Steps P m m':=h.steps
def Qx(P:Program)(φ:FK)(N:Nat)(k:List Item)(R:Xit->World->Prop):Exit->Act->World->Prop
 | .normal,a,w=>a.defers=φ.ds/\∃f,Is N a.tmps f/\WT P φ N k R f w
 | .panic ch,a,w=>a.defers=φ.ds/\∃f,Is N a.tmps f/\R (.pan ch f φ.ds) w
 |_,_,_=>False
abbrev FK.at(φ:FK)(R:Xit->World->Prop):List PanicEntry->World->Prop:=λch w=>∀f,R (.pan ch f φ.ds) w
theorem A5q{N:Nat}(h:a.size=N):Is N a λi=>a.getD i undef:=⟨h,λ_=>rfl⟩
theorem Am1(h:∀a,Is N a f->c.wpIn φ.T7 0 P (Qx P φ N k R) ⟨a,φ.ds⟩ w):WT P φ N (.code c::k) R f w:=by
 intro b cs a ha hb hk hr;obtain⟨e,a',w',hq,harr⟩:=h a ha b k cs hr trivial (λd hd=>(by cases hd));cases e with
 |normal=>
  obtain⟨hd,f',hf',hw⟩:=hq;obtain⟨t,d⟩:=a';simp only at hd;subst hd;obtain⟨e,w₂,hR,hc⟩:=hw b cs t hf' hb hk hr;exact⟨e,w₂,hR,hc.of_steps (Un harr)⟩
 |panic ch=>
  obtain⟨hd,f',hf',hR⟩:=hq;obtain⟨t,d⟩:=a';simp only at hd;subst hd;obtain⟨todo,hs⟩:=harr;exact⟨.pan ch f' φ.ds,w',hR,t,todo,hf',Un hs⟩
 |exit id=>exact hq.elim
 |goto l=>exact hq.elim
 |ret=>exact hq.elim
 |outgrown=>exact hq.elim
theorem Aph{g:FuncId}{args:Array Value}{R:Ending->World->Prop}(h:Calls P g args w R):CallsIn φ.T7 (0-1) P g args w R:=(callsIn_wide (n:=0-1)).2 h
theorem Anp{l:Nat}{g:FuncId}{tmps:Array Value}{as bd:Code}{R:Ending->World->Prop}(h:Rnd P l g tmps as bd w R):RoundIn φ.T7 (0-1) P l g tmps as bd w R:=h
variable {o:Oper}
theorem Anl{R:List PanicEntry->World->Prop}{ro:Option Nat}{ρ:Operand->Value}{m:Bool}(h:UP P R m next ((execOp ρ o).run P w)):(o.semAt ro ρ).run P w=(execOp ρ o).run P w:=by
 cases ro with
 |none=>rfl
 |some l=>
  by_cases hd:∃c,o.op=.defer c
  .obtain⟨c,hc⟩:=hd;obtain⟨dst,op,ty,pos,af,gd⟩:=o;simp only at hc;subst hc;simp only[Oper.semAt,execOp,Sem.run_bind]at h ⊢;cases hr:(resolve ρ c ty).run P w with
   |ok d w'=>rw[hr]at h;simp [Result.andThen,UP]at h
   |halt x w'=>rfl
  .rw[Oper.semAt_eq _ _ _ λc hc=>hd ⟨c,hc⟩]
theorem Afr{Rp:List PanicEntry->World->Prop}{K':Act->World->Prop}(hp:∀ch w,Rp ch w->∃f,Is N a f/\R (.pan ch f φ.ds) w)(hn:∀v w',next v w'->K' (Act.put ⟨a,φ.ds⟩ o.dst v) w')(h:UP P Rp false next ((execOp (Act.eval ⟨a,φ.ds⟩) o).run P w)):o.wpIn φ.T7 0 P ⟨a,φ.ds⟩ w K' (Qx P φ N k R):=by
 refine⟨λf _=>trivial,?_⟩;rw[Anl h];generalize (execOp (Act.eval ⟨a,φ.ds⟩) o).run P w=r at h;cases r with
 |ok nx w'=>
  cases nx with
  |value v=>exact hn _ _ h
  |skip=>exact hn _ _ h.2
  |enter g args=>
   refine⟨λhd=>(by cases hd),Aph (Calls.mono h.2 λe w''=>?_)⟩;cases e with
   |returned v=>exact hn _ _
   |panicked ch=>exact λh=>⟨rfl,hp _ _ h⟩
   |outgrown=>exact λh=>h.elim
  |round l g tmps as bd=>
   refine⟨λhd=>(by cases hd),Anp (RoundIn.mono h.2 λe w''=>?_)⟩;cases e with
   |returned v=>exact hn _ _
   |panicked ch=>exact λh=>⟨rfl,hp _ _ h⟩
   |outgrown=>exact λh=>h.elim
  |_=>exact False.elim h
 |halt x w'=>
  cases x with
  |panic v=>exact⟨rfl,hp _ _ h.2⟩
  |_=>exact False.elim h
def Avr(ops:Array Oper)(t:Nat):Prop:=∀(i:Nat)(o:Oper),ops[i]?=some o->o.dst≠some t
theorem Aww{ops:Array Oper}{i:Nat}{t:Nat}{v:Value}(ho:ops[i]?=some o)(h:Avr ops t):put N f o.dst v t=f t:=by
 have:=h i o ho;cases hd:o.dst with
 |none=>rfl
 |some d=>rw[hd]at this;exact if_neg λe=>this (by rw[e])
theorem Ad6{ops:Array Oper}{Rp:List PanicEntry->World->Prop}{f0:Fr}(hp:∀ch w f,(∀t,Avr ops t->f t=f0 t)->Rp ch w->R (.pan ch f φ.ds) w):∀(os:List Oper)(l:List Nat)(f:Fr)(w:World)(a:Array Value),Is N a f->(∀t,Avr ops t->f t=f0 t)->l.map (ops[·]?)=os.map some->WL P N ops Rp false (WT P φ N k R) os f w->wpOpsIn φ.T7 0 P ops (Qx P φ N k R) l ⟨a,φ.ds⟩ w
 | [],[],f,w,a,ha,_,_,h=>by exact⟨rfl,f,ha,h⟩
 | [],_::_,_,_,_,_,_,hl,_=>by simp at hl
 |_::_,[],_,_,_,_,_,hl,_=>by simp at hl
 |o::os,i::l,f,w,a,ha,hf,hl,h=>by
  simp only[List.map_cons,List.cons.injEq]at hl;obtain⟨ho,hl⟩:=hl;simp only[wpOpsIn,ho];simp only[WL]at h;rw[Afp ha];have hf':∀v t,Avr ops t->put N f o.dst v t=f0 t:=λv t ht=>(Aww ho ht).trans (hf t ht);have next:∀v w',WL P N ops Rp false (WT P φ N k R) os (put N f o.dst v) w'->wpOpsIn φ.T7 0 P ops (Qx P φ N k R) l (Act.put ⟨a,φ.ds⟩ o.dst v) w':=λv w' h'=>by obtain⟨a',h1,h2⟩:=ha.put o.dst v;rw[h1];exact Ad6 hp os l _ _ _ h2 (hf' v) hl h'
  split at h
  .rename_i hw;simp only[hw,if_true];exact Afr (λch w h=>⟨f,ha,hp ch w f hf h⟩) next (by rw[Kt ha];exact h)
  .rename_i hw;simp only[hw,if_false,Bool.false_eq_true];exact⟨λ_ _=>trivial,next _ _ h⟩
theorem Y7(ops:Array Oper):(List.range ops.size).map (ops[·]?)=ops.toList.map some:=by
 apply List.ext_getElem
 .simp
 .intro i h1 h2;simp at h1;simp [h1]
theorem Ad5{ops:Array Oper}{Rp:List PanicEntry->World->Prop}(hp:∀ch w f',(∀t,Avr ops t->f' t=f t)->Rp ch w->R (.pan ch f' φ.ds) w)(h:WL P N ops Rp false (WT P φ N k R) ops.toList f w):WT P φ N (.code (.region id ops false)::k) R f w:=Am1 λa ha=>wpIn_region (Ad6 hp _ _ _ _ a ha (λ_ _=>rfl) (Y7 ops) h)
theorem Ef{ops:Array Oper}(h:WL P N ops (φ.at R) false (WT P φ N k R) ops.toList f w):WT P φ N (.code (.region id ops false)::k) R f w:=Ad5 (λ_ _ f' _ h=>h f') h
def fr0:List Value->Fr
 | []=>λ_=>undef
 |v::vs=>fun
  |0=>v
  |j+1=>fr0 vs j
theorem Sg:∀(vs:List Value)(i:Nat),(vs[i]?).getD undef=fr0 vs i
 | [],i=>by simp [fr0]
 |v::vs,0=>rfl
 |v::vs,i+1=>Sg vs i
def Lv(P:Program)(F:Func)(N:Nat)(f:Fr)(R:Ending->World->Prop):List Deferred->FrameMode->World->Prop
 | [],.returning,w=>∃v,(∀a,Is N a f->(results F a).run P w=.ok v w)/\R (.returned v) w
 | [],.panicking ch,w=>R (.panicked ch) w
 | [],.run,_=>False
 |d::ds,u,w=>u≠.run/\((∃b,d.target=.collected b/\w.heap[b]?=some (.deferred (some []))/\Lv P F N f R ds u (w.putObj b (.deferred none))) ∨
  (∃fv cap g args,d.target=.fn fv cap/\(invoke d.target d.args).run P w=.ok (.enter g args) w/\CallsD P g args u w fun
   | .returned _,u',w'=>Lv P F N f R ds (settle u') w'
   | .panicked chain,u',w'=>Lv P F N f R ds (raised u' chain) w'
   | .outgrown,_,_=>False))
def Avq(P:Program)(F:Func)(N:Nat)(R:Ending->World->Prop):Xit->World->Prop
 | .lv (some .ret) f ds,w | .lv none f ds,w=>Lv P F N f R ds .returning w
 | .pan ch f ds,w=>Lv P F N f R ds (.panicking ch) w
 |_,_=>False
theorem step_collected{fr:Frame}{cs:List Frame}{w:World}{d:Deferred}{b:Nat}(hd:fr.defers=d::ds)(ht:d.target=.collected b)(hb:w.heap[b]?=some (.deferred (some [])))(hm:fr.mode≠.run):step P (lone fr cs w)=.next (lone {fr with defers:=ds} cs (w.putObj b (.deferred none))):=by
 obtain⟨t,a⟩:=d;simp only at ht;subst ht;refine step_lone_go ?_;cases hmode:fr.mode with
 |run=>exact absurd hmode hm
 |returning=>simp [stepG,unwind,hmode,hd,Sem.runT_eq,run_takeDeferred hb,GStep.bare_after]
 |panicking chain=>simp [stepG,unwind,hmode,hd,Sem.runT_eq,run_takeDeferred hb,GStep.bare_after]
theorem Aol{F:Func}{R:Ending->World->Prop}:∀(ds:List Deferred)(u:FrameMode)(w:World)(fr:Frame)(cs:List Frame),fr.mode=u->fr.defers=ds->Is N fr.tmps f->P.funcs[fr.fn]?=some F->fr.kind=.normal->Lv P F N f R ds u w->∃e w' fr',R e w'/\Comes P (lone fr cs w) (lone fr' cs w') e/\fr'.fn=fr.fn/\fr'.leaving P w' e:=by
 intro ds;induction ds with
 |nil=>
  intro u w fr cs hu hd ht hf hk h;cases u with
  |run=>exact h.elim
  |returning=>
   obtain⟨v,hr,hR⟩:=h;exact⟨.returned v,w,fr,hR,Steps.refl P _,rfl,hu,hd,hk,F,hf,hr _ ht⟩
  |panicking chain=>exact⟨.panicked chain,w,fr,h,Steps.refl P _,rfl,hu,hd,F,hf⟩
 |cons d ds ih=>
  intro u w fr cs hu hd ht hf hk h;obtain⟨hrun,h|h⟩:=h
  .obtain⟨b,htar,hb,hl⟩:=h;have h1:=step_collected (P:=P) (cs:=cs) hd htar hb (hu▸hrun);obtain⟨e',w'',fr',hR',hs',hfn',hl'⟩:=ih u _ {fr with defers:=ds} cs hu rfl ht hf hk hl;exact⟨e',w'',fr',hR',Comes.of_steps (.one h1) hs',hfn',hl'⟩
  obtain⟨fv,cap,g,args,htar,hinv,hcall⟩:=h;have h1:=step_defer (cs:=cs) (hu▸hrun) hd htar hinv;obtain⟨e,u',w',frX,hR,hsteps,hkX,hgo⟩:=hcall {fr with defers:=ds} cs hu;cases e with
  |returned v=>
   have h2:=step_going_returned (c:={{fr with defers:=ds} with mode:=u'}) (cs:=cs) hkX hgo;obtain⟨e',w'',fr',hR',hs',hfn',hl'⟩:=ih (settle u') w' {{{fr with defers:=ds} with mode:=u'} with mode:=settle u'} cs rfl rfl ht hf hk hR;exact⟨e',w'',fr',hR',Comes.of_steps (.head h1 (Steps.trans hsteps (.one h2))) hs',hfn',hl'⟩
  |panicked chain=>
   have h2:=step_going_panicked (c:={{fr with defers:=ds} with mode:=u'}) (cs:=cs) hgo;obtain⟨e',w'',fr',hR',hs',hfn',hl'⟩:=ih (raised u' chain) w' {{{fr with defers:=ds} with mode:=u'} with mode:=raised u' chain} cs rfl rfl ht hf hk hR;exact⟨e',w'',fr',hR',Comes.of_steps (.head h1 (Steps.trans hsteps (.one h2))) hs',hfn',hl'⟩
  |outgrown=>exact hR.elim
theorem Nf{q:FuncId}{F:Func}{vs:List Value}{R:Ending->World->Prop}(hf:P.funcs[q]?=some F)(hb:F.body=some c)(hn:F.ntmps=N)(hv:vs.length<=N)(h:WT P ⟨q,none,[]⟩ N [.code c] (Avq P F N R) (fr0 vs) w):Calls P q ⟨vs⟩ w R:=by
 intro cs;let b:Frame:={(default:Frame) with fn:=q,kind:=.normal,roundOf:=none}
 have henter:Frame.enter P q ⟨vs⟩ .normal=b.atR ⟨(vs++List.replicate (N-vs.length) undef).toArray,[]⟩ [.code c]:=by simp [Frame.enter,Frame.atR,hf,hb,hn,b]
 obtain⟨e,w',hR,hc⟩:=h b cs (vs++List.replicate (N-vs.length) undef).toArray ⟨by simp;omega,λi=>by
  rw[<-Sg,Array.getD_eq_getD_getElem?,List.getElem?_toArray];by_cases hi:i<vs.length
  .rw[List.getElem?_append_left hi]
  .rw[List.getElem?_append_right (by omega),List.getElem?_eq_none (l:=vs) (by omega),List.getElem?_replicate];split<;>rfl⟩ rfl rfl rfl
 rw[<-henter]at hc;cases e with
 |pan ch f' ds=>
  obtain⟨a,td,ha,hs⟩:=hc;obtain⟨e',w'',fr',hR',hs',hfn',hl'⟩:=Aol ds (.panicking ch) w' {b.atR ⟨a,ds⟩ td with mode:=.panicking ch} cs rfl rfl ha hf rfl hR;exact⟨e',w'',fr',hR',Comes.of_steps hs hs',hfn',hl'⟩
 |lv j f' ds=>
  obtain⟨a,td,ha,hj,hs⟩:=hc;have fin:step P (lone (b.atR ⟨a,ds⟩ td) cs w')=.next (lone {b.atR ⟨a,ds⟩ td with mode:=.returning} cs w')->Lv P F N f' R ds .returning w'->∃e w' fr,R e w'/\Comes P (lone (Frame.enter P q ⟨vs⟩ .normal) cs w) (lone fr cs w') e/\fr.fn=q/\fr.leaving P w' e:=λhst hl=>by obtain⟨e',w'',fr',hR',hs',hfn',hl'⟩:=Aol ds .returning w' {b.atR ⟨a,ds⟩ td with mode:=.returning} cs rfl rfl ha hf rfl hl;exact⟨e',w'',fr',hR',Comes.of_steps (hs.trans (.one hst)) hs',hfn',hl'⟩
  cases j with
  |none=>obtain rfl:td=[]:=hj;exact fin (stepR_end rfl) hR
  |some j=>
   cases j with
   |ret=>obtain⟨k',rfl⟩:=hj;exact fin (stepR_ret rfl) hR
   |_=>exact hR.elim
section
variable {R:Xit->World->Prop} {Rp:List PanicEntry->World->Prop} {ops:Array Oper} {S:World->Prop} {n:Nat} {l:Array Bool} {E:List Nat} {w1:World} {V:Act->World->Prop}
def OpA(P:Program)(ops:Array Oper)(R:List PanicEntry->World->Prop)(i:Nat)(K:Act->World->Prop)(a:Act)(w:World):Prop:=match ops[i]? with
 |none=>False
 |some o=>if Region.wanted o (yielded ops a.tmps) then UP P R false (λv w'=>K (a.put o.dst v) w') ((execOp a.eval o).run P w) else K (a.put o.dst undef) w
theorem OpA.mono{i:Nat}{K K':Act->World->Prop}{a:Act}{w:World}(hK:∀a w,K a w->K' a w)(h:OpA P ops Rp i K a w):OpA P ops Rp i K' a w:=by
 unfold OpA at *;split at h
 .exact h.elim
 .split at h
  .rename_i hw;rw[if_pos hw];exact h.mono λv w=>hK _ _
  .rename_i hw;rw[if_neg hw];exact hK _ _ h
def Aia(P:Program)(ops:Array Oper)(R:List PanicEntry->World->Prop)(V:Act->World->Prop)(S:World->Prop):Nat->Array Bool->Act->World->Prop
 |0,l,a,w=>Region.ready .any ops l=[]/\V a w
 |n+1,l,a,w=>(Region.ready .any ops l=[]->V a w)/\∀i∈Region.ready .any ops l,OpA P ops R i (λa' w'=>S w'/\Aia P ops R V S n (l.setIfInBounds i true) a' w') a w
def Ajh(P:Program)(ops:Array Oper)(R:List PanicEntry->World->Prop)(V:Act->World->Prop)(S:World->Prop)(E:List Nat)(w1:World):Nat->Array Bool->Act->World->Prop
 |0,l,a,w=>Region.ready .any ops l=[]/\V a w
 |n+1,l,a,w=>(Region.ready .any ops l=[]->V a w)/\∀i∈Region.ready .any ops l,
  OpA P ops R i (λa' w'=>if E.contains i then S w'/\Aia P ops R V S n (l.setIfInBounds i true) a' w' else w'=w1/\Ajh P ops R V S E w1 n (l.setIfInBounds i true) a' w') a w
theorem Akd(hS:S w1):∀(n:Nat)(l:Array Bool)(a:Act)(w:World),Ajh P ops Rp V S E w1 n l a w->Aia P ops Rp V S n l a w
 |0,_,_,_,h=>h
 |n+1,l,a,w,h=>⟨h.1,λi hi=>(h.2 i hi).mono λa' w' h'=>by
  by_cases hE:E.contains i=true
  .rw[if_pos hE]at h';exact h'
  .rw[if_neg hE]at h';exact⟨h'.1▸hS,Akd hS n _ a' w' h'.2⟩⟩
def WG(P:Program)(φ:FK)(N:Nat)(ops:Array Oper)(k:List Item)(R:Xit->World->Prop)(S:World->Prop)(n:Nat)(l:Array Bool)(f:Fr)(w:World):Prop:=∀a,Is N a f->Aia P ops (φ.at R) (λa w=>a.defers=φ.ds/\∃f,Is N a.tmps f/\WT P φ N k R f w) S n l ⟨a,φ.ds⟩ w
theorem Xn{a:Act}{d:Option Tmp}{v:Value}:(a.put d v).defers=a.defers:=by cases d<;>rfl
theorem Acw{a:Act}{d:Option Tmp}{v:Value}:(a.put d v).tmps.size=a.tmps.size:=by cases d<;>simp [Act.put]
theorem Xl:∀(n:Nat)(l:Array Bool)(a:Act)(w:World),a.defers=φ.ds->a.tmps.size=N->Aia P ops (φ.at R) (λa w=>a.defers=φ.ds/\∃f,Is N a.tmps f/\WT P φ N k R f w) S n l a w->wpAnyIn φ.T7 0 P .any ops (Qx P φ N k R) n l a w
 |0,_,_,_,_,_,h=>h
 |n+1,l,⟨a,_⟩,w,hd,hz,h=>by
  simp only at hd;subst hd;refine⟨h.1,λi hi=>?_⟩;have h1:=h.2 i hi;unfold OpA at h1;unfold wpOpIn;split at h1
  .exact h1.elim
  .rename_i o ho;simp only[ho];split at h1
   .rename_i hw;simp only[hw,if_true];exact Afr (λch w h=>⟨_,A5q hz,h _⟩) (λv w' h'=>Xl n _ _ _ Xn (Acw.trans hz) h'.2) h1
   .rename_i hw;simp only[hw,if_false,Bool.false_eq_true];exact⟨λ_ _=>trivial,Xl n _ _ _ Xn (Acw.trans hz) h1.2⟩
theorem Arr{id m:Nat}{l:Array Bool}(S:World->Prop)(hm:P.follows .mixedOrders=true)(hn:ops.size=m)(hl:Array.replicate m false=l)(h:WG P φ N ops k R S m l f {w with drawn:=w.drawn+1}):WT P φ N (.code (.region id ops true)::k) R f w:=
 Am1 λa ha=>wpIn_region_any hm (by subst hn hl;exact Xl _ _ _ _ rfl ha.1 (h a ha))
theorem Xx{i:Nat}{o:Oper}{K:Fr->World->Prop}{K':Act->World->Prop}{ds:List Deferred}{a:Array Value}(ha:Is N a f)(hi:ops[i]?=some o)(hK:∀f' w' a',Is N a' f'->K f' w'->K' ⟨a',ds⟩ w')(h:WL P N ops Rp false K [o] f w):OpA P ops Rp i K' ⟨a,ds⟩ w:=by
 unfold OpA;simp only[hi];simp only[WL]at h;rw[Afp ha];have next:∀v w',K (put N f o.dst v) w'->K' (Act.put ⟨a,ds⟩ o.dst v) w':=λv w' h'=>by obtain⟨a',h1,h2⟩:=ha.put o.dst v;rw[h1];exact hK _ _ _ h2 h'
 split at h
 .rename_i hw;simp only[hw,if_true];rw[Kt ha];exact h.mono next
 .rename_i hw;simp only[hw,if_false,Bool.false_eq_true];exact next _ _ h
end
end
section
abbrev Reg:=Nat->Prop
abbrev Own:=List (Nat×Obj)
structure Ext(I:Reg)(w:World)(I':Reg)(w':World):Prop where
 os:w'.os=w.os
 tape:w'.tape=w.tape
 output:w'.output=w.output
 size:w.heap.size<=w'.heap.size
 sub:∀b,I b->I' b
 Cq:∀b,I b->w'.heap[b]?=w.heap[b]?
theorem Ext.refl(I:Reg)(w:World):Ext I w I w:=⟨rfl,rfl,rfl,Nat.le_refl _,λ_ h=>h,λ_ _=>rfl⟩
variable {I:Reg} {w w':World}
theorem Ext.trans{I' I'':Reg}{w'':World}(h:Ext I w I' w')(k:Ext I' w' I'' w''):Ext I w I'' w'':=⟨k.os.trans h.os,k.tape.trans h.tape,k.output.trans h.output,Nat.le_trans h.size k.size,λb hb=>k.sub b (h.sub b hb),λb hb=>(k.Cq b (h.sub b hb)).trans (h.Cq b hb)⟩
structure St(I:Reg)(w:World)(T:Own):Prop where
 imm:∀b,I b->b<w.heap.size
 own:∀p∈T,w.heap[p.1]?=some p.2/\¬I p.1
 nodup:(T.map (·.1)).Nodup
variable {T:Own}
theorem St.perm{T':Own}(h:St I w T)(hp:T.Perm T'):St I w T':=⟨h.imm,λp hm=>h.own p (hp.symm.mem_iff.1 hm),(hp.map _).nodup_iff.1 h.nodup⟩
theorem St.Aip{A B:Own}(h:St I w (A++(B++T))):St I w (B++(A++T)):=
 h.perm (by rw[<-List.append_assoc,<-List.append_assoc];exact List.perm_append_comm.append_right _)
theorem St.drop{A:Own}(h:St I w (A++T)):St I w T:=
 ⟨h.imm,λp hm=>h.own p (List.mem_append_right _ hm),by have:=h.nodup;rw[List.map_append,List.nodup_append]at this;exact this.2.1⟩
theorem St.freeze{I:Reg}{w:World}{A T:Own}(h:St I w (A++T)):Ext I w (λb=>I b∨∃p∈A,p.1=b) w/\St (λb=>I b∨∃p∈A,p.1=b) w T:=by
 refine⟨⟨rfl,rfl,rfl,Nat.le_refl _,λ_ hb=>.inl hb,λ_ _=>rfl⟩,?_,?_,h.drop.nodup⟩
 .rintro b (hb|⟨p,hp,rfl⟩)
  .exact h.imm b hb
  .have:=(h.own p (List.mem_append_left _ hp)).1;exact(Array.getElem?_eq_some_iff.1 this).1
 .intro p hp;refine⟨(h.own p (List.mem_append_right _ hp)).1,?_⟩;rintro(hb|⟨q,hq,he⟩)
  .exact(h.own p (List.mem_append_right _ hp)).2 hb
  .have hn:=h.nodup;rw[List.map_append,List.nodup_append]at hn;exact hn.2.2 q.1 (List.mem_map_of_mem hq) p.1 (List.mem_map_of_mem hp) he
theorem World.Aiu(w:World)(o:Obj):(w.alloc o).heap[w.heap.size]?=some o:=by show (w.heap.push o)[w.heap.size]?=_;rw[Array.getElem?_push,if_pos rfl]
theorem St.alloc(h:St I w T)(o:Obj):Ext I w I (w.alloc o)/\St I (w.alloc o) ([(w.heap.size,o)]++T):=by
 have hk:∀b,b<w.heap.size->(w.alloc o).heap[b]?=w.heap[b]?:=λb hb=>Below.heap_alloc w o b hb;have hs:∀p∈T,p.1<w.heap.size:=λp hp=>(Array.getElem?_eq_some_iff.1 (h.own p hp).1).1;refine⟨⟨rfl,rfl,rfl,by simp,λ_ hb=>hb,λb hb=>hk b (h.imm b hb)⟩,?_,?_,?_⟩
 .intro b hb;have:=h.imm b hb;simp;omega
 .intro p hp;rcases List.mem_append.1 hp with hp|hp
  .obtain rfl:p=(w.heap.size,o):=by simpa using hp
   refine⟨World.Aiu w o,λhb=>?_⟩;have:=h.imm _ hb;simp at this
  .exact⟨by rw[hk _ (hs p hp)];exact(h.own p hp).1,(h.own p hp).2⟩
 .simp only[List.cons_append,List.nil_append,List.map_cons,List.nodup_cons];refine⟨λhm=>?_,h.nodup⟩;obtain⟨p,hp,he⟩:=List.mem_map.1 hm;have:=hs p hp;omega
theorem St.write{b:Nat}{o o':Obj}(h:St I w ([(b,o)]++T))(hos:w'.os=w.os)(ht:w'.tape=w.tape)(hout:w'.output=w.output)(hs:w'.heap.size=w.heap.size)(hb:w'.heap[b]?=some o')(hne:∀c,c≠b->w'.heap[c]?=w.heap[c]?):Ext I w I w'/\St I w' ([(b,o')]++T):=by
 have hI:∀c,I c->c≠b:=λc hc e=>by subst e;exact(h.own (c,o) (by simp)).2 hc
 have hn:=h.nodup;simp only[List.cons_append,List.nil_append,List.map_cons,List.nodup_cons]at hn;refine⟨⟨hos,ht,hout,by omega,λ_ h=>h,λc hc=>hne c (hI c hc)⟩,λc hc=>by rw[hs];exact h.imm c hc,?_,by simpa using hn⟩;intro p hp;simp only[List.cons_append,List.nil_append,List.mem_cons]at hp;rcases hp with rfl|hp
 .exact⟨hb,(h.own (b,o) (by simp)).2⟩
 .have hpb:p.1≠b:=λe=>hn.1 (by rw[<-e];exact List.mem_map_of_mem hp);have:=h.own p (by simp [hp]);exact⟨by rw[hne _ hpb];exact this.1,this.2⟩
theorem St.drew(h:St I w T)(n:Nat):Ext I w I {w with drawn:=n}/\St I {w with drawn:=n} T:=
 ⟨⟨rfl,rfl,rfl,Nat.le_refl _,λ_ h=>h,λ_ _=>rfl⟩,h.imm,h.own,h.nodup⟩
def E3(w:World)(a:Addr)(v:Value):Prop:=a.spot=none/\∀j,j<v.cells.size->w.cell? ⟨a.block,a.off+j,none⟩=v.cells[j]?
theorem cell?_of_heap{a:Addr}(h:w'.heap[a.block]?=w.heap[a.block]?):w'.cell? a=w.cell? a:=by simp only[World.cell?,h]
theorem E3.mono{I I':Reg}{w w':World}{a:Addr}{v:Value}(h:Ext I w I' w')(ha:I a.block)(hp:E3 w a v):E3 w' a v:=⟨hp.1,λj hj=>(cell?_of_heap (a:=⟨a.block,a.off+j,none⟩) (h.Cq _ ha)).trans (hp.2 j hj)⟩
def Vw:Nat:=9223372036854775807
class Rep(α:Type) where
 size:Nat
 agg:Bool
 rep:Reg->World->Value->α->Prop
 pos:0<size
 cells:∀{I w v x},rep I w v x->v.cells.size=size
 form:∀{I w v x},rep I w v x->if agg then ∃cs,v=.agg cs else v.cells=#[v]
 one:∀{I w v x},rep I w v x->∀c∈v.cells.toList,c.oneCell'=true
 mono:∀{I w I' w' v x},Ext I w I' w'->rep I w v x->rep I' w' v x
abbrev rep{α:Type}[Rep α](I:Reg)(w:World)(v:Value)(x:α):Prop:=Rep.rep I w v x
theorem Ext.rep{α:Type}[Rep α]{I I':Reg}{w w':World}{v:Value}{x:α}(h:Ext I w I' w')(r:rep I w v x):X.rep I' w' v x:=Rep.mono h r
structure Azz(v:Value)(n:Int):Prop where
 eq:v=.int .i64 n
 lo:-9223372036854775808<=n
 hi:n<=9223372036854775807
instance:Rep Int where
 size:=1
 agg:=false
 rep _ _ v n:=Azz v n
 pos:=by decide
 cells h:=by rw[h.eq];rfl
 form h:=by rw[h.eq];simp [Value.cells]
 one h:=by rw[h.eq];simp [Value.cells,Value.oneCell']
 mono _ h:=h
instance:Rep Bool where
 size:=1
 agg:=false
 rep _ _ v b:=v=.bool b
 pos:=by decide
 cells h:=by subst h;rfl
 form h:=by subst h;simp [Value.cells]
 one h:=by subst h;simp [Value.cells,Value.oneCell']
 mono _ h:=h
instance:Rep ByteArray where
 size:=1
 agg:=false
 rep _ _ v s:=v=.string s/\s.size<=Vw
 pos:=by decide
 cells h:=by rw[h.1];rfl
 form h:=by rw[h.1];simp [Value.cells]
 one h:=by rw[h.1];simp [Value.cells,Value.oneCell']
 mono _ h:=h
def Atz{α:Type}[Rep α](I:Reg)(w:World)(a:Option Addr)(xs:List α):Prop:=xs=[]∨∃b off,a=some ⟨b,off,none⟩/\I b/\∀j(h:j<xs.length),∃v,rep I w v xs[j]/\E3 w ⟨b,off+j*Rep.size α,none⟩ v
theorem Atz.mono{α:Type}[Rep α]{I I':Reg}{w w':World}{a:Option Addr}{xs:List α}(h:Ext I w I' w')(e:Atz I w a xs):Atz I' w' a xs:=by
 rcases e with e|⟨b,off,ha,hb,he⟩
 .exact .inl e
 .refine .inr ⟨b,off,ha,h.sub b hb,λj hj=>?_⟩;obtain⟨v,hv,hp⟩:=he j hj;exact⟨v,h.rep hv,E3.mono h hb hp⟩
structure Apv{α:Type}[Rep α](I:Reg)(w:World)(v:Value)(xs:List α):Prop where
 ex:∃a cap,v=.slice a xs.length cap/\xs.length<=cap/\cap<=Vw/\Atz I w a xs
instance {α:Type} [Rep α]:Rep (List α) where
 size:=1
 agg:=false
 rep I w v xs:=Apv I w v xs
 pos:=by decide
 cells h:=by obtain⟨a,cap,h,_⟩:=h.ex;rw[h];rfl
 form h:=by obtain⟨a,cap,h,_⟩:=h.ex;rw[h];simp [Value.cells]
 one h:=by obtain⟨a,cap,h,_⟩:=h.ex;rw[h];simp [Value.cells,Value.oneCell']
 mono h r:=by obtain⟨a,cap,h1,h2,h3,h4⟩:=r.ex;exact⟨a,cap,h1,h2,h3,h4.mono h⟩
theorem Ar8{α:Type}[Rep α]{I:Reg}{w:World}{a:Option Addr}{cap:Nat}(h:cap<=Vw):rep I w (.slice a 0 cap) ([]:List α):=⟨a,cap,rfl,Nat.zero_le _,h,.inl rfl⟩
end
section
section
variable {P:Program} {N:Nat} {ops:Array Oper} {R:List PanicEntry->World->Prop} {m:Bool} {K:Fr->World->Prop} {os:List Oper} {f:Fr} {w:World}
variable {dst:Option Tmp} {ty:TypeId} {pos:String} {af:Array Edge}
variable {op:Op}
theorem Ax{v:Value}{w':World}(hr:(execOp (ev f) ⟨dst,op,ty,pos,af,none⟩).run P w=.ok (.value v) w')(h:WL P N ops R m K os (put N f dst v) w'):WL P N ops R m K (⟨dst,op,ty,pos,af,none⟩::os) f w:=by simp only[WL,Region.wanted,if_true,hr,UP];exact h
theorem Uj{w':World}(hr:(execOp (ev f) ⟨dst,op,ty,pos,af,none⟩).run P w=.ok .skip w')(h:WL P N ops R false K os (put N f dst undef) w'):WL P N ops R false K (⟨dst,op,ty,pos,af,none⟩::os) f w:=by simp only[WL,Region.wanted,if_true,hr,UP];exact⟨trivial,h⟩
theorem Av2{g:Nat×Bool}(hg:Region.wanted ⟨dst,op,ty,pos,af,some g⟩ (yl ops f)=true)(h:WL P N ops R m K (⟨dst,op,ty,pos,af,none⟩::os) f w):WL P N ops R m K (⟨dst,op,ty,pos,af,some g⟩::os) f w:=by simp only[WL,Region.wanted,if_true]at h;simp only[WL,hg,if_true];exact h
theorem Art{o:Oper}(hg:Region.wanted o (yl ops f)=false)(h:WL P N ops R m K os (put N f o.dst undef) w):WL P N ops R m K (o::os) f w:=by simp only[WL,hg,Bool.false_eq_true,if_false];exact h
theorem Asi{c a b:Operand}(v:Value)(hc:ev f c=.bool true)(hx:ev f a=v)(h:WL P N ops R m K os (put N f dst v) w):WL P N ops R m K (⟨dst,.pick c a b,ty,pos,af,none⟩::os) f w:=
 Ax (by simp [execOp,hc,asBool,hx]) h
theorem Asj{c a b:Operand}(v:Value)(hc:ev f c=.bool false)(hx:ev f b=v)(h:WL P N ops R m K os (put N f dst v) w):WL P N ops R m K (⟨dst,.pick c a b,ty,pos,af,none⟩::os) f w:=
 Ax (by simp [execOp,hc,asBool,hx]) h
variable {x y:Operand} {kd:IntKind} {a b:Int} {t u:TypeId}
variable {op:BinOp}
theorem Au6(w:World):(eqGuard op t x y (.int kd a) (.int kd b)).run P w=.ok () w:=by simp only[eqGuard];cases op<;>simp
theorem Abn{v:Value}(hx:ev f x=.int kd a)(hy:ev f y=.int kd b)(hv:(binOp op t (.int kd a) (.int kd b)).run P w=.ok v w)(h:WL P N ops R m K os (put N f dst v) w):WL P N ops R m K (⟨dst,.binOp op t x y u,ty,pos,af,none⟩::os) f w:=
 Ax (by simp only[execOp,hx,hy,Sem.run_bind,Au6,Result.andThen_ok,hv,Sem.run_pure]) h
theorem Asm(hx:ev f x=.int kd a)(hy:ev f y=.int kd b)(h:WL P N ops R m K os (put N f dst (.int kd (kd.wrap (a+b)))) w):WL P N ops R m K (⟨dst,.binOp .add t x y u,ty,pos,af,none⟩::os) f w:=Abn hx hy (by simp [binOp,Op.intArith]) h
theorem A26(hx:ev f x=.int kd a)(hy:ev f y=.int kd b)(h:WL P N ops R m K os (put N f dst (.int kd (kd.wrap (a-b)))) w):WL P N ops R m K (⟨dst,.binOp .sub t x y u,ty,pos,af,none⟩::os) f w:=Abn hx hy (by simp [binOp,Op.intArith]) h
theorem A29(hx:ev f x=.int kd a)(hy:ev f y=.int kd b)(h:WL P N ops R m K os (put N f dst (.int kd (kd.wrap (a*b)))) w):WL P N ops R m K (⟨dst,.binOp .mul t x y u,ty,pos,af,none⟩::os) f w:=Abn hx hy (by simp [binOp,Op.intArith]) h
theorem Afb{n:Int}(h1:-9223372036854775808<=n)(h2:n<=9223372036854775807):IntKind.i64.wrap n=n:=IntWalk.i64_in _ ⟨h1,h2⟩
def Apg:BinOp->Int->Int->Prop
 | .eql,a,b=>a=b
 | .neq,a,b=>a≠b
 | .lss,a,b=>a<b
 | .leq,a,b=>a<=b
 | .gtr,a,b=>b<a
 | .geq,a,b=>b<=a
 |_,_,_=>False
instance (op:BinOp) (a b:Int):Decidable (Apg op a b):=by cases op<;>simp only[Apg]<;>infer_instance
def W1:BinOp->Bool
 | .eql | .neq | .lss | .leq | .gtr | .geq=>true
 |_=>false
theorem A0n(ho:W1 op=true):(binOp op t (.int kd a) (.int kd b)).run P w=.ok (.bool (decide (Apg op a b))) w:=by
 cases op<;>first|(simp [W1]at ho;done)|skip
 all_goals simp only[binOp,Op.intCmp,Apg,ne_eq,not_true_eq_false,if_false,Sem.run_pure]
 all_goals first|rfl|(congr 2;rw[Bool.eq_iff_iff];exact⟨λh=>decide_eq_true (by simpa using h),λh=>by simpa using of_decide_eq_true h⟩)
theorem A4w(ho:W1 op=true)(hx:ev f x=.int kd a)(hy:ev f y=.int kd b)(h:WL P N ops R m K os (put N f dst (.bool (decide (Apg op a b)))) w):WL P N ops R m K (⟨dst,.binOp op t x y u,ty,pos,af,none⟩::os) f w:=Abn hx hy (A0n ho) h
theorem Ajz(ho:W1 op=true)(hx:ev f x=.int kd a)(hy:ev f y=.int kd b)(h1:Apg op a b->WL P N ops R m K os (put N f dst (.bool true)) w)(h0:¬Apg op a b->WL P N ops R m K os (put N f dst (.bool false)) w):WL P N ops R m K (⟨dst,.binOp op t x y u,ty,pos,af,none⟩::os) f w:=by
 refine A4w ho hx hy ?_;by_cases hc:Apg op a b
 .simpa only[hc,decide_true] using h1 hc
 .simpa only[hc,decide_false] using h0 hc
section
variable (hx:ev f x=.int kd a) (hy:ev f y=.int kd b)
include hx hy
theorem A7x(h1:a<b->WL P N ops R m K os (put N f dst (.bool true)) w)(h0:¬a<b->WL P N ops R m K os (put N f dst (.bool false)) w):WL P N ops R m K (⟨dst,.binOp .lss t x y u,ty,pos,af,none⟩::os) f w:=Ajz rfl hx hy h1 h0
theorem A7y(h1:a<=b->WL P N ops R m K os (put N f dst (.bool true)) w)(h0:¬a<=b->WL P N ops R m K os (put N f dst (.bool false)) w):WL P N ops R m K (⟨dst,.binOp .leq t x y u,ty,pos,af,none⟩::os) f w:=Ajz rfl hx hy h1 h0
theorem A7z(h1:b<a->WL P N ops R m K os (put N f dst (.bool true)) w)(h0:¬b<a->WL P N ops R m K os (put N f dst (.bool false)) w):WL P N ops R m K (⟨dst,.binOp .gtr t x y u,ty,pos,af,none⟩::os) f w:=Ajz rfl hx hy h1 h0
theorem A70(h1:b<=a->WL P N ops R m K os (put N f dst (.bool true)) w)(h0:¬b<=a->WL P N ops R m K os (put N f dst (.bool false)) w):WL P N ops R m K (⟨dst,.binOp .geq t x y u,ty,pos,af,none⟩::os) f w:=Ajz rfl hx hy h1 h0
theorem A73(h1:a=b->WL P N ops R m K os (put N f dst (.bool true)) w)(h0:¬a=b->WL P N ops R m K os (put N f dst (.bool false)) w):WL P N ops R m K (⟨dst,.binOp .eql t x y u,ty,pos,af,none⟩::os) f w:=Ajz rfl hx hy h1 h0
theorem A7u(h1:¬a=b->WL P N ops R m K os (put N f dst (.bool true)) w)(h0:a=b->WL P N ops R m K os (put N f dst (.bool false)) w):WL P N ops R m K (⟨dst,.binOp .neq t x y u,ty,pos,af,none⟩::os) f w:=Ajz rfl hx hy h1 (λh=>h0 (Decidable.of_not_not h))
theorem Axl(h:WL P N ops R m K os (put N f dst (.bool (decide (a<b)))) w):WL P N ops R m K (⟨dst,.binOp .lss t x y u,ty,pos,af,none⟩::os) f w:=A7x hx hy (λc=>by simpa only[c,decide_true] using h) (λc=>by simpa only[c,decide_false] using h)
theorem A4s(h:WL P N ops R m K os (put N f dst (.bool (decide (a<=b)))) w):WL P N ops R m K (⟨dst,.binOp .leq t x y u,ty,pos,af,none⟩::os) f w:=A7y hx hy (λc=>by simpa only[c,decide_true] using h) (λc=>by simpa only[c,decide_false] using h)
theorem A4t(h:WL P N ops R m K os (put N f dst (.bool (decide (b<a)))) w):WL P N ops R m K (⟨dst,.binOp .gtr t x y u,ty,pos,af,none⟩::os) f w:=A7z hx hy (λc=>by simpa only[c,decide_true] using h) (λc=>by simpa only[c,decide_false] using h)
theorem A4u(h:WL P N ops R m K os (put N f dst (.bool (decide (b<=a)))) w):WL P N ops R m K (⟨dst,.binOp .geq t x y u,ty,pos,af,none⟩::os) f w:=A70 hx hy (λc=>by simpa only[c,decide_true] using h) (λc=>by simpa only[c,decide_false] using h)
theorem A4v(h:WL P N ops R m K os (put N f dst (.bool (decide (a=b)))) w):WL P N ops R m K (⟨dst,.binOp .eql t x y u,ty,pos,af,none⟩::os) f w:=A73 hx hy (λc=>by simpa only[c,decide_true] using h) (λc=>by simpa only[c,decide_false] using h)
theorem Axk(h:WL P N ops R m K os (put N f dst (.bool (!decide (a=b)))) w):WL P N ops R m K (⟨dst,.binOp .neq t x y u,ty,pos,af,none⟩::os) f w:=A7u hx hy (λc=>by simpa only[c,decide_false,Bool.not_false] using h) (λc=>by simpa only[c,decide_true,Bool.not_true] using h)
end
theorem Am3{R:Xit->World->Prop}{φ:FK}{k:List Item}{c:Operand}{x y:Code}{p:Prop}[Decidable p](hc:ev f c=.bool (decide p))(h1:p->WT P φ N (.code x::k) R f w)(h0:¬p->WT P φ N (.code y::k) R f w):WT P φ N (.code (.cond c x y)::k) R f w:=Akz hc (λh=>h1 (of_decide_eq_true h)) (λh=>h0 (of_decide_eq_false h))
variable {c:Bool}
theorem A27(hx:ev f x=.bool c)(h:WL P N ops R m K os (put N f dst (.bool (!c))) w):WL P N ops R m K (⟨dst,.unOp .not t x,ty,pos,af,none⟩::os) f w:=
 Ax (by simp [execOp,hx,Op.unary]) h
theorem A28(hx:ev f x=.int kd a)(h:WL P N ops R m K os (put N f dst (.int kd (kd.wrap (0-a)))) w):WL P N ops R m K (⟨dst,.unOp .neg t x,ty,pos,af,none⟩::os) f w:=
 Ax (by simp [execOp,hx,Op.unary,Op.intArith]) h
theorem run_equalIn_bool(n:Nat)(c d:Bool)(ht:P.underlying t=some .bool):(Op.equalIn (n+1) t (.bool c) (.bool d)).run P w=.ok (c == d) w:=by simp [Op.equalIn,run_underlying ht]
variable {d:Bool}
theorem run_eql_bool(ht:P.underlying t=some .bool):(binOp .eql t (.bool c) (.bool d)).run P w=.ok (.bool (c == d)) w:=by simp only[binOp,Op.equal,Sem.run_bind,Op.maxDepth,run_equalIn_bool 9999 c d ht,Result.andThen_ok,Sem.run_pure]
theorem run_neq_bool(ht:P.underlying t=some .bool):(binOp .neq t (.bool c) (.bool d)).run P w=.ok (.bool (!(c == d))) w:=by simp only[binOp,Op.equal,Sem.run_bind,Op.maxDepth,run_equalIn_bool 9999 c d ht,Result.andThen_ok,Sem.run_pure]
theorem Ag8{op:BinOp}(w:World):(eqGuard op t x y (.bool c) (.bool d)).run P w=.ok () w:=by simp only[eqGuard];cases op<;>simp
theorem A74(hx:ev f x=.bool c)(hy:ev f y=.bool d)(ht:P.underlying t=some .bool)(h:WL P N ops R m K os (put N f dst (.bool (c==d))) w):WL P N ops R m K (⟨dst,.binOp .eql t x y u,ty,pos,af,none⟩::os) f w:=
 Ax (by simp only[execOp,hx,hy,Sem.run_bind,Ag8,Result.andThen_ok,run_eql_bool ht,Sem.run_pure]) h
theorem A7w(hx:ev f x=.bool c)(hy:ev f y=.bool d)(ht:P.underlying t=some .bool)(h:WL P N ops R m K os (put N f dst (.bool (!(c==d)))) w):WL P N ops R m K (⟨dst,.binOp .neq t x y u,ty,pos,af,none⟩::os) f w:=
 Ax (by simp only[execOp,hx,hy,Sem.run_bind,Ag8,Result.andThen_ok,run_neq_bool ht,Sem.run_pure]) h
theorem Auv{vs:Array Value}{i:Nat}{v:Value}(hx:ev f x=.tuple vs)(hv:vs[i]?=some v)(h:WL P N ops R m K os (put N f dst v) w):WL P N ops R m K (⟨dst,.extract x i,ty,pos,af,none⟩::os) f w:=Ax (by simp [execOp,hx,Instr.extract,hv]) h
variable {vs:List Value}
theorem Agk{g:Fn}{fs cs:Array Operand}{us:List Value}(hf:fs.toList.map (ev f)=vs)(hc:cs.toList.map (ev f)=us)(h:WL P N ops R m K os (put N f dst (.func g ⟨vs⟩ ⟨us⟩)) w):WL P N ops R m K (⟨dst,.makeFunc g fs cs,ty,pos,af,none⟩::os) f w:=
 Ax (by subst hf hc;simp [execOp,Instr.makeFunc];exact⟨by rw[<-Array.toList_map],by rw[<-Array.toList_map]⟩) h
theorem Z4{a:Addr}(hx:ev f x=.pointer (some a))(h:WL P N ops R m K os (put N f dst (.pointer (some a))) w):WL P N ops R m K (⟨dst,.nilCheck x,ty,pos,af,none⟩::os) f w:=
 Ax (by simp [execOp,hx]) h
def En(P:Program)(g:FuncId):Bool:=match P.funcs[g]? with
 |some F=>F.name != "runtime.NumGoroutine"&&F.body.isSome
 |none=>false
variable {g:FuncId}
theorem Tz{vs:Array Value}(hg:En P g=true):(callFunc g vs).run P w=.ok (.enter g vs) w:=by
 unfold En at hg;cases h:P.funcs[g]? with
 |none=>simp [h]at hg
 |some F=>
  simp only[h,Bool.and_eq_true,bne_iff_ne,ne_eq]at hg;have h2:F.body.isNone=false:=by
   cases hb:F.body with
   |none=>rw[hb]at hg;exact absurd hg.2 (by decide)
   |some c=>rfl
  have h1:(F.name== "runtime.NumGoroutine")=false:=by simpa using hg.1
  simp only[callFunc,Sem.run_bind,run_program,Result.andThen_ok,h,h1,h2,Bool.false_eq_true,if_false,Sem.run_pure]
theorem Agp{as:Array Operand}{at_:Array TypeId}(hg:En P g=true)(ha:as.toList.map (ev f)=vs)(h:Calls P g ⟨vs⟩ w λe w'=>match e with
   | .returned v=>WL P N ops R false K os (put N f dst v) w'
   | .panicked ch=>R ch w'
   | .outgrown=>False):WL P N ops R false K (⟨dst,.call ⟨.value (.func g),as,at_⟩,ty,pos,af,none⟩::os) f w:=by
 have he:(execOp (ev f) ⟨dst,.call ⟨.value (.func g),as,at_⟩,ty,pos,af,none⟩).run P w=.ok (.enter g ⟨vs⟩) w:=by subst ha;simp [execOp,resolve,ev,Deferred.ofValue,invoke,Tz hg];rw[<-Array.toList_map]
 simp only[WL,Region.wanted,if_true,he,UP]
 exact⟨trivial,h⟩
theorem Asl{fv:Operand}{first captured:Array Value}{as:Array Operand}{at_:Array TypeId}(hv:ev f fv=.func (.func g) first captured)(hg:En P g=true)(ha:first.toList++as.toList.map (ev f)++captured.toList=vs)(h:Calls P g ⟨vs⟩ w λe w'=>match e with
   | .returned v=>WL P N ops R false K os (put N f dst v) w'
   | .panicked ch=>R ch w'
   | .outgrown=>False):WL P N ops R false K (⟨dst,.call ⟨.value fv,as,at_⟩,ty,pos,af,none⟩::os) f w:=by
 have he:(execOp (ev f) ⟨dst,.call ⟨.value fv,as,at_⟩,ty,pos,af,none⟩).run P w=.ok (.enter g ⟨vs⟩) w:=by subst ha;simp [execOp,resolve,hv,Deferred.ofValue,invoke,Tz hg]
 simp only[WL,Region.wanted,if_true,he,UP]
 exact⟨trivial,h⟩
end
end
section
def A5s:TypeDesc->Bool
 | .struct _ | .array _ _=>true
 |_=>false
def tyB(P:Program)(t:TypeId)(agg:Bool)(sz:Nat):Bool:=match P.underlying t,P.info? t with
 |some d,some i=>A5s d==agg&&i.size==sz
 |_,_=>false
def slB(P:Program)(t e:TypeId)(sz nb:Nat):Bool:=match P.underlying t,P.info? e with
 |some (.slice e'),some i=>e'==e&&i.size==sz&&i.bytes==nb&&(match i.zero with |some z=>z.cells.size==sz |none=>false)
 |_,_=>false
section
variable {P:Program} {w:World} {t e:TypeId} {sz nb:Nat}
theorem K4{agg:Bool}(h:tyB P t agg sz=true):(isAgg t).run P w=.ok agg w/\(sizeOf t).run P w=.ok sz w:=by
 unfold tyB at h;cases hu:P.underlying t with
 |none=>simp [hu]at h
 |some d=>
  cases hi:P.info? t with
  |none=>simp [hu,hi]at h
  |some i=>
   simp only[hu,hi,Bool.and_eq_true,beq_iff_eq]at h;obtain⟨rfl,rfl⟩:=h;refine⟨?_,by simp [sizeOf,typeInfo,hi]⟩;simp only[isAgg,Sem.run_bind,run_underlying hu,Result.andThen_ok];cases d<;>rfl
structure Slc(P:Program)(t e:TypeId)(sz nb:Nat):Prop where
 under:P.underlying t=some (.slice e)
 info:∃i z,P.info? e=some i/\i.size=sz/\i.bytes=nb/\i.zero=some z/\z.cells.size=sz
theorem Hy(h:slB P t e sz nb=true):Slc P t e sz nb:=by
 unfold slB at h;cases hu:P.underlying t with
 |none=>simp [hu]at h
 |some d=>
  cases hi:P.info? e with
  |none=>cases d<;>simp [hu,hi]at h
  |some i=>
   cases d<;>simp only[hu,hi,Bool.false_eq_true]at h;rename_i e';simp only[Bool.and_eq_true,beq_iff_eq]at h;obtain⟨⟨⟨rfl,h1⟩,h2⟩,h3⟩:=h;cases hz:i.zero with
   |none=>simp [hz]at h3
   |some z=>simp only[hz,beq_iff_eq]at h3;exact⟨hu,i,z,hi,h1,h2,hz,h3⟩
theorem Slc.size(h:Slc P t e sz nb):(sizeOf e).run P w=.ok sz w:=by obtain⟨i,z,hi,h1,_⟩:=h.info;simp [sizeOf,typeInfo,hi,h1]
theorem Gv(b o n:Nat):(⟨b,o,none⟩:Addr).add n=⟨b,o+n,none⟩:=by
 unfold Addr.add;split
 .subst n;rfl
 .rfl
theorem Wi{a:Addr}{v:Value}(hp:E3 w a v):(loadCells a v.cells.size).run P w=.ok v.cells w:=by
 obtain⟨b,o,s⟩:=a;obtain⟨hs,hp⟩:=hp;simp only at hs;subst hs;have:=run_loadCells_list (P:=P) (w:=w) ⟨b,o,none⟩ v.cells.toList (λj u hj=>by rw[Gv];rw[Array.getElem?_toList]at hj;have hlt:=(Array.getElem?_eq_some_iff.1 hj).1;rw[hp j hlt,hj])
 simpa using this
end
section
variable {P:Program} {N:Nat} {ops:Array Oper} {R:List PanicEntry->World->Prop} {m:Bool} {K:Fr->World->Prop} {os:List Oper} {f:Fr} {w:World}
variable {dst:Option Tmp} {ty:TypeId} {pos:String} {af:Array Edge} {I:Reg} {T:Own} {x y:Operand} {t e u:TypeId} {sz nb:Nat}
def flB(P:Program)(t:TypeId)(i off:Nat):Bool:=match P.underlying t with
 |some (.struct fs)=>match fs[i]? with
  |some fd=>fd.offset==off&&(match P.info? fd.type with |some j=>j.size != 0 |none=>false)
  |none=>false
 |_=>false
theorem A1x{i off:Nat}(h:flB P t i off=true){a:Addr}:(Instr.fieldAt t (.pointer (some a)) i).run P w=.ok (.pointer (some (a.add off))) w:=by
 unfold flB at h;cases hu:P.underlying t with
 |none=>simp [hu]at h
 |some d=>
  cases d<;>simp only[hu,Bool.false_eq_true]at h;rename_i fs;cases hf:fs[i]? with
  |none=>simp [hf]at h
  |some fd=>
   simp only[hf]at h;cases hi:P.info? fd.type with
   |none=>simp [hi]at h
   |some j=>
    simp only[hi,Bool.and_eq_true,beq_iff_eq,bne_iff_ne,ne_eq]at h;obtain⟨rfl,h0⟩:=h;simp [Instr.fieldAt,run_underlying hu,hf,Instr.sureAddr,fieldPlace,sizeOf,typeInfo,hi,h0]
end
end
end Go.X
