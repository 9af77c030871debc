/-
  The X layer, part k: structs as pairs of Lean, and maps that the call owns. (Merged by program out of 9 texts.)
-/
import Derived.WalkKit
import Derived.OrdersHeld
import Derived.OrdersIn
import Derived.RangeFuncRecord
import Derived.Carry
namespace Go.X
open Go Go.RowKit
section
abbrev Fr:=Nat->Value
def Is(N:Nat)(a:Array Value)(f:Fr):Prop:=a.size=N/\∀i,a.getD i undef=f i
structure FK where
 fn:FuncId
 ro:Option Nat
 ds:List Deferred
inductive Qy where
 |lv (j:Option Code) (f:Fr) (ds:List Deferred)
 |pan (ch:List PanicEntry) (f:Fr) (ds:List Deferred)
def A0o:Option Code->List Item->Prop
 |none,td=>td=[]
 |some .ret,td=>∃k,td=.code .ret::k
 |some (.exit id),td=>∃k,td=.code (.exit id)::k/\exitTo id k=none
 |_,_=>False
def Ends(P:Program)(N:Nat)(b:Frame)(cs:List Frame)(m:Machine):Qy->World->Prop
 | .lv j f ds,w=>∃a td,Is N a f/\A0o j td/\Steps P m (lone (b.atR ⟨a,ds⟩ td) cs w)
 | .pan ch f ds,w=>∃a td,Is N a f/\Steps P m (lone {b.atR ⟨a,ds⟩ td with mode:=.panicking ch} cs w)
def WT(P:Program)(φ:FK)(N:Nat)(todo:List Item)(R:Qy->World->Prop)(f:Fr)(w:World):Prop:=∀(b:Frame)(cs:List Frame)(a:Array Value),Is N a f->b.fn=φ.fn->b.kind=.normal->b.roundOf=φ.ro->∃e w',R e w'/\Ends P N b cs (lone (b.atR ⟨a,φ.ds⟩ todo) cs w) e w'
theorem Ends.of_steps{P:Program}{N:Nat}{b:Frame}{cs:List Frame}{m m':Machine}{e:Qy}{w:World}(s:Steps P m m')(h:Ends P N b cs m' e w):Ends P N b cs m e w:=by
 cases e with
 |lv j f ds=>obtain⟨a,td,h1,h2,h3⟩:=h;exact⟨a,td,h1,h2,s.trans h3⟩
 |pan ch f ds=>obtain⟨a,td,h1,h2⟩:=h;exact⟨a,td,h1,s.trans h2⟩
variable {P:Program} {φ:FK} {N:Nat} {k:List Item} {R:Qy->World->Prop} {f:Fr} {w:World}
theorem GG{todo todo':List Item}{w':World}(hs:∀(b:Frame)(cs:List Frame)(a:Array Value),Is N a f->b.kind=.normal->b.roundOf=φ.ro->step P (lone (b.atR ⟨a,φ.ds⟩ todo) cs w)=.next (lone (b.atR ⟨a,φ.ds⟩ todo') cs w'))(h:WT P φ N todo' R f w'):WT P φ N todo R f w:=by intro b cs a ha hb hk hr;obtain⟨e,w₂,hR,hc⟩:=h b cs a ha hb hk hr;exact⟨e,w₂,hR,hc.of_steps (.one (hs b cs a ha hk hr))⟩
theorem Ro(h:WT P φ N k R f w):WT P φ N (.code .skip::k) R f w:=GG (λ_ _ _ _ _ _=>stepR_skip) h
theorem Aab{l:Nat}(h:WT P φ N k R f w):WT P φ N (.code (.label l)::k) R f w:=GG (λ_ _ _ _ _ _=>stepR_label) h
variable {id:Nat}
theorem KD(h:WT P φ N k R f w):WT P φ N (.inBlock id::k) R f w:=GG (λ_ _ _ _ _ _=>stepR_inBlock) h
variable {x y:Code}
theorem D8(h:WT P φ N (.code x::.code y::k) R f w):WT P φ N (.code (.seq x y)::k) R f w:=GG (λ_ _ _ _ _ _=>stepR_seq) h
variable {c:Code}
theorem KE(h:WT P φ N (.code c::.inBlock id::k) R f w):WT P φ N (.code (.block id c)::k) R f w:=GG (λ_ _ _ _ _ _=>stepR_block) h
theorem U1{k':List Item}(hk:exitTo id k=some k')(h:WT P φ N k' R f w):WT P φ N (.code (.exit id)::k) R f w:=GG (λ_ _ _ _ _ _=>stepR_exit hk) h
theorem Ayk(h:WT P φ N (.code c::.inLoop c::k) R f w):WT P φ N (.inLoop c::k) R f w:=GG (λ_ _ _ _ _ _=>stepR_inLoop) h
theorem Apk(h:WT P φ N (.code c::.inLoop c::k) R f w):WT P φ N (.code (.loop c)::k) R f w:=GG (λ_ _ _ _ _ _=>stepR_loop) h
theorem Akl(h:WT P φ N (.code c::.inScope c::k) R f w):WT P φ N (.code (.scope c)::k) R f w:=
 GG (λb cs a _ _ _=>step_lone_go (by simp [stepG,stepG.exec,Frame.atR])) h
theorem Ads(h:WT P φ N k R f w):WT P φ N (.inScope c::k) R f w:=
 GG (λb cs a _ _ _=>step_lone_go (by simp [stepG,stepG.exec,Frame.atR])) h
def Axz(p:Prop):Prop:=p
theorem Axz.out{p:Prop}(h:Axz p):p:=h
theorem Y8(S:Nat->Fr->World->Prop)(n:Nat)(h0:S n f w)(round:∀n f w,S n f w->Axz (∀m f' w',m<n->S m f' w'->WT P φ N (.inLoop c::k) R f' w')->WT P φ N (.code c::.inLoop c::k) R f w):WT P φ N (.code (.loop c)::k) R f w:=by
 have key:∀n f w,S n f w->WT P φ N (.code c::.inLoop c::k) R f w:=by
  intro n;induction n using Nat.strongRecOn with
  |_ n ih=>exact λf w hS=>round n f w hS λm f' w' hm hS'=>Ayk (ih m hm f' w' hS')
 exact Apk (key n f w h0)
def ev(f:Fr):Operand->Value
 | .tmp t=>f t
 | .const v=>v
 | .global g=>.pointer (some ⟨g,0,none⟩)
 | .func f=>.func (.func f) #[] #[]
def DO(N:Nat)(f:Fr)(d:Nat)(v:Value):Fr:=λj=>if j=d then (if d<N then v else undef) else f j
def put(N:Nat)(f:Fr)(dst:Option Tmp)(v:Value):Fr:=
 match dst with
 |some d=>DO N f d v
 |none=>f
variable {ds:List Deferred} {a:Array Value}
theorem Su(ha:Is N a f)(x:Operand):(Act.eval ⟨a,ds⟩) x=ev f x:=by
 cases x with
 |tmp t=>exact ha.2 t
 |const v|global g|func g=>rfl
theorem G7(ha:Is N a f):(Act.eval ⟨a,ds⟩)=ev f:=funext (Su ha)
theorem Is.put(ha:Is N a f)(d:Option Tmp)(v:Value):∃a',(Act.put ⟨a,ds⟩ d v)=⟨a',ds⟩/\Is N a' (put N f d v):=by
 cases d with
 |none=>exact⟨a,rfl,ha⟩
 |some d=>
  refine⟨_,rfl,by simp [ha.1],λi=>?_⟩;have hi:=ha.2 i;have hs:=ha.1;simp only[Array.getD_eq_getD_getElem?]at hi ⊢;show _=DO N f d v i;unfold DO;by_cases h:i=d
  .subst h;simp only[if_true];by_cases hN:i<N
   .rw[Array.getElem?_setIfInBounds_self_of_lt (by omega)];simp [hN]
   .rw[Array.getElem?_eq_none (by simp;omega)];simp [hN]
  .rw[Array.getElem?_setIfInBounds_ne (Ne.symm h)];simp [h,hi]
theorem Y9{c:Operand}{t:Bool}(hc:ev f c=.bool t)(ht:t=true->WT P φ N (.code x::k) R f w)(hf:t=false->WT P φ N (.code y::k) R f w):WT P φ N (.code (.cond c x y)::k) R f w:=by
 cases t
 .exact GG (λ_ _ _ ha _ _=>stepR_cond (t:=false) (by rw[Su ha];exact hc)) (hf rfl)
 .exact GG (λ_ _ _ ha _ _=>stepR_cond (t:=true) (by rw[Su ha];exact hc)) (ht rfl)
theorem Rn{c:Operand}(hc:ev f c=.bool true)(h:WT P φ N (.code x::k) R f w):WT P φ N (.code (.cond c x y)::k) R f w:=Y9 hc (λ_=>h) (by simp)
theorem NZ{c:Operand}(hc:ev f c=.bool false)(h:WT P φ N (.code y::k) R f w):WT P φ N (.code (.cond c x y)::k) R f w:=Y9 hc (by simp) (λ_=>h)
theorem Asr{j:Option Code}{td:List Item}(hj:A0o j td)(h:R (.lv j f φ.ds) w):WT P φ N td R f w:=λ_ _ a ha _ _ _=>⟨_,w,h,a,td,ha,hj,Steps.refl _ _⟩
theorem MW(h:R (.lv (some .ret) f φ.ds) w):WT P φ N (.code .ret::k) R f w:=Asr (j:=some .ret) ⟨k,rfl⟩ h
theorem SP(h:R (.lv none f φ.ds) w):WT P φ N [] R f w:=Asr (j:=none) rfl h
abbrev Rnd(P:Program)(l:Nat)(g:FuncId)(tmps:Array Value)(assign body:Code)(w:World)(R:Ending->World->Prop):Prop:=RoundIn Fence.wide 0 P l g tmps assign body w R
def UP(P:Program)(R:List PanicEntry->World->Prop)(m:Bool)(next:Value->World->Prop):Result Next->Prop
 | .ok (.value v) w=>next v w
 | .ok .skip w=>m=false/\next undef w
 | .ok (.enter g args) w=>m=false/\Calls P g args w λe w'=>match e with
  | .returned v=>next v w'
  | .panicked ch=>R ch w'
  | .outgrown=>False
 | .ok (.round l g tmps assign body) w=>m=false/\Rnd P l g tmps assign body w λe w'=>match e with
  | .returned v=>next v w'
  | .panicked ch=>R ch w'
  | .outgrown=>False
 | .halt (.panic v) w=>m=false/\R [{v,recovered:=false}] w
 |_=>False
theorem UP.mono{R:List PanicEntry->World->Prop}{m:Bool}{next next':Value->World->Prop}{r:Result Next}(hn:∀v w,next v w->next' v w)(h:UP P R m next r):UP P R m next' r:=by
 have he:∀(e:Ending)(w':World),(match e with | .returned v=>next v w' | .panicked ch=>R ch w' | .outgrown=>False:Prop)->(match e with | .returned v=>next' v w' | .panicked ch=>R ch w' | .outgrown=>False:Prop):=λe w' h=>by
  cases e with
  |returned v=>exact hn _ _ h
  |panicked ch|outgrown=>exact h
 cases r with
 |ok nx w'=>
  cases nx with
  |value v=>exact hn _ _ h
  |skip=>exact⟨h.1,hn _ _ h.2⟩
  |enter g args=>exact⟨h.1,Calls.mono h.2 he⟩
  |round l g tmps as bd=>exact⟨h.1,RoundIn.mono h.2 he⟩
  |_=>exact False.elim h
 |halt x w'=>
  cases x with
  |panic v=>exact h
  |_=>exact False.elim h
variable {next:Value->World->Prop}
theorem ZR{R:List PanicEntry->World->Prop}(r:Result Next)(h:UP P R true next r):∃v w',r=.ok (.value v) w'/\next v w':=by
 cases r with
 |ok nx w'=>
  cases nx with
  |value v=>exact⟨v,w',rfl,h⟩
  |skip|enter g args|round l g tmps as bd=>exact absurd h.1 (by decide)
  |_=>exact False.elim h
 |halt x w'=>
  cases x with
  |panic v=>exact absurd h.1 (by decide)
  |_=>exact False.elim h
def yl(ops:Array Oper)(f:Fr)(j:Nat):Option Bool:=
 match (ops[j]?).bind (·.dst) with
 |some d=>match f d with
  | .bool b=>some b
  |_=>none
 |none=>none
theorem UI{ops:Array Oper}(ha:Is N a f):yielded ops a=yl ops f:=by
 funext j;unfold yielded yl;cases hd:(ops[j]?).bind (·.dst) with
 |none=>rfl
 |some d=>
  have:=ha.2 d;simp only[Option.bind_some];rw[<-this,Array.getD_eq_getD_getElem?];cases h:a[d]? with
  |none=>rfl
  |some v=>cases v<;>rfl
def WL(P:Program)(N:Nat)(ops:Array Oper)(R:List PanicEntry->World->Prop)(m:Bool)(K:Fr->World->Prop):List Oper->Fr->World->Prop
 | [],f,w=>K f w
 |o::os,f,w=>
  if Region.wanted o (yl ops f) then UP P R m (λv w'=>WL P N ops R m K os (put N f o.dst v) w') ((execOp (ev f) o).run P w)
  else WL P N ops R m K os (put N f o.dst undef) w
def FK.ME(φ:FK):Fence:={Fence.wide with round:=φ.ro}
theorem Nb{m m':Machine}(h:StepsIn (Machine.fenced P φ.ME) P m m'):Steps P m m':=h.steps
def Qx(P:Program)(φ:FK)(N:Nat)(k:List Item)(R:Qy->World->Prop):Exit->Act->World->Prop
 | .normal,a,w=>a.defers=φ.ds/\∃f,Is N a.tmps f/\WT P φ N k R f w
 | .panic ch,a,w=>a.defers=φ.ds/\∃f,Is N a.tmps f/\R (.pan ch f φ.ds) w
 |_,_,_=>False
abbrev FK.at(φ:FK)(R:Qy->World->Prop):List PanicEntry->World->Prop:=λch w=>∀f,R (.pan ch f φ.ds) w
theorem Awd{N:Nat}(h:a.size=N):Is N a λi=>a.getD i undef:=⟨h,λ_=>rfl⟩
theorem Aaa(h:∀a,Is N a f->c.wpIn φ.ME 0 P (Qx P φ N k R) ⟨a,φ.ds⟩ w):WT P φ N (.code c::k) R f w:=by
 intro b cs a ha hb hk hr;obtain⟨e,a',w',hq,harr⟩:=h a ha b k cs hr trivial (λd hd=>(by cases hd));cases e with
 |normal=>
  obtain⟨hd,f',hf',hw⟩:=hq;obtain⟨t,d⟩:=a';simp only at hd;subst hd;obtain⟨e,w₂,hR,hc⟩:=hw b cs t hf' hb hk hr;exact⟨e,w₂,hR,hc.of_steps (Nb harr)⟩
 |panic ch=>
  obtain⟨hd,f',hf',hR⟩:=hq;obtain⟨t,d⟩:=a';simp only at hd;subst hd;obtain⟨todo,hs⟩:=harr;exact⟨.pan ch f' φ.ds,w',hR,t,todo,hf',Nb hs⟩
 |exit id|goto l|ret|outgrown=>exact hq.elim
theorem Acx{g:FuncId}{args:Array Value}{R:Ending->World->Prop}(h:Calls P g args w R):CallsIn φ.ME (0-1) P g args w R:=(callsIn_wide (n:=0-1)).2 h
theorem Aay{l:Nat}{g:FuncId}{tmps:Array Value}{as bd:Code}{R:Ending->World->Prop}(h:Rnd P l g tmps as bd w R):RoundIn φ.ME (0-1) P l g tmps as bd w R:=h
variable {o:Oper}
theorem Aau{R:List PanicEntry->World->Prop}{ro:Option Nat}{ρ:Operand->Value}{m:Bool}(h:UP P R m next ((execOp ρ o).run P w)):(o.semAt ro ρ).run P w=(execOp ρ o).run P w:=by
 cases ro with
 |none=>rfl
 |some l=>
  by_cases hd:∃c,o.op=.defer c
  .obtain⟨c,hc⟩:=hd;obtain⟨dst,op,ty,pos,af,gd⟩:=o;simp only at hc;subst hc;simp only[Oper.semAt,execOp,Sem.run_bind]at h ⊢;cases hr:(resolve ρ c ty).run P w with
   |ok d w'=>rw[hr]at h;simp [Result.andThen,UP]at h
   |halt x w'=>rfl
  .rw[Oper.semAt_eq _ _ _ λc hc=>hd ⟨c,hc⟩]
theorem UL{Rp:List PanicEntry->World->Prop}{K':Act->World->Prop}(hp:∀ch w,Rp ch w->∃f,Is N a f/\R (.pan ch f φ.ds) w)(hn:∀v w',next v w'->K' (Act.put ⟨a,φ.ds⟩ o.dst v) w')(h:UP P Rp false next ((execOp (Act.eval ⟨a,φ.ds⟩) o).run P w)):o.wpIn φ.ME 0 P ⟨a,φ.ds⟩ w K' (Qx P φ N k R):=by
 refine⟨λf _=>trivial,?_⟩;rw[Aau h];generalize (execOp (Act.eval ⟨a,φ.ds⟩) o).run P w=r at h;cases r with
 |ok nx w'=>
  cases nx with
  |value v=>exact hn _ _ h
  |skip=>exact hn _ _ h.2
  |enter g args=>
   refine⟨λhd=>(by cases hd),Acx (Calls.mono h.2 λe w''=>?_)⟩;cases e with
   |returned v=>exact hn _ _
   |panicked ch=>exact λh=>⟨rfl,hp _ _ h⟩
   |outgrown=>exact λh=>h.elim
  |round l g tmps as bd=>
   refine⟨λhd=>(by cases hd),Aay (RoundIn.mono h.2 λe w''=>?_)⟩;cases e with
   |returned v=>exact hn _ _
   |panicked ch=>exact λh=>⟨rfl,hp _ _ h⟩
   |outgrown=>exact λh=>h.elim
  |_=>exact False.elim h
 |halt x w'=>
  cases x with
  |panic v=>exact⟨rfl,hp _ _ h.2⟩
  |_=>exact False.elim h
def Aj0(ops:Array Oper)(t:Nat):Prop:=∀(i:Nat)(o:Oper),ops[i]?=some o->o.dst≠some t
theorem All{ops:Array Oper}{i:Nat}{t:Nat}{v:Value}(ho:ops[i]?=some o)(h:Aj0 ops t):put N f o.dst v t=f t:=by
 have:=h i o ho;cases hd:o.dst with
 |none=>rfl
 |some d=>rw[hd]at this;exact if_neg λe=>this (by rw[e])
theorem TI{ops:Array Oper}{Rp:List PanicEntry->World->Prop}{f0:Fr}(hp:∀ch w f,(∀t,Aj0 ops t->f t=f0 t)->Rp ch w->R (.pan ch f φ.ds) w):∀(os:List Oper)(l:List Nat)(f:Fr)(w:World)(a:Array Value),Is N a f->(∀t,Aj0 ops t->f t=f0 t)->l.map (ops[·]?)=os.map some->WL P N ops Rp false (WT P φ N k R) os f w->wpOpsIn φ.ME 0 P ops (Qx P φ N k R) l ⟨a,φ.ds⟩ w
 | [],[],f,w,a,ha,_,_,h=>by exact⟨rfl,f,ha,h⟩
 |[],_::_,_,_,_,_,_,hl,_|_::_,[],_,_,_,_,_,hl,_=>by simp at hl
 |o::os,i::l,f,w,a,ha,hf,hl,h=>by
  simp only[List.map_cons,List.cons.injEq]at hl;obtain⟨ho,hl⟩:=hl;simp only[wpOpsIn,ho];simp only[WL]at h;rw[UI ha];have hf':∀v t,Aj0 ops t->put N f o.dst v t=f0 t:=λv t ht=>(All ho ht).trans (hf t ht);have next:∀v w',WL P N ops Rp false (WT P φ N k R) os (put N f o.dst v) w'->wpOpsIn φ.ME 0 P ops (Qx P φ N k R) l (Act.put ⟨a,φ.ds⟩ o.dst v) w':=λv w' h'=>by obtain⟨a',h1,h2⟩:=ha.put o.dst v;rw[h1];exact TI hp os l _ _ _ h2 (hf' v) hl h'
  split at h
  .rename_i hw;simp only[hw,if_true];exact UL (λch w h=>⟨f,ha,hp ch w f hf h⟩) next (by rw[G7 ha];exact h)
  .rename_i hw;simp only[hw,if_false,Bool.false_eq_true];exact⟨λ_ _=>trivial,next _ _ h⟩
theorem Qa(ops:Array Oper):(List.range ops.size).map (ops[·]?)=ops.toList.map some:=by
 apply List.ext_getElem
 .simp
 .intro i h1 h2;simp at h1;simp [h1]
theorem TH{ops:Array Oper}{Rp:List PanicEntry->World->Prop}(hp:∀ch w f',(∀t,Aj0 ops t->f' t=f t)->Rp ch w->R (.pan ch f' φ.ds) w)(h:WL P N ops Rp false (WT P φ N k R) ops.toList f w):WT P φ N (.code (.region id ops false)::k) R f w:=Aaa λa ha=>wpIn_region (TI hp _ _ _ _ a ha (λ_ _=>rfl) (Qa ops) h)
theorem CK{ops:Array Oper}(h:WL P N ops (φ.at R) false (WT P φ N k R) ops.toList f w):WT P φ N (.code (.region id ops false)::k) R f w:=TH (λ_ _ f' _ h=>h f') h
def WI:List Value->Fr
 | []=>λ_=>undef
 |v::vs=>fun
  |0=>v
  |j+1=>WI vs j
theorem L6:∀(vs:List Value)(i:Nat),(vs[i]?).getD undef=WI vs i
 | [],i=>by simp [WI]
 |v::vs,0=>rfl
 |v::vs,i+1=>L6 vs i
def Lv(P:Program)(F:Func)(N:Nat)(f:Fr)(R:Ending->World->Prop):List Deferred->FrameMode->World->Prop
 | [],.returning,w=>∃v,(∀a,Is N a f->(results F a).run P w=.ok v w)/\R (.returned v) w
 | [],.panicking ch,w=>R (.panicked ch) w
 | [],.run,_=>False
 |d::ds,u,w=>u≠.run/\((∃b,d.target=.collected b/\w.heap[b]?=some (.deferred (some []))/\Lv P F N f R ds u (w.putObj b (.deferred none))) ∨
  (∃fv cap g args,d.target=.fn fv cap/\(invoke d.target d.args).run P w=.ok (.enter g args) w/\CallsD P g args u w fun
   | .returned _,u',w'=>Lv P F N f R ds (settle u') w'
   | .panicked chain,u',w'=>Lv P F N f R ds (raised u' chain) w'
   | .outgrown,_,_=>False))
def Ajy(P:Program)(F:Func)(N:Nat)(R:Ending->World->Prop):Qy->World->Prop
 | .lv (some .ret) f ds,w | .lv none f ds,w=>Lv P F N f R ds .returning w
 | .pan ch f ds,w=>Lv P F N f R ds (.panicking ch) w
 |_,_=>False
theorem step_collected{fr:Frame}{cs:List Frame}{w:World}{d:Deferred}{b:Nat}(hd:fr.defers=d::ds)(ht:d.target=.collected b)(hb:w.heap[b]?=some (.deferred (some [])))(hm:fr.mode≠.run):step P (lone fr cs w)=.next (lone {fr with defers:=ds} cs (w.putObj b (.deferred none))):=by
 obtain⟨t,a⟩:=d;simp only at ht;subst ht;refine step_lone_go ?_;cases hmode:fr.mode with
 |run=>exact absurd hmode hm
 |returning|panicking chain=>simp [stepG,unwind,hmode,hd,Sem.runT_eq,run_takeDeferred hb,GStep.bare_after]
theorem Abx{F:Func}{R:Ending->World->Prop}:∀(ds:List Deferred)(u:FrameMode)(w:World)(fr:Frame)(cs:List Frame),fr.mode=u->fr.defers=ds->Is N fr.tmps f->P.funcs[fr.fn]?=some F->fr.kind=.normal->Lv P F N f R ds u w->∃e w' fr',R e w'/\Comes P (lone fr cs w) (lone fr' cs w') e/\fr'.fn=fr.fn/\fr'.leaving P w' e:=by
 intro ds;induction ds with
 |nil=>
  intro u w fr cs hu hd ht hf hk h;cases u with
  |run=>exact h.elim
  |returning=>
   obtain⟨v,hr,hR⟩:=h;exact⟨.returned v,w,fr,hR,Steps.refl P _,rfl,hu,hd,hk,F,hf,hr _ ht⟩
  |panicking chain=>exact⟨.panicked chain,w,fr,h,Steps.refl P _,rfl,hu,hd,F,hf⟩
 |cons d ds ih=>
  intro u w fr cs hu hd ht hf hk h;obtain⟨hrun,h|h⟩:=h
  .obtain⟨b,htar,hb,hl⟩:=h;have h1:=step_collected (P:=P) (cs:=cs) hd htar hb (hu▸hrun);obtain⟨e',w'',fr',hR',hs',hfn',hl'⟩:=ih u _ {fr with defers:=ds} cs hu rfl ht hf hk hl;exact⟨e',w'',fr',hR',Comes.of_steps (.one h1) hs',hfn',hl'⟩
  obtain⟨fv,cap,g,args,htar,hinv,hcall⟩:=h;have h1:=step_defer (cs:=cs) (hu▸hrun) hd htar hinv;obtain⟨e,u',w',frX,hR,hsteps,hkX,hgo⟩:=hcall {fr with defers:=ds} cs hu;cases e with
  |returned v=>
   have h2:=step_going_returned (c:={{fr with defers:=ds} with mode:=u'}) (cs:=cs) hkX hgo;obtain⟨e',w'',fr',hR',hs',hfn',hl'⟩:=ih (settle u') w' {{{fr with defers:=ds} with mode:=u'} with mode:=settle u'} cs rfl rfl ht hf hk hR;exact⟨e',w'',fr',hR',Comes.of_steps (.head h1 (Steps.trans hsteps (.one h2))) hs',hfn',hl'⟩
  |panicked chain=>
   have h2:=step_going_panicked (c:={{fr with defers:=ds} with mode:=u'}) (cs:=cs) hgo;obtain⟨e',w'',fr',hR',hs',hfn',hl'⟩:=ih (raised u' chain) w' {{{fr with defers:=ds} with mode:=u'} with mode:=raised u' chain} cs rfl rfl ht hf hk hR;exact⟨e',w'',fr',hR',Comes.of_steps (.head h1 (Steps.trans hsteps (.one h2))) hs',hfn',hl'⟩
  |outgrown=>exact hR.elim
theorem Il{q:FuncId}{F:Func}{vs:List Value}{R:Ending->World->Prop}(hf:P.funcs[q]?=some F)(hb:F.body=some c)(hn:F.ntmps=N)(hv:vs.length<=N)(h:WT P ⟨q,none,[]⟩ N [.code c] (Ajy P F N R) (WI vs) w):Calls P q ⟨vs⟩ w R:=by
 intro cs;let b:Frame:={(default:Frame) with fn:=q,kind:=.normal,roundOf:=none}
 have henter:Frame.enter P q ⟨vs⟩ .normal=b.atR ⟨(vs++List.replicate (N-vs.length) undef).toArray,[]⟩ [.code c]:=by simp [Frame.enter,Frame.atR,hf,hb,hn,b]
 obtain⟨e,w',hR,hc⟩:=h b cs (vs++List.replicate (N-vs.length) undef).toArray ⟨by simp;omega,λi=>by
  rw[<-L6,Array.getD_eq_getD_getElem?,List.getElem?_toArray];by_cases hi:i<vs.length
  .rw[List.getElem?_append_left hi]
  .rw[List.getElem?_append_right (by omega),List.getElem?_eq_none (l:=vs) (by omega),List.getElem?_replicate];split<;>rfl⟩ rfl rfl rfl
 rw[<-henter]at hc;cases e with
 |pan ch f' ds=>
  obtain⟨a,td,ha,hs⟩:=hc;obtain⟨e',w'',fr',hR',hs',hfn',hl'⟩:=Abx ds (.panicking ch) w' {b.atR ⟨a,ds⟩ td with mode:=.panicking ch} cs rfl rfl ha hf rfl hR;exact⟨e',w'',fr',hR',Comes.of_steps hs hs',hfn',hl'⟩
 |lv j f' ds=>
  obtain⟨a,td,ha,hj,hs⟩:=hc;have fin:step P (lone (b.atR ⟨a,ds⟩ td) cs w')=.next (lone {b.atR ⟨a,ds⟩ td with mode:=.returning} cs w')->Lv P F N f' R ds .returning w'->∃e w' fr,R e w'/\Comes P (lone (Frame.enter P q ⟨vs⟩ .normal) cs w) (lone fr cs w') e/\fr.fn=q/\fr.leaving P w' e:=λhst hl=>by obtain⟨e',w'',fr',hR',hs',hfn',hl'⟩:=Abx ds .returning w' {b.atR ⟨a,ds⟩ td with mode:=.returning} cs rfl rfl ha hf rfl hl;exact⟨e',w'',fr',hR',Comes.of_steps (hs.trans (.one hst)) hs',hfn',hl'⟩
  cases j with
  |none=>obtain rfl:td=[]:=hj;exact fin (stepR_end rfl) hR
  |some j=>
   cases j with
   |ret=>obtain⟨k',rfl⟩:=hj;exact fin (stepR_ret rfl) hR
   |_=>exact hR.elim
section
variable {R:Qy->World->Prop} {Rp:List PanicEntry->World->Prop} {ops:Array Oper} {S:World->Prop} {n:Nat} {l:Array Bool} {E:List Nat} {w1:World} {V:Act->World->Prop}
def ZT(P:Program)(ops:Array Oper)(R:List PanicEntry->World->Prop)(i:Nat)(K:Act->World->Prop)(a:Act)(w:World):Prop:=match ops[i]? with
 |none=>False
 |some o=>if Region.wanted o (yielded ops a.tmps) then UP P R false (λv w'=>K (a.put o.dst v) w') ((execOp a.eval o).run P w) else K (a.put o.dst undef) w
theorem ZT.mono{i:Nat}{K K':Act->World->Prop}{a:Act}{w:World}(hK:∀a w,K a w->K' a w)(h:ZT P ops Rp i K a w):ZT P ops Rp i K' a w:=by
 unfold ZT at *;split at h
 .exact h.elim
 .split at h
  .rename_i hw;rw[if_pos hw];exact h.mono λv w=>hK _ _
  .rename_i hw;rw[if_neg hw];exact hK _ _ h
def WB(P:Program)(ops:Array Oper)(R:List PanicEntry->World->Prop)(V:Act->World->Prop)(S:World->Prop):Nat->Array Bool->Act->World->Prop
 |0,l,a,w=>Region.ready .any ops l=[]/\V a w
 |n+1,l,a,w=>(Region.ready .any ops l=[]->V a w)/\∀i∈Region.ready .any ops l,ZT P ops R i (λa' w'=>S w'/\WB P ops R V S n (l.setIfInBounds i true) a' w') a w
def XB(P:Program)(ops:Array Oper)(R:List PanicEntry->World->Prop)(V:Act->World->Prop)(S:World->Prop)(E:List Nat)(w1:World):Nat->Array Bool->Act->World->Prop
 |0,l,a,w=>Region.ready .any ops l=[]/\V a w
 |n+1,l,a,w=>(Region.ready .any ops l=[]->V a w)/\∀i∈Region.ready .any ops l,
  ZT P ops R i (λa' w'=>if E.contains i then S w'/\WB P ops R V S n (l.setIfInBounds i true) a' w' else w'=w1/\XB P ops R V S E w1 n (l.setIfInBounds i true) a' w') a w
theorem Yk(hS:S w1):∀(n:Nat)(l:Array Bool)(a:Act)(w:World),XB P ops Rp V S E w1 n l a w->WB P ops Rp V S n l a w
 |0,_,_,_,h=>h
 |n+1,l,a,w,h=>⟨h.1,λi hi=>(h.2 i hi).mono λa' w' h'=>by
  by_cases hE:E.contains i=true
  .rw[if_pos hE]at h';exact h'
  .rw[if_neg hE]at h';exact⟨h'.1▸hS,Yk hS n _ a' w' h'.2⟩⟩
def WG(P:Program)(φ:FK)(N:Nat)(ops:Array Oper)(k:List Item)(R:Qy->World->Prop)(S:World->Prop)(n:Nat)(l:Array Bool)(f:Fr)(w:World):Prop:=∀a,Is N a f->WB P ops (φ.at R) (λa w=>a.defers=φ.ds/\∃f,Is N a.tmps f/\WT P φ N k R f w) S n l ⟨a,φ.ds⟩ w
theorem Pd{a:Act}{d:Option Tmp}{v:Value}:(a.put d v).defers=a.defers:=by cases d<;>rfl
theorem SJ{a:Act}{d:Option Tmp}{v:Value}:(a.put d v).tmps.size=a.tmps.size:=by cases d<;>simp [Act.put]
theorem OZ:∀(n:Nat)(l:Array Bool)(a:Act)(w:World),a.defers=φ.ds->a.tmps.size=N->WB P ops (φ.at R) (λa w=>a.defers=φ.ds/\∃f,Is N a.tmps f/\WT P φ N k R f w) S n l a w->wpAnyIn φ.ME 0 P .any ops (Qx P φ N k R) n l a w
 |0,_,_,_,_,_,h=>h
 |n+1,l,⟨a,_⟩,w,hd,hz,h=>by
  simp only at hd;subst hd;refine⟨h.1,λi hi=>?_⟩;have h1:=h.2 i hi;unfold ZT at h1;unfold wpOpIn;split at h1
  .exact h1.elim
  .rename_i o ho;simp only[ho];split at h1
   .rename_i hw;simp only[hw,if_true];exact UL (λch w h=>⟨_,Awd hz,h _⟩) (λv w' h'=>OZ n _ _ _ Pd (SJ.trans hz) h'.2) h1
   .rename_i hw;simp only[hw,if_false,Bool.false_eq_true];exact⟨λ_ _=>trivial,OZ n _ _ _ Pd (SJ.trans hz) h1.2⟩
theorem Afq{id m:Nat}{l:Array Bool}(S:World->Prop)(hm:P.follows .mixedOrders=true)(hn:ops.size=m)(hl:Array.replicate m false=l)(h:WG P φ N ops k R S m l f {w with drawn:=w.drawn+1}):WT P φ N (.code (.region id ops true)::k) R f w:=
 Aaa λa ha=>wpIn_region_any hm (by subst hn hl;exact OZ _ _ _ _ rfl ha.1 (h a ha))
theorem Pn{i:Nat}{o:Oper}{K:Fr->World->Prop}{K':Act->World->Prop}{ds:List Deferred}{a:Array Value}(ha:Is N a f)(hi:ops[i]?=some o)(hK:∀f' w' a',Is N a' f'->K f' w'->K' ⟨a',ds⟩ w')(h:WL P N ops Rp false K [o] f w):ZT P ops Rp i K' ⟨a,ds⟩ w:=by
 unfold ZT;simp only[hi];simp only[WL]at h;rw[UI ha];have next:∀v w',K (put N f o.dst v) w'->K' (Act.put ⟨a,ds⟩ o.dst v) w':=λv w' h'=>by obtain⟨a',h1,h2⟩:=ha.put o.dst v;rw[h1];exact hK _ _ _ h2 h'
 split at h
 .rename_i hw;simp only[hw,if_true];rw[G7 ha];exact h.mono next
 .rename_i hw;simp only[hw,if_false,Bool.false_eq_true];exact next _ _ h
end
end
section
abbrev BY:=Nat->Prop
abbrev Bh:=List (Nat×Obj)
structure Ext(I:BY)(w:World)(I':BY)(w':World):Prop where
 os:w'.os=w.os
 tape:w'.tape=w.tape
 output:w'.output=w.output
 size:w.heap.size<=w'.heap.size
 sub:∀b,I b->I' b
 BA:∀b,I b->w'.heap[b]?=w.heap[b]?
theorem Ext.refl(I:BY)(w:World):Ext I w I w:=⟨rfl,rfl,rfl,Nat.le_refl _,λ_ h=>h,λ_ _=>rfl⟩
variable {I:BY} {w w':World}
theorem Ext.trans{I' I'':BY}{w'':World}(h:Ext I w I' w')(k:Ext I' w' I'' w''):Ext I w I'' w'':=⟨k.os.trans h.os,k.tape.trans h.tape,k.output.trans h.output,Nat.le_trans h.size k.size,λb hb=>k.sub b (h.sub b hb),λb hb=>(k.BA b (h.sub b hb)).trans (h.BA b hb)⟩
structure St(I:BY)(w:World)(T:Bh):Prop where
 imm:∀b,I b->b<w.heap.size
 own:∀p∈T,w.heap[p.1]?=some p.2/\¬I p.1
 nodup:(T.map (·.1)).Nodup
variable {T:Bh}
theorem St.perm{T':Bh}(h:St I w T)(hp:T.Perm T'):St I w T':=⟨h.imm,λp hm=>h.own p (hp.symm.mem_iff.1 hm),(hp.map _).nodup_iff.1 h.nodup⟩
theorem St.Xe{A B:Bh}(h:St I w (A++(B++T))):St I w (B++(A++T)):=
 h.perm (by rw[<-List.append_assoc,<-List.append_assoc];exact List.perm_append_comm.append_right _)
theorem St.drop{A:Bh}(h:St I w (A++T)):St I w T:=
 ⟨h.imm,λp hm=>h.own p (List.mem_append_right _ hm),by have:=h.nodup;rw[List.map_append,List.nodup_append]at this;exact this.2.1⟩
theorem St.freeze{I:BY}{w:World}{A T:Bh}(h:St I w (A++T)):Ext I w (λb=>I b∨∃p∈A,p.1=b) w/\St (λb=>I b∨∃p∈A,p.1=b) w T:=by
 refine⟨⟨rfl,rfl,rfl,Nat.le_refl _,λ_ hb=>.inl hb,λ_ _=>rfl⟩,?_,?_,h.drop.nodup⟩
 .rintro b (hb|⟨p,hp,rfl⟩)
  .exact h.imm b hb
  .have:=(h.own p (List.mem_append_left _ hp)).1;exact(Array.getElem?_eq_some_iff.1 this).1
 .intro p hp;refine⟨(h.own p (List.mem_append_right _ hp)).1,?_⟩;rintro(hb|⟨q,hq,he⟩)
  .exact(h.own p (List.mem_append_right _ hp)).2 hb
  .have hn:=h.nodup;rw[List.map_append,List.nodup_append]at hn;exact hn.2.2 q.1 (List.mem_map_of_mem hq) p.1 (List.mem_map_of_mem hp) he
theorem World.Xj(w:World)(o:Obj):(w.alloc o).heap[w.heap.size]?=some o:=by show (w.heap.push o)[w.heap.size]?=_;rw[Array.getElem?_push,if_pos rfl]
theorem St.alloc(h:St I w T)(o:Obj):Ext I w I (w.alloc o)/\St I (w.alloc o) ([(w.heap.size,o)]++T):=by
 have hk:∀b,b<w.heap.size->(w.alloc o).heap[b]?=w.heap[b]?:=λb hb=>Below.heap_alloc w o b hb;have hs:∀p∈T,p.1<w.heap.size:=λp hp=>(Array.getElem?_eq_some_iff.1 (h.own p hp).1).1;refine⟨⟨rfl,rfl,rfl,by simp,λ_ hb=>hb,λb hb=>hk b (h.imm b hb)⟩,?_,?_,?_⟩
 .intro b hb;have:=h.imm b hb;simp;omega
 .intro p hp;rcases List.mem_append.1 hp with hp|hp
  .obtain rfl:p=(w.heap.size,o):=by simpa using hp
   refine⟨World.Xj w o,λhb=>?_⟩;have:=h.imm _ hb;simp at this
  .exact⟨by rw[hk _ (hs p hp)];exact(h.own p hp).1,(h.own p hp).2⟩
 .simp only[List.cons_append,List.nil_append,List.map_cons,List.nodup_cons];refine⟨λhm=>?_,h.nodup⟩;obtain⟨p,hp,he⟩:=List.mem_map.1 hm;have:=hs p hp;omega
theorem St.write{b:Nat}{o o':Obj}(h:St I w ([(b,o)]++T))(hos:w'.os=w.os)(ht:w'.tape=w.tape)(hout:w'.output=w.output)(hs:w'.heap.size=w.heap.size)(hb:w'.heap[b]?=some o')(hne:∀c,c≠b->w'.heap[c]?=w.heap[c]?):Ext I w I w'/\St I w' ([(b,o')]++T):=by
 have hI:∀c,I c->c≠b:=λc hc e=>by subst e;exact(h.own (c,o) (by simp)).2 hc
 have hn:=h.nodup;simp only[List.cons_append,List.nil_append,List.map_cons,List.nodup_cons]at hn;refine⟨⟨hos,ht,hout,by omega,λ_ h=>h,λc hc=>hne c (hI c hc)⟩,λc hc=>by rw[hs];exact h.imm c hc,?_,by simpa using hn⟩;intro p hp;simp only[List.cons_append,List.nil_append,List.mem_cons]at hp;rcases hp with rfl|hp
 .exact⟨hb,(h.own (b,o) (by simp)).2⟩
 .have hpb:p.1≠b:=λe=>hn.1 (by rw[<-e];exact List.mem_map_of_mem hp);have:=h.own p (by simp [hp]);exact⟨by rw[hne _ hpb];exact this.1,this.2⟩
theorem St.drew(h:St I w T)(n:Nat):Ext I w I {w with drawn:=n}/\St I {w with drawn:=n} T:=
 ⟨⟨rfl,rfl,rfl,Nat.le_refl _,λ_ h=>h,λ_ _=>rfl⟩,h.imm,h.own,h.nodup⟩
def Dl(w:World)(a:Addr)(v:Value):Prop:=a.spot=none/\∀j,j<v.cells.size->w.cell? ⟨a.block,a.off+j,none⟩=v.cells[j]?
theorem cell?_of_heap{a:Addr}(h:w'.heap[a.block]?=w.heap[a.block]?):w'.cell? a=w.cell? a:=by simp only[World.cell?,h]
theorem Dl.mono{I I':BY}{w w':World}{a:Addr}{v:Value}(h:Ext I w I' w')(ha:I a.block)(hp:Dl w a v):Dl w' a v:=⟨hp.1,λj hj=>(cell?_of_heap (a:=⟨a.block,a.off+j,none⟩) (h.BA _ ha)).trans (hp.2 j hj)⟩
def NS:Nat:=9223372036854775807
class AT(α:Type) where
 size:Nat
 agg:Bool
 rep:BY->World->Value->α->Prop
 pos:0<size
 cells:∀{I w v x},rep I w v x->v.cells.size=size
 form:∀{I w v x},rep I w v x->if agg then ∃cs,v=.agg cs else v.cells=#[v]
 one:∀{I w v x},rep I w v x->∀c∈v.cells.toList,c.oneCell'=true
 mono:∀{I w I' w' v x},Ext I w I' w'->rep I w v x->rep I' w' v x
abbrev rep{α:Type}[AT α](I:BY)(w:World)(v:Value)(x:α):Prop:=AT.rep I w v x
theorem Ext.rep{α:Type}[AT α]{I I':BY}{w w':World}{v:Value}{x:α}(h:Ext I w I' w')(r:rep I w v x):X.rep I' w' v x:=AT.mono h r
structure Aox(v:Value)(n:Int):Prop where
 eq:v=.int .i64 n
 lo:-9223372036854775808<=n
 hi:n<=9223372036854775807
instance:AT Int where
 size:=1
 agg:=false
 rep _ _ v n:=Aox v n
 pos:=by decide
 cells h:=by rw[h.eq];rfl
 form h:=by rw[h.eq];simp [Value.cells]
 one h:=by rw[h.eq];simp [Value.cells,Value.oneCell']
 mono _ h:=h
instance:AT Bool where
 size:=1
 agg:=false
 rep _ _ v b:=v=.bool b
 pos:=by decide
 cells h:=by subst h;rfl
 form h:=by subst h;simp [Value.cells]
 one h:=by subst h;simp [Value.cells,Value.oneCell']
 mono _ h:=h
instance:AT ByteArray where
 size:=1
 agg:=false
 rep _ _ v s:=v=.string s/\s.size<=NS
 pos:=by decide
 cells h:=by rw[h.1];rfl
 form h:=by rw[h.1];simp [Value.cells]
 one h:=by rw[h.1];simp [Value.cells,Value.oneCell']
 mono _ h:=h
def Ah0{α:Type}[AT α](I:BY)(w:World)(a:Option Addr)(xs:List α):Prop:=xs=[]∨∃b off,a=some ⟨b,off,none⟩/\I b/\∀j(h:j<xs.length),∃v,rep I w v xs[j]/\Dl w ⟨b,off+j*AT.size α,none⟩ v
theorem Ah0.mono{α:Type}[AT α]{I I':BY}{w w':World}{a:Option Addr}{xs:List α}(h:Ext I w I' w')(e:Ah0 I w a xs):Ah0 I' w' a xs:=by
 rcases e with e|⟨b,off,ha,hb,he⟩
 .exact .inl e
 .refine .inr ⟨b,off,ha,h.sub b hb,λj hj=>?_⟩;obtain⟨v,hv,hp⟩:=he j hj;exact⟨v,h.rep hv,Dl.mono h hb hp⟩
structure Ada{α:Type}[AT α](I:BY)(w:World)(v:Value)(xs:List α):Prop where
 ex:∃a cap,v=.slice a xs.length cap/\xs.length<=cap/\cap<=NS/\Ah0 I w a xs
instance {α:Type} [AT α]:AT (List α) where
 size:=1
 agg:=false
 rep I w v xs:=Ada I w v xs
 pos:=by decide
 cells h:=by obtain⟨a,cap,h,_⟩:=h.ex;rw[h];rfl
 form h:=by obtain⟨a,cap,h,_⟩:=h.ex;rw[h];simp [Value.cells]
 one h:=by obtain⟨a,cap,h,_⟩:=h.ex;rw[h];simp [Value.cells,Value.oneCell']
 mono h r:=by obtain⟨a,cap,h1,h2,h3,h4⟩:=r.ex;exact⟨a,cap,h1,h2,h3,h4.mono h⟩
theorem Af8{α:Type}[AT α]{I:BY}{w:World}{a:Option Addr}{cap:Nat}(h:cap<=NS):rep I w (.slice a 0 cap) ([]:List α):=⟨a,cap,rfl,Nat.zero_le _,h,.inl rfl⟩
end
section
section
variable {P:Program} {N:Nat} {ops:Array Oper} {R:List PanicEntry->World->Prop} {m:Bool} {K:Fr->World->Prop} {os:List Oper} {f:Fr} {w:World}
variable {dst:Option Tmp} {ty:TypeId} {pos:String} {af:Array Edge}
variable {op:Op}
theorem Ay{v:Value}{w':World}(hr:(execOp (ev f) ⟨dst,op,ty,pos,af,none⟩).run P w=.ok (.value v) w')(h:WL P N ops R m K os (put N f dst v) w'):WL P N ops R m K (⟨dst,op,ty,pos,af,none⟩::os) f w:=by simp only[WL,Region.wanted,if_true,hr,UP];exact h
theorem MX{w':World}(hr:(execOp (ev f) ⟨dst,op,ty,pos,af,none⟩).run P w=.ok .skip w')(h:WL P N ops R false K os (put N f dst undef) w'):WL P N ops R false K (⟨dst,op,ty,pos,af,none⟩::os) f w:=by simp only[WL,Region.wanted,if_true,hr,UP];exact⟨trivial,h⟩
theorem Ako{g:Nat×Bool}(hg:Region.wanted ⟨dst,op,ty,pos,af,some g⟩ (yl ops f)=true)(h:WL P N ops R m K (⟨dst,op,ty,pos,af,none⟩::os) f w):WL P N ops R m K (⟨dst,op,ty,pos,af,some g⟩::os) f w:=by simp only[WL,Region.wanted,if_true]at h;simp only[WL,hg,if_true];exact h
theorem Afs{o:Oper}(hg:Region.wanted o (yl ops f)=false)(h:WL P N ops R m K os (put N f o.dst undef) w):WL P N ops R m K (o::os) f w:=by simp only[WL,hg,Bool.false_eq_true,if_false];exact h
theorem Agi{c a b:Operand}(v:Value)(hc:ev f c=.bool true)(hx:ev f a=v)(h:WL P N ops R m K os (put N f dst v) w):WL P N ops R m K (⟨dst,.pick c a b,ty,pos,af,none⟩::os) f w:=
 Ay (by simp [execOp,hc,asBool,hx]) h
theorem Agj{c a b:Operand}(v:Value)(hc:ev f c=.bool false)(hx:ev f b=v)(h:WL P N ops R m K os (put N f dst v) w):WL P N ops R m K (⟨dst,.pick c a b,ty,pos,af,none⟩::os) f w:=
 Ay (by simp [execOp,hc,asBool,hx]) h
variable {x y:Operand} {kd:IntKind} {a b:Int} {t u:TypeId}
variable {op:BinOp}
theorem Ajd(w:World):(eqGuard op t x y (.int kd a) (.int kd b)).run P w=.ok () w:=by simp only[eqGuard];cases op<;>simp
theorem RL{v:Value}(hx:ev f x=.int kd a)(hy:ev f y=.int kd b)(hv:(binOp op t (.int kd a) (.int kd b)).run P w=.ok v w)(h:WL P N ops R m K os (put N f dst v) w):WL P N ops R m K (⟨dst,.binOp op t x y u,ty,pos,af,none⟩::os) f w:=
 Ay (by simp only[execOp,hx,hy,Sem.run_bind,Ajd,Result.andThen_ok,hv,Sem.run_pure]) h
theorem Agl(hx:ev f x=.int kd a)(hy:ev f y=.int kd b)(h:WL P N ops R m K os (put N f dst (.int kd (kd.wrap (a+b)))) w):WL P N ops R m K (⟨dst,.binOp .add t x y u,ty,pos,af,none⟩::os) f w:=RL hx hy (by simp [binOp,Op.intArith]) h
theorem As1(hx:ev f x=.int kd a)(hy:ev f y=.int kd b)(h:WL P N ops R m K os (put N f dst (.int kd (kd.wrap (a-b)))) w):WL P N ops R m K (⟨dst,.binOp .sub t x y u,ty,pos,af,none⟩::os) f w:=RL hx hy (by simp [binOp,Op.intArith]) h
theorem As4(hx:ev f x=.int kd a)(hy:ev f y=.int kd b)(h:WL P N ops R m K os (put N f dst (.int kd (kd.wrap (a*b)))) w):WL P N ops R m K (⟨dst,.binOp .mul t x y u,ty,pos,af,none⟩::os) f w:=RL hx hy (by simp [binOp,Op.intArith]) h
theorem U2{n:Int}(h1:-9223372036854775808<=n)(h2:n<=9223372036854775807):IntKind.i64.wrap n=n:=IntWalk.i64_in _ ⟨h1,h2⟩
def Acv:BinOp->Int->Int->Prop
 | .eql,a,b=>a=b
 | .neq,a,b=>a≠b
 | .lss,a,b=>a<b
 | .leq,a,b=>a<=b
 | .gtr,a,b=>b<a
 | .geq,a,b=>b<=a
 |_,_,_=>False
instance (op:BinOp) (a b:Int):Decidable (Acv op a b):=by cases op<;>simp only[Acv]<;>infer_instance
def OA:BinOp->Bool
 | .eql | .neq | .lss | .leq | .gtr | .geq=>true
 |_=>false
theorem Ap2(ho:OA op=true):(binOp op t (.int kd a) (.int kd b)).run P w=.ok (.bool (decide (Acv op a b))) w:=by
 cases op<;>first|(simp [OA]at ho;done)|skip
 all_goals simp only[binOp,Op.intCmp,Acv,ne_eq,not_true_eq_false,if_false,Sem.run_pure]
 all_goals first|rfl|(congr 2;rw[Bool.eq_iff_iff];exact⟨λh=>decide_eq_true (by simpa using h),λh=>by simpa using of_decide_eq_true h⟩)
theorem Avf(ho:OA op=true)(hx:ev f x=.int kd a)(hy:ev f y=.int kd b)(h:WL P N ops R m K os (put N f dst (.bool (decide (Acv op a b)))) w):WL P N ops R m K (⟨dst,.binOp op t x y u,ty,pos,af,none⟩::os) f w:=RL hx hy (Ap2 ho) h
theorem XU(ho:OA op=true)(hx:ev f x=.int kd a)(hy:ev f y=.int kd b)(h1:Acv op a b->WL P N ops R m K os (put N f dst (.bool true)) w)(h0:¬Acv op a b->WL P N ops R m K os (put N f dst (.bool false)) w):WL P N ops R m K (⟨dst,.binOp op t x y u,ty,pos,af,none⟩::os) f w:=by
 refine Avf ho hx hy ?_;by_cases hc:Acv op a b
 .simpa only[hc,decide_true] using h1 hc
 .simpa only[hc,decide_false] using h0 hc
section
variable (hx:ev f x=.int kd a) (hy:ev f y=.int kd b)
include hx hy
theorem Ay8(h1:a<b->WL P N ops R m K os (put N f dst (.bool true)) w)(h0:¬a<b->WL P N ops R m K os (put N f dst (.bool false)) w):WL P N ops R m K (⟨dst,.binOp .lss t x y u,ty,pos,af,none⟩::os) f w:=XU rfl hx hy h1 h0
theorem Ay9(h1:a<=b->WL P N ops R m K os (put N f dst (.bool true)) w)(h0:¬a<=b->WL P N ops R m K os (put N f dst (.bool false)) w):WL P N ops R m K (⟨dst,.binOp .leq t x y u,ty,pos,af,none⟩::os) f w:=XU rfl hx hy h1 h0
theorem Aza(h1:b<a->WL P N ops R m K os (put N f dst (.bool true)) w)(h0:¬b<a->WL P N ops R m K os (put N f dst (.bool false)) w):WL P N ops R m K (⟨dst,.binOp .gtr t x y u,ty,pos,af,none⟩::os) f w:=XU rfl hx hy h1 h0
theorem Azb(h1:b<=a->WL P N ops R m K os (put N f dst (.bool true)) w)(h0:¬b<=a->WL P N ops R m K os (put N f dst (.bool false)) w):WL P N ops R m K (⟨dst,.binOp .geq t x y u,ty,pos,af,none⟩::os) f w:=XU rfl hx hy h1 h0
theorem Aze(h1:a=b->WL P N ops R m K os (put N f dst (.bool true)) w)(h0:¬a=b->WL P N ops R m K os (put N f dst (.bool false)) w):WL P N ops R m K (⟨dst,.binOp .eql t x y u,ty,pos,af,none⟩::os) f w:=XU rfl hx hy h1 h0
theorem Ay5(h1:¬a=b->WL P N ops R m K os (put N f dst (.bool true)) w)(h0:a=b->WL P N ops R m K os (put N f dst (.bool false)) w):WL P N ops R m K (⟨dst,.binOp .neq t x y u,ty,pos,af,none⟩::os) f w:=XU rfl hx hy h1 (λh=>h0 (Decidable.of_not_not h))
theorem Amc(h:WL P N ops R m K os (put N f dst (.bool (decide (a<b)))) w):WL P N ops R m K (⟨dst,.binOp .lss t x y u,ty,pos,af,none⟩::os) f w:=Ay8 hx hy (λc=>by simpa only[c,decide_true] using h) (λc=>by simpa only[c,decide_false] using h)
theorem Avb(h:WL P N ops R m K os (put N f dst (.bool (decide (a<=b)))) w):WL P N ops R m K (⟨dst,.binOp .leq t x y u,ty,pos,af,none⟩::os) f w:=Ay9 hx hy (λc=>by simpa only[c,decide_true] using h) (λc=>by simpa only[c,decide_false] using h)
theorem Avc(h:WL P N ops R m K os (put N f dst (.bool (decide (b<a)))) w):WL P N ops R m K (⟨dst,.binOp .gtr t x y u,ty,pos,af,none⟩::os) f w:=Aza hx hy (λc=>by simpa only[c,decide_true] using h) (λc=>by simpa only[c,decide_false] using h)
theorem Avd(h:WL P N ops R m K os (put N f dst (.bool (decide (b<=a)))) w):WL P N ops R m K (⟨dst,.binOp .geq t x y u,ty,pos,af,none⟩::os) f w:=Azb hx hy (λc=>by simpa only[c,decide_true] using h) (λc=>by simpa only[c,decide_false] using h)
theorem Ave(h:WL P N ops R m K os (put N f dst (.bool (decide (a=b)))) w):WL P N ops R m K (⟨dst,.binOp .eql t x y u,ty,pos,af,none⟩::os) f w:=Aze hx hy (λc=>by simpa only[c,decide_true] using h) (λc=>by simpa only[c,decide_false] using h)
theorem Amb(h:WL P N ops R m K os (put N f dst (.bool (!decide (a=b)))) w):WL P N ops R m K (⟨dst,.binOp .neq t x y u,ty,pos,af,none⟩::os) f w:=Ay5 hx hy (λc=>by simpa only[c,decide_false,Bool.not_false] using h) (λc=>by simpa only[c,decide_true,Bool.not_true] using h)
end
theorem Aac{R:Qy->World->Prop}{φ:FK}{k:List Item}{c:Operand}{x y:Code}{p:Prop}[Decidable p](hc:ev f c=.bool (decide p))(h1:p->WT P φ N (.code x::k) R f w)(h0:¬p->WT P φ N (.code y::k) R f w):WT P φ N (.code (.cond c x y)::k) R f w:=Y9 hc (λh=>h1 (of_decide_eq_true h)) (λh=>h0 (of_decide_eq_false h))
variable {c:Bool}
theorem As2(hx:ev f x=.bool c)(h:WL P N ops R m K os (put N f dst (.bool (!c))) w):WL P N ops R m K (⟨dst,.unOp .not t x,ty,pos,af,none⟩::os) f w:=
 Ay (by simp [execOp,hx,Op.unary]) h
theorem As3(hx:ev f x=.int kd a)(h:WL P N ops R m K os (put N f dst (.int kd (kd.wrap (0-a)))) w):WL P N ops R m K (⟨dst,.unOp .neg t x,ty,pos,af,none⟩::os) f w:=
 Ay (by simp [execOp,hx,Op.unary,Op.intArith]) h
theorem run_equalIn_bool(n:Nat)(c d:Bool)(ht:P.underlying t=some .bool):(Op.equalIn (n+1) t (.bool c) (.bool d)).run P w=.ok (c == d) w:=by simp [Op.equalIn,run_underlying ht]
variable {d:Bool}
theorem run_eql_bool(ht:P.underlying t=some .bool):(binOp .eql t (.bool c) (.bool d)).run P w=.ok (.bool (c == d)) w:=by simp only[binOp,Op.equal,Sem.run_bind,Op.maxDepth,run_equalIn_bool 9999 c d ht,Result.andThen_ok,Sem.run_pure]
theorem run_neq_bool(ht:P.underlying t=some .bool):(binOp .neq t (.bool c) (.bool d)).run P w=.ok (.bool (!(c == d))) w:=by simp only[binOp,Op.equal,Sem.run_bind,Op.maxDepth,run_equalIn_bool 9999 c d ht,Result.andThen_ok,Sem.run_pure]
theorem VP{op:BinOp}(w:World):(eqGuard op t x y (.bool c) (.bool d)).run P w=.ok () w:=by simp only[eqGuard];cases op<;>simp
theorem Azf(hx:ev f x=.bool c)(hy:ev f y=.bool d)(ht:P.underlying t=some .bool)(h:WL P N ops R m K os (put N f dst (.bool (c==d))) w):WL P N ops R m K (⟨dst,.binOp .eql t x y u,ty,pos,af,none⟩::os) f w:=
 Ay (by simp only[execOp,hx,hy,Sem.run_bind,VP,Result.andThen_ok,run_eql_bool ht,Sem.run_pure]) h
theorem Ay7(hx:ev f x=.bool c)(hy:ev f y=.bool d)(ht:P.underlying t=some .bool)(h:WL P N ops R m K os (put N f dst (.bool (!(c==d)))) w):WL P N ops R m K (⟨dst,.binOp .neq t x y u,ty,pos,af,none⟩::os) f w:=
 Ay (by simp only[execOp,hx,hy,Sem.run_bind,VP,Result.andThen_ok,run_neq_bool ht,Sem.run_pure]) h
theorem Aiz{vs:Array Value}{i:Nat}{v:Value}(hx:ev f x=.tuple vs)(hv:vs[i]?=some v)(h:WL P N ops R m K os (put N f dst v) w):WL P N ops R m K (⟨dst,.extract x i,ty,pos,af,none⟩::os) f w:=Ay (by simp [execOp,hx,Instr.extract,hv]) h
variable {vs:List Value}
theorem Vs{g:Fn}{fs cs:Array Operand}{us:List Value}(hf:fs.toList.map (ev f)=vs)(hc:cs.toList.map (ev f)=us)(h:WL P N ops R m K os (put N f dst (.func g ⟨vs⟩ ⟨us⟩)) w):WL P N ops R m K (⟨dst,.makeFunc g fs cs,ty,pos,af,none⟩::os) f w:=
 Ay (by subst hf hc;simp [execOp,Instr.makeFunc];exact⟨by rw[<-Array.toList_map],by rw[<-Array.toList_map]⟩) h
theorem QG{a:Addr}(hx:ev f x=.pointer (some a))(h:WL P N ops R m K os (put N f dst (.pointer (some a))) w):WL P N ops R m K (⟨dst,.nilCheck x,ty,pos,af,none⟩::os) f w:=
 Ay (by simp [execOp,hx]) h
def CU(P:Program)(g:FuncId):Bool:=match P.funcs[g]? with
 |some F=>F.name != "runtime.NumGoroutine"&&F.body.isSome
 |none=>false
variable {g:FuncId}
theorem Mv{vs:Array Value}(hg:CU P g=true):(callFunc g vs).run P w=.ok (.enter g vs) w:=by
 unfold CU at hg;cases h:P.funcs[g]? with
 |none=>simp [h]at hg
 |some F=>
  simp only[h,Bool.and_eq_true,bne_iff_ne,ne_eq]at hg;have h2:F.body.isNone=false:=by
   cases hb:F.body with
   |none=>rw[hb]at hg;exact absurd hg.2 (by decide)
   |some c=>rfl
  have h1:(F.name== "runtime.NumGoroutine")=false:=by simpa using hg.1
  simp only[callFunc,Sem.run_bind,run_program,Result.andThen_ok,h,h1,h2,Bool.false_eq_true,if_false,Sem.run_pure]
theorem Vx{as:Array Operand}{at_:Array TypeId}(hg:CU P g=true)(ha:as.toList.map (ev f)=vs)(h:Calls P g ⟨vs⟩ w λe w'=>match e with
   | .returned v=>WL P N ops R false K os (put N f dst v) w'
   | .panicked ch=>R ch w'
   | .outgrown=>False):WL P N ops R false K (⟨dst,.call ⟨.value (.func g),as,at_⟩,ty,pos,af,none⟩::os) f w:=by
 have he:(execOp (ev f) ⟨dst,.call ⟨.value (.func g),as,at_⟩,ty,pos,af,none⟩).run P w=.ok (.enter g ⟨vs⟩) w:=by subst ha;simp [execOp,resolve,ev,Deferred.ofValue,invoke,Mv hg];rw[<-Array.toList_map]
 simp only[WL,Region.wanted,if_true,he,UP]
 exact⟨trivial,h⟩
theorem Agk{fv:Operand}{first captured:Array Value}{as:Array Operand}{at_:Array TypeId}(hv:ev f fv=.func (.func g) first captured)(hg:CU P g=true)(ha:first.toList++as.toList.map (ev f)++captured.toList=vs)(h:Calls P g ⟨vs⟩ w λe w'=>match e with
   | .returned v=>WL P N ops R false K os (put N f dst v) w'
   | .panicked ch=>R ch w'
   | .outgrown=>False):WL P N ops R false K (⟨dst,.call ⟨.value fv,as,at_⟩,ty,pos,af,none⟩::os) f w:=by
 have he:(execOp (ev f) ⟨dst,.call ⟨.value fv,as,at_⟩,ty,pos,af,none⟩).run P w=.ok (.enter g ⟨vs⟩) w:=by subst ha;simp [execOp,resolve,hv,Deferred.ofValue,invoke,Mv hg]
 simp only[WL,Region.wanted,if_true,he,UP]
 exact⟨trivial,h⟩
end
end
section
def Awf:TypeDesc->Bool
 | .struct _ | .array _ _=>true
 |_=>false
def Pg(P:Program)(t:TypeId)(agg:Bool)(sz:Nat):Bool:=match P.underlying t,P.info? t with
 |some d,some i=>Awf d==agg&&i.size==sz
 |_,_=>false
def WH(P:Program)(t e:TypeId)(sz nb:Nat):Bool:=match P.underlying t,P.info? e with
 |some (.slice e'),some i=>e'==e&&i.size==sz&&i.bytes==nb&&(match i.zero with |some z=>z.cells.size==sz |none=>false)
 |_,_=>false
section
variable {P:Program} {w:World} {t e:TypeId} {sz nb:Nat}
theorem GH{agg:Bool}(h:Pg P t agg sz=true):(isAgg t).run P w=.ok agg w/\(sizeOf t).run P w=.ok sz w:=by
 unfold Pg at h;cases hu:P.underlying t with
 |none=>simp [hu]at h
 |some d=>
  cases hi:P.info? t with
  |none=>simp [hu,hi]at h
  |some i=>
   simp only[hu,hi,Bool.and_eq_true,beq_iff_eq]at h;obtain⟨rfl,rfl⟩:=h;refine⟨?_,by simp [sizeOf,typeInfo,hi]⟩;simp only[isAgg,Sem.run_bind,run_underlying hu,Result.andThen_ok];cases d<;>rfl
structure Slc(P:Program)(t e:TypeId)(sz nb:Nat):Prop where
 under:P.underlying t=some (.slice e)
 info:∃i z,P.info? e=some i/\i.size=sz/\i.bytes=nb/\i.zero=some z/\z.cells.size=sz
theorem EO(h:WH P t e sz nb=true):Slc P t e sz nb:=by
 unfold WH at h;cases hu:P.underlying t with
 |none=>simp [hu]at h
 |some d=>
  cases hi:P.info? e with
  |none=>cases d<;>simp [hu,hi]at h
  |some i=>
   cases d<;>simp only[hu,hi,Bool.false_eq_true]at h;rename_i e';simp only[Bool.and_eq_true,beq_iff_eq]at h;obtain⟨⟨⟨rfl,h1⟩,h2⟩,h3⟩:=h;cases hz:i.zero with
   |none=>simp [hz]at h3
   |some z=>simp only[hz,beq_iff_eq]at h3;exact⟨hu,i,z,hi,h1,h2,hz,h3⟩
theorem Slc.size(h:Slc P t e sz nb):(sizeOf e).run P w=.ok sz w:=by obtain⟨i,z,hi,h1,_⟩:=h.info;simp [sizeOf,typeInfo,hi,h1]
theorem DM(b o n:Nat):(⟨b,o,none⟩:Addr).add n=⟨b,o+n,none⟩:=by
 unfold Addr.add;split
 .subst n;rfl
 .rfl
theorem Ow{a:Addr}{v:Value}(hp:Dl w a v):(loadCells a v.cells.size).run P w=.ok v.cells w:=by
 obtain⟨b,o,s⟩:=a;obtain⟨hs,hp⟩:=hp;simp only at hs;subst hs;have:=run_loadCells_list (P:=P) (w:=w) ⟨b,o,none⟩ v.cells.toList (λj u hj=>by rw[DM];rw[Array.getElem?_toList]at hj;have hlt:=(Array.getElem?_eq_some_iff.1 hj).1;rw[hp j hlt,hj])
 simpa using this
end
section
variable {P:Program} {N:Nat} {ops:Array Oper} {R:List PanicEntry->World->Prop} {m:Bool} {K:Fr->World->Prop} {os:List Oper} {f:Fr} {w:World}
variable {dst:Option Tmp} {ty:TypeId} {pos:String} {af:Array Edge} {I:BY} {T:Bh} {x y:Operand} {t e u:TypeId} {sz nb:Nat}
def flB(P:Program)(t:TypeId)(i off:Nat):Bool:=match P.underlying t with
 |some (.struct fs)=>match fs[i]? with
  |some fd=>fd.offset==off&&(match P.info? fd.type with |some j=>j.size != 0 |none=>false)
  |none=>false
 |_=>false
theorem Ark{i off:Nat}(h:flB P t i off=true){a:Addr}:(Instr.fieldAt t (.pointer (some a)) i).run P w=.ok (.pointer (some (a.add off))) w:=by
 unfold flB at h;cases hu:P.underlying t with
 |none=>simp [hu]at h
 |some d=>
  cases d<;>simp only[hu,Bool.false_eq_true]at h;rename_i fs;cases hf:fs[i]? with
  |none=>simp [hf]at h
  |some fd=>
   simp only[hf]at h;cases hi:P.info? fd.type with
   |none=>simp [hi]at h
   |some j=>
    simp only[hi,Bool.and_eq_true,beq_iff_eq,bne_iff_ne,ne_eq]at h;obtain⟨rfl,h0⟩:=h;simp [Instr.fieldAt,run_underlying hu,hf,Instr.sureAddr,fieldPlace,sizeOf,typeInfo,hi,h0]
end
end
section
variable {α:Type}
def D3[AT α](I:BY)(w:World)(get:Nat->Option Value)(xs:List α):Prop:=∀j(h:j<xs.length),∃u,rep I w u xs[j]/\∀i,i<u.cells.size->get (j*AT.size α+i)=u.cells[i]?
theorem D3.mono{α:Type}[AT α]{I I':BY}{w w':World}{get:Nat->Option Value}{xs:List α}(h:Ext I w I' w')(e:D3 I w get xs):D3 I' w' get xs:=λj hj=>by obtain⟨u,h1,h2⟩:=e j hj;exact⟨u,h.rep h1,h2⟩
theorem D3.append[AT α]{I:BY}{w:World}{g1 g2 g:Nat->Option Value}{xs ys:List α}(h1:D3 I w g1 xs)(h2:D3 I w g2 ys)(e1:∀i,i<xs.length*AT.size α->g i=g1 i)(e2:∀i,i<ys.length*AT.size α->g (xs.length*AT.size α+i)=g2 i):D3 I w g (xs++ys):=by
 have lt:∀{n j i:Nat},j<n->i<AT.size α->j*AT.size α+i<n*AT.size α:=λ{n j i}hj hi=>by have:(j+1)*AT.size α<=n*AT.size α:=Nat.mul_le_mul_right _ hj;rw[Nat.add_mul,Nat.one_mul]at this;omega
 intro j hj;by_cases hx:j<xs.length
 .obtain⟨u,hu,hc⟩:=h1 j hx;refine⟨u,by rw[List.getElem_append_left hx];exact hu,λi hi=>?_⟩;rw[e1 _ (lt hx (by rw[<-AT.cells hu];exact hi))];exact hc i hi
 .have hlen:j-xs.length<ys.length:=by rw[List.length_append]at hj;omega
  obtain⟨u,hu,hc⟩:=h2 (j-xs.length) hlen;refine⟨u,by rw[List.getElem_append_right (by omega)];exact hu,λi hi=>?_⟩;have:=e2 ((j-xs.length)*AT.size α+i) (lt hlen (by rw[<-AT.cells hu];exact hi));rw[<-Nat.add_assoc,<-Nat.add_mul,Nat.add_sub_cancel' (by omega)]at this;rw[this];exact hc i hi
structure Bw{α:Type}[AT α](I:BY)(w:World)(A:Bh)(v:Value)(xs:List α):Prop where
 ex:(v=.slice none 0 0/\xs=[]/\A=[])∨∃b arr cap e0 off,A=[(b,.cells arr e0 (0,0))]/\v=.slice (some ⟨b,off,none⟩) xs.length cap/\xs.length<=cap/\cap<=maxLen/\off+cap*AT.size α<=arr.size/\
  D3 I w (λi=>arr[off+i]?) xs
theorem Bw.Tw[AT α]{I:BY}{w:World}{b cap n:Nat}{arr:Array Value}{e0:TypeId}{xs:List α}(hn:n=xs.length)(h1:xs.length<=cap)(h2:cap<=maxLen)(h3:cap*AT.size α<=arr.size)(h4:D3 I w (arr[·]?) xs):Bw I w [(b,.cells arr e0 (0,0))] (.slice (some ⟨b,0,none⟩) n cap) xs:=
 ⟨.inr ⟨b,arr,cap,e0,0,rfl,by rw[hn],h1,h2,by rw[Nat.zero_add];exact h3,by simpa only[Nat.zero_add] using h4⟩⟩
theorem Bw.mono{α:Type}[AT α]{I I':BY}{w w':World}{A:Bh}{v:Value}{xs:List α}(h:Ext I w I' w')(o:Bw I w A v xs):Bw I' w' A v xs:=by
 rcases o.ex with o|⟨b,arr,cap,e0,off,h1,h2,h3,h4,h5,h6⟩
 .exact⟨.inl o⟩
 .exact⟨.inr ⟨b,arr,cap,e0,off,h1,h2,h3,h4,h5,h6.mono h⟩⟩
theorem Bw.nil{α:Type}[AT α]{I:BY}{w:World}:Bw I w [] (.slice none 0 0) ([]:List α):=⟨.inl ⟨rfl,rfl,rfl⟩⟩
theorem Bw.len{α:Type}[AT α]{I:BY}{w:World}{A:Bh}{v:Value}{xs:List α}(o:Bw I w A v xs):∃a cap,v=.slice a xs.length cap/\xs.length<=9223372036854775807:=by
 rcases o.ex with ⟨rfl,rfl,rfl⟩|⟨b,arr,cap,e0,off,h1,h2,h3,h4,h5,h6⟩
 .exact⟨_,_,rfl,by simp⟩
 .unfold maxLen at h4;exact⟨_,_,h2,by omega⟩
variable {v:Value}
theorem Bw.cast[AT α]{I:BY}{w:World}{A:Bh}{xs ys:List α}(h:xs=ys)(o:Bw I w A v xs):Bw I w A v ys:=h▸o
theorem Bw.bd{α:Type}[AT α]{I:BY}{w:World}{A:Bh}{v:Value}{xs:List α}(o:Bw I w A v xs):xs.length<=9223372036854775807:=by obtain⟨_,_,_,h⟩:=o.len;exact h
theorem Bp{w:World}{b o:Nat}{arr:Array Value}{e:TypeId}{fr:Nat×Nat}(h:w.heap[b]?=some (.cells arr e fr)):w.cell? ⟨b,o,none⟩=arr[o]?:=by simp [World.cell?,h]
theorem Bw.freeze{α:Type}[AT α]{I:BY}{w:World}{A T:Bh}{v:Value}{xs:List α}(o:Bw I w A v xs)(hs:St I w (A++T)):∃I',Ext I w I' w/\St I' w T/\rep I' w v xs:=by
 rcases o.ex with ⟨rfl,rfl,rfl⟩|⟨b,arr,cap,e0,off,rfl,rfl,h3,h4,h5,h6⟩
 .exact⟨I,Ext.refl _ _,hs,Af8 (by simp [NS])⟩
 .obtain⟨he,hs'⟩:=hs.freeze;refine⟨_,he,hs',?_⟩;refine⟨⟨_,cap,rfl,h3,by unfold maxLen at h4;unfold NS;omega,.inr ⟨b,off,rfl,.inr ⟨_,List.mem_singleton.2 rfl,rfl⟩,λj hj=>?_⟩⟩⟩;obtain⟨u,hu,hc⟩:=h6 j hj;refine⟨u,he.rep hu,rfl,λi hi=>?_⟩;have hb:=(hs.own (b,.cells arr e0 (0,0)) (by simp)).1;rw[Bp hb,Nat.add_assoc];exact hc i hi
theorem Yc[AT α]{I:BY}{w:World}{xs:List α}(h:rep I w v xs)(hne:xs≠[]):∃a cap,v=.slice (some a) xs.length cap/\∃news:List Value,news.length=xs.length*AT.size α/\(∀j u,news[j]?=some u->w.cell? (a.add j)=some u)/\(∀u∈news,u.oneCell'=true)/\D3 I w (news[·]?) xs:=by
 obtain⟨a,cap,hv,_,_,he⟩:=h.ex;rcases he with he|⟨b,off,rfl,hb,he⟩
 .exact absurd he hne
 have hp:0<AT.size α:=AT.pos;have at_:∀n,n<xs.length*AT.size α->∃u,w.cell? ⟨b,off+n,none⟩=some u/\u.oneCell'=true/\∀(hj:n/AT.size α<xs.length),True:=by
  intro n hn;have hj:n/AT.size α<xs.length:=(Nat.div_lt_iff_lt_mul hp).2 hn;obtain⟨v,hv1,hv2⟩:=he _ hj;have hi:n%AT.size α<v.cells.size:=by rw[AT.cells hv1];exact Nat.mod_lt _ hp
  have:=hv2.2 _ hi;have hdm:off+n/AT.size α*AT.size α+n%AT.size α=off+n:=by rw[Nat.add_assoc,Nat.div_add_mod']
  rw[hdm,Array.getElem?_eq_getElem hi]at this;exact⟨_,this,AT.one hv1 _ (Array.getElem_mem_toList hi),λ_=>trivial⟩
 refine⟨⟨b,off,none⟩,cap,hv,(List.range (xs.length*AT.size α)).map λn=>(w.cell? ⟨b,off+n,none⟩).getD undef,by simp,?_,?_,?_⟩
 .intro j u hu;rw[List.getElem?_map]at hu;by_cases hj:j<xs.length*AT.size α
  .rw[List.getElem?_range hj]at hu;obtain⟨u',h1,_⟩:=at_ j hj
   simp only[Option.map_some,h1,Option.getD_some,Option.some.injEq]at hu;rw[DM,h1,hu]
  .rw[List.getElem?_eq_none (by simpa using hj)]at hu;simp at hu
 .intro u hu;obtain⟨n,hn,rfl⟩:=List.mem_map.1 hu;obtain⟨u',h1,h2,_⟩:=at_ n (by simpa using hn)
  simpa [h1] using h2
 .intro j hj;obtain⟨u,hu1,hu2⟩:=he j hj;refine⟨u,hu1,λi hi=>?_⟩;have hlt:j*AT.size α+i<xs.length*AT.size α:=by
   have h1:i<AT.size α:=by rw[<-AT.cells hu1];exact hi
   have:(j+1)*AT.size α<=xs.length*AT.size α:=Nat.mul_le_mul_right _ hj;rw[Nat.add_mul,Nat.one_mul]at this;omega
  show (List.map _ _)[_]?=_;rw[List.getElem?_map,List.getElem?_range hlt];have:=hu2.2 i hi;rw[Nat.add_assoc]at this;simp only[Option.map_some,this];rw[Array.getElem?_eq_getElem hi];rfl
def grow(I:BY)(A:Bh):BY:=λb=>I b∨∃p∈A,p.1=b
theorem Bw.A21[AT α]{I:BY}{w:World}{A T:Bh}{xs:List α}(o:Bw I w A v xs)(hs:St I w (A++T)):Ext I w (grow I A) w/\St (grow I A) w T/\rep (grow I A) w v xs:=by
 obtain⟨he,hs'⟩:=hs.freeze;refine⟨he,hs',?_⟩;rcases o.ex with ⟨rfl,rfl,rfl⟩|⟨b,arr,cap,e0,off,rfl,rfl,h3,h4,h5,h6⟩
 .exact Af8 (by simp [NS])
 .refine⟨⟨_,cap,rfl,h3,by unfold maxLen at h4;unfold NS;omega,.inr ⟨b,off,rfl,.inr ⟨_,List.mem_singleton.2 rfl,rfl⟩,λj hj=>?_⟩⟩⟩;obtain⟨u,hu,hc⟩:=h6 j hj;refine⟨u,he.rep hu,rfl,λi hi=>?_⟩;have hb:=(hs.own (b,.cells arr e0 (0,0)) (by simp)).1;rw[Bp hb,Nat.add_assoc];exact hc i hi
structure Nws{α:Type}[AT α](I:BY)(w:World)(v:Value)(xs:List α):Prop where
 sh:∃a cap,v=.slice a xs.length cap
 ne:xs≠[]->∃a cap,v=.slice (some a) xs.length cap/\∃news:List Value,news.length=xs.length*AT.size α/\
  (∀j u,news[j]?=some u->w.cell? (a.add j)=some u)/\(∀u∈news,u.oneCell'=true)/\D3 I w (news[·]?) xs
theorem Nws.Au7{α:Type}[AT α]{I:BY}{w:World}{v:Value}{xs:List α}(h:rep I w v xs):Nws I w v xs:=⟨(by obtain⟨a,cap,hv,_⟩:=h.ex;exact⟨a,cap,hv⟩),λhne=>Yc h hne⟩
theorem Nws.Au8{α:Type}[AT α]{I:BY}{w:World}{A T:Bh}{v:Value}{xs:List α}(h:Bw I w A v xs)(hs:St I w (A++T)):Nws I w v xs:=by
 refine⟨(by obtain⟨a,cap,hv,_⟩:=h.len;exact⟨a,cap,hv⟩),λhne=>?_⟩;obtain⟨_,_,hr⟩:=h.A21 hs;obtain⟨a,cap,hv,news,h1,h2,h3,h4⟩:=Yc hr hne;refine⟨a,cap,hv,news,h1,h2,h3,λj hj=>?_⟩;rcases h.ex with ⟨_,h6,_⟩|⟨b,arr,cap',e0,off,rfl,hv',h7,h8,h9,h10⟩
 .exact absurd h6 hne
 obtain⟨u,hu,hc⟩:=h10 j hj;rw[hv]at hv';cases hv';refine⟨u,hu,λi hi=>?_⟩;have hlt:j*AT.size α+i<news.length:=by
  have h11:i<AT.size α:=by rw[<-AT.cells hu];exact hi
  have:(j+1)*AT.size α<=xs.length*AT.size α:=Nat.mul_le_mul_right _ hj;rw[Nat.add_mul,Nat.one_mul]at this;omega
 have hb:=(hs.own (b,.cells arr e0 (0,0)) (by simp)).1;have h12:=h2 (j*AT.size α+i) _ (List.getElem?_eq_getElem hlt);rw[DM,Bp hb]at h12;show news[j*AT.size α+i]?=_;rw[List.getElem?_eq_getElem hlt,<-h12];exact hc i hi
section
variable {P:Program} {I:BY} {w:World} {T A:Bh} {t e:TypeId} {nb:Nat}
theorem Afa{α:Type}[AT α]{v yv:Value}{xs ys:List α}{ty:TypeId}(hs:St I w (A++T))(ho:Bw I w A v xs)(hy:Nws I w yv ys)(ht:Slc P t e (AT.size α) nb)(hb:(xs.length+ys.length)*nb<=140737488355328)(hl:xs.length+ys.length<=9223372036854775807):∃v' A' w',(Builtin.append_ #[t,t] ty #[v,yv]).run P w=.ok v' w'/\Ext I w I w'/\St I w' (A'++T)/\Bw I w' A' v' (xs++ys):=by
 obtain⟨i,z,hi,hsz,hnb,hz,hzs⟩:=ht.info;have hu:=ht.under;by_cases hne:ys=[]
 .subst hne;obtain⟨a',cap',hyv⟩:=hy.sh;refine⟨v,A,w,?_,Ext.refl _ _,hs,by simpa using ho⟩;have hf0:∀(a:Option Addr)(cap:Nat),(Builtin.firstCells (AT.size α) 0 (.slice a 0 cap)).run P w=.ok #[] w:=λa cap=>by cases a<;>simp [Builtin.firstCells,loadCells,loadCellsFrom]
  rcases ho.ex with ⟨rfl,rfl,rfl⟩|⟨b,arr,cap,e0,off,rfl,rfl,h3,h4,h5,h6⟩
  .simp [Builtin.append_,run_underlying hu,sizeOf,typeInfo,hi,hsz,Builtin.lenOf,hyv,hf0]
  .simp [Builtin.append_,run_underlying hu,sizeOf,typeInfo,hi,hsz,Builtin.lenOf,hyv,hf0,h3,storeCells]
 obtain⟨a,c,hyv,news,hnl,hnews,hone,hel⟩:=hy.ne hne;subst hyv;have hyl:0<ys.length:=List.length_pos_iff.2 hne;have hp:0<AT.size α:=AT.pos;rcases ho.ex with ⟨rfl,rfl,rfl⟩|⟨b,arr,cap,e0,off,rfl,rfl,h3,h4,h5,h6⟩
 .simp only[List.length_nil,Nat.zero_add]at hb hl;have hr:=run_append_nil (P:=P) w t ty e i z hu hi hz a ys.length c news (by rw[hsz];exact hnl) hnews hyl (by omega) (by rw[hnb];omega);have hge:=grownCap_ge w ys.length 0 e;have hcm:=grownCap_le_maxLen w ys.length 0 e (by unfold maxLen;omega);obtain⟨e1,s1⟩:=hs.drew (w.drawn+1);obtain⟨e2,s2⟩:=s1.alloc (.cells (news.toArray++Builtin.zeroCells z.cells (grownCap w ys.length 0 e-ys.length)) e);refine⟨_,_,_,hr,e1.trans e2,s2,Bw.Tw rfl hge hcm ?_ ?_⟩
  .simp only[Array.size_append,List.size_toArray,size_zeroCells,hzs,hnl,<-Nat.add_mul];exact Nat.mul_le_mul_right _ (by omega)
  .refine(hel.mono (e1.trans e2)).append (ys:=[]) (g2:=λ_=>none) (λj hj=>by simp at hj) ?_ (by simp) |> λh=>by simpa using h
   intro i hi;rw[Array.getElem?_append_left (by simpa [hnl] using hi)];simp
 .have hg:=(hs.own (b,.cells arr e0 (0,0)) (by simp)).1;have hle:off+xs.length*AT.size α<=arr.size:=Nat.le_trans (Nat.add_le_add_left (Nat.mul_le_mul_right _ h3) _) h5;by_cases hroom:xs.length+ys.length<=cap
  .have hfit:off+xs.length*i.size+news.length<=arr.size:=by rw[hsz,hnl,Nat.add_assoc,<-Nat.add_mul];exact Nat.le_trans (Nat.add_le_add_left (Nat.mul_le_mul_right _ hroom) _) h5
   have hfc:=run_firstCells_some (P:=P) w i.size ys.length a ys.length c news (by rw[hsz];exact hnl) hnews;have hst:=run_storeCells_at P b (off+xs.length*i.size) e0 news 0 arr w hg (by simpa using hfit) hone;simp only[Nat.add_zero]at hst;have hr:(Builtin.append_ #[t,t] ty #[.slice (some ⟨b,off,none⟩) xs.length cap,.slice (some a) ys.length c]).run P w=.ok (.slice (some ⟨b,off,none⟩) (xs.length+ys.length) cap) (w.setRow b (List.take (off+xs.length*i.size) arr.toList++news++List.drop (off+xs.length*i.size+news.length) arr.toList).toArray):=by simp [Builtin.append_,run_underlying hu,sizeOf,typeInfo,hi,Builtin.lenOf,hroom,hfc,DM,hst]
   rw[hsz]at hr hfit;obtain⟨e1,s1⟩:=hs.write (w':=w.setRow b _) rfl rfl rfl (by simp [World.setRow]) (setRow_heap w b arr _ e0 _ hg) (λc hc=>setRow_other w b c _ hc);refine⟨_,_,_,hr,e1,s1,⟨.inr ⟨b,_,cap,_,off,rfl,by simp,by simpa using hroom,h4,?_,?_⟩⟩⟩
   .simp only[List.size_toArray,List.length_append,List.length_take,List.length_drop,Array.length_toList];omega
   .have hlen:(List.take (off+xs.length*AT.size α) arr.toList).length=off+xs.length*AT.size α:=by rw[List.length_take,show arr.toList.length=arr.size from rfl];omega
    refine(h6.mono e1).append (hel.mono e1) ?_ ?_
    .intro i hi;simp only[List.getElem?_toArray,List.append_assoc];rw[List.getElem?_append_left (by omega),List.getElem?_take_of_lt (by omega),Array.getElem?_toList]
    .intro i hi;simp only[List.getElem?_toArray,List.append_assoc];rw[<-Nat.add_assoc,List.getElem?_append_right (by omega),hlen,Nat.add_sub_cancel_left,List.getElem?_append_left (by rw[hnl];exact hi)]
  .have hdl:(arr.toList.drop off).length=arr.size-off:=by rw[List.length_drop];rfl
   have holds:∀j u,((arr.toList.drop off).take (xs.length*AT.size α))[j]?=some u->w.cell? ((⟨b,off,none⟩:Addr).add j)=some u:=by
    intro j u hu;rw[DM,Bp hg];by_cases hj:j<xs.length*AT.size α
    .rw[List.getElem?_take_of_lt hj,List.getElem?_drop,Array.getElem?_toList]at hu;exact hu
    .rw[List.getElem?_eq_none (by rw[List.length_take];omega)]at hu;simp at hu
   have hlo:((arr.toList.drop off).take (xs.length*AT.size α)).length=xs.length*i.size:=by rw[List.length_take,hdl,hsz];omega
   have hr:=run_append_grow (P:=P) w t ty e i z hu hi hz ⟨b,off,none⟩ xs.length cap ((arr.toList.drop off).take (xs.length*AT.size α)) hlo holds a ys.length c news (by rw[hsz];exact hnl) hnews (by omega) (by omega)
    (growslice_fits (by omega) (by rw[hnb];exact hb))
   have hge:=grownCap_ge w (xs.length+ys.length) cap e;have hcm:=grownCap_le_maxLen w (xs.length+ys.length) cap e (by unfold maxLen;omega);obtain⟨e1,s1⟩:=hs.drop.drew (w.drawn+1);obtain⟨e2,s2⟩:=s1.alloc (.cells (((arr.toList.drop off).take (xs.length*AT.size α)).toArray++news.toArray++Builtin.zeroCells z.cells (grownCap w (xs.length+ys.length) cap e-(xs.length+ys.length))) e);refine⟨_,_,_,hr,e1.trans e2,s2,Bw.Tw (by simp) (by simpa using hge) hcm ?_ ?_⟩
   .simp only[Array.size_append,List.size_toArray,size_zeroCells,hzs,hnl,hlo,hsz,<-Nat.add_mul];exact Nat.mul_le_mul_right _ (by omega)
   .rw[hsz]at hlo;refine(h6.mono (e1.trans e2)).append (hel.mono (e1.trans e2)) ?_ ?_
    .intro i hi;rw[Array.getElem?_append_left (by simp only[Array.size_append,List.size_toArray];omega),Array.getElem?_append_left (by simp only[List.size_toArray];omega)];simp only[List.getElem?_toArray];rw[List.getElem?_take_of_lt hi,List.getElem?_drop,Array.getElem?_toList]
    .intro i hi;rw[Array.getElem?_append_left (by simp only[Array.size_append,List.size_toArray];omega),Array.getElem?_append_right (by simp only[List.size_toArray];omega)];simp only[List.getElem?_toArray,List.size_toArray,hlo,Nat.add_sub_cancel_left]
end
end
section
section
variable {P:Program} {N:Nat} {ops:Array Oper} {R:List PanicEntry->World->Prop} {m:Bool} {K:Fr->World->Prop} {os:List Oper} {f:Fr} {w:World}
variable {dst:Option Tmp} {ty:TypeId} {pos:String} {af:Array Edge} {I:BY} {T A:Bh} {x y:Operand} {t e u:TypeId} {sz nb:Nat}
variable {α:Type} {v:Value}
theorem XV[AT α]{yv:Value}{xs ys:List α}(ht:WH P t e (AT.size α) nb=true)(hs:St I w (A++T))(ho:Bw I w A v xs)(hy:Nws I w yv ys)(hx:ev f x=v)(hyv:ev f y=yv)(hb:(xs.length+ys.length)*nb<=140737488355328)(hl:xs.length+ys.length<=9223372036854775807)(h:∀v' A' w',Ext I w I w'->St I w' (A'++T)->Bw I w' A' v' (xs++ys)->WL P N ops R m K os (put N f dst v') w'):WL P N ops R m K (⟨dst,.call ⟨.builtin .append,#[x,y],#[t,t]⟩,ty,pos,af,none⟩::os) f w:=by obtain⟨v',A',w',hr,he,hs',ho'⟩:=Afa (ty:=ty) hs ho hy (EO ht) hb hl;refine Ay ?_ (h v' A' w' he hs' ho');simp [execOp,resolve,invoke,builtin,hx,hyv,hr]
theorem Avg[AT α]{d:α}(hs:St I w T)(hr:rep I w v d)(hx:ev f x=v)(h:∀a I' w',Ext I w I' w'->St I' w' T->I' a.block->Dl w' a v->rep I' w' v d->WL P N ops R m K os (put N f dst (.pointer (some a))) w'):WL P N ops R m K (⟨dst,.box e x,ty,pos,af,none⟩::os) f w:=by
 obtain⟨e1,s1⟩:=hs.alloc (.cells v.cells e);obtain⟨e2,s2⟩:=s1.freeze;refine Ay (v:=.pointer (some ⟨w.heap.size,0,none⟩)) ?_ (h ⟨w.heap.size,0,none⟩ _ _ (e1.trans e2) s2 (.inr ⟨_,List.mem_singleton.2 rfl,rfl⟩) ⟨rfl,λj hj=>?_⟩ ((e1.trans e2).rep hr))
 .simp [execOp,Instr.box,newVar,newRow,hx]
 .rw[Bp (heap_alloc_new w _)];simp
def zrB(P:Program)(t:TypeId)(z:Value):Prop:=(P.info? t).bind (·.zero)=some z
variable {b:Nat}
theorem St.heap{o:Obj}(hs:St I w ([(b,o)]++T)):w.heap[b]?=some o:=(hs.own (b,o) (by simp)).1
variable {o:Nat} {cs:Array Value}
theorem U7{fr:Nat×Nat}(ht:Pg P t false 1=true)(hs:St I w ([(b,.cells cs e fr)]++T))(hx:ev f x=.pointer (some ⟨b,o,none⟩))(hv:cs[o]?=some v)(h:WL P N ops R m K os (put N f dst v) w):WL P N ops R m K (⟨dst,.load t x,ty,pos,af,none⟩::os) f w:=by
 refine Ay ?_ h;have hc:w.cell? ⟨b,o,none⟩=some v:=by rw[Bp hs.heap,hv]
 simp [execOp,Instr.loadAt,hx,Instr.sureAddr,loadVar,(GH (w:=w) ht).1,hc]
variable {n:Nat} {vs:List Value}
theorem RJ{fr:Nat×Nat}(ht:Pg P t true n=true)(hs:St I w ([(b,.cells cs e fr)]++T))(hx:ev f x=.pointer (some ⟨b,o,none⟩))(hv:(cs.toList.drop o).take n=vs)(hn:vs.length=n)(h:WL P N ops R m K os (put N f dst (.agg ⟨vs⟩)) w):WL P N ops R m K (⟨dst,.load t x,ty,pos,af,none⟩::os) f w:=by
 refine Ay ?_ h;have:=run_loadCells_list (P:=P) (w:=w) ⟨b,o,none⟩ vs (λj u hj=>by
  rw[DM,Bp hs.heap];subst hv;rw[List.getElem?_take]at hj;split at hj
  .rw[List.getElem?_drop,Array.getElem?_toList]at hj;exact hj
  .cases hj)
 rw[hn]at this;simp [execOp,Instr.loadAt,hx,Instr.sureAddr,loadVar,(GH (w:=w) ht).1,(GH (w:=w) ht).2,this]
theorem Vv{i off:Nat}(hf:flB P t i off=true)(hx:ev f x=.pointer (some ⟨b,o,none⟩))(h:WL P N ops R m K os (put N f dst (.pointer (some ⟨b,o+off,none⟩))) w):WL P N ops R m K (⟨dst,.fieldAddr t x i,ty,pos,af,none⟩::os) f w:=
 Ay (by simp [execOp,hx,Ark hf,DM]) h
theorem Amg{i off:Nat}(hf:∃fs fd,P.underlying t=some (.struct fs)/\fs[i]?=some fd/\fd.offset=off/\Pg P fd.type false 1=true)(hx:ev f x=.agg cs)(hv:cs[off]?=some v)(h:WL P N ops R m K os (put N f dst v) w):WL P N ops R m K (⟨dst,.field t x i,ty,pos,af,none⟩::os) f w:=by obtain⟨fs,fd,h1,h2,h3,h4⟩:=hf;refine Ay ?_ h;subst h3;simp [execOp,Instr.field,run_underlying h1,h2,hx,asAgg,part,(GH (w:=w) h4).1,hv]
def enum:Nat->List Value->List (Nat×Value)
 |_,[]=>[]
 |n,v::vs=>(n,v)::enum (n+1) vs
theorem Yr{s:Nat}(hs:0<s):∀(vs:List Value)(n:Nat)(pre post:List Value),pre.length=n*s->post.length=vs.length*s->(∀v∈vs,v.cells.size=s)->Instr.fill (λi=>some (i*s,s)) (pre++post).toArray (enum n vs)=some (pre++vs.flatMap (·.cells.toList)).toArray
 | [],n,pre,post,_,hpost,_=>by have:post=[]:=List.eq_nil_of_length_eq_zero (by simpa using hpost);subst this;simp [enum,Instr.fill]
 |v::vs,n,pre,post,hpre,hpost,hv=>by
  have hvs:v.cells.size=s:=hv v (by simp);have hpl:post.length=s+vs.length*s:=by rw[hpost,List.length_cons,Nat.add_mul,Nat.one_mul,Nat.add_comm]
  simp only[enum,Instr.fill,hvs];have h1:(decide (s≠s) ||decide (n*s+s>(pre++post).toArray.size))=false:=by simp [hpre,hpl]
  rw[h1];simp only[Bool.false_eq_true,if_false];have Ac:∀(cs:List Value)(j:Nat)(a b c:List Value),b.length=j->c.length=cs.length->
    (cs.zipIdx j).foldl (λacc(p:Value×Nat)=>acc.setIfInBounds (n*s+p.2) p.1) ((pre++(b++(c++a))).toArray)=(pre++(b++(cs++a))).toArray:=by
   intro cs
   induction cs with
   |nil=>intro j a b c hb hc;have:c=[]:=List.eq_nil_of_length_eq_zero (by simpa using hc);subst this;simp
   |cons x cs ih=>
    intro j a b c hb hc;cases c with
    |nil=>simp at hc
    |cons y c=>
     simp only[List.zipIdx_cons,List.foldl_cons];have hx:(pre++(b++(y::c++a))).toArray.setIfInBounds (n*s+j) x=(pre++((b++[x])++(c++a))).toArray:=by apply Array.ext';simp only[Array.toList_setIfInBounds];rw[List.set_append_right _ _ (by omega),hpre,Nat.add_sub_cancel_left,List.set_append_right _ _ (by omega),hb,Nat.sub_self];simp
     rw[hx,ih (j+1) a (b++[x]) c (by simp [hb]) (by simpa using hc)];simp
  have hfold:=Ac v.cells.toList 0 (post.drop s) [] (post.take s) rfl (by rw[List.length_take,show v.cells.toList.length=v.cells.size from rfl];omega);simp only[List.nil_append,List.take_append_drop]at hfold;have hz:(Array.foldl (λcs(p:Value×Nat)=>cs.setIfInBounds (n*s+p.2) p.1) (pre++post).toArray v.cells.zipIdx)=(pre++(v.cells.toList++post.drop s)).toArray:=by rw[<-hfold,<-Array.foldl_toList];simp
  have:=Yr hs vs (n+1) (pre++v.cells.toList) (post.drop s) (by rw[List.length_append,hpre,show v.cells.toList.length=v.cells.size from rfl,hvs,Nat.add_mul,Nat.one_mul]) (by rw[List.length_drop];omega) (λu hu=>hv u (by simp [hu]));simp only[List.append_assoc]at this;rw[show (Array.foldl (λcs(x:Value×Nat)=>match x with|(c,j)=>cs.setIfInBounds (n*s+j) c) (pre++post).toArray v.cells.zipIdx)=(pre++(v.cells.toList++post.drop s)).toArray from hz,this];simp
theorem OO{α:Type}[AT α]:∀(xs:List α)(vs:List Value),vs.length=xs.length->(∀j(h:j<xs.length)(h':j<vs.length),rep I w vs[j] xs[j])->D3 I w ((vs.flatMap (·.cells.toList))[·]?) xs
 | [],_,_,_=>λj hj=>by simp at hj
 |x::xs,[],h,_=>by simp at h
 |x::xs,v::vs,h,hr=>by
  have h0:rep I w v x:=hr 0 (by simp) (by simp);have ht:=OO xs vs (by simpa using h) (λj h1 h2=>hr (j+1) (by simp;omega) (by simp;omega));have:=D3.append (xs:=[x]) (g1:=λi=>v.cells.toList[i]?) (g2:=λi=>(vs.flatMap (·.cells.toList))[i]?) (g:=λi=>((v::vs).flatMap (·.cells.toList))[i]?) (I:=I) (w:=w)
   (λj hj=>by
    obtain rfl:j=0:=by simpa using hj
    exact⟨v,by simpa using h0,λi hi=>by simp⟩) ht
   (λi hi=>by simp only[List.length_singleton,Nat.one_mul]at hi;rw[List.flatMap_cons,List.getElem?_append_left (by rw[show v.cells.toList.length=v.cells.size from rfl,AT.cells h0];exact hi)])
   (λi hi=>by rw[List.flatMap_cons,List.getElem?_append_right (by rw[show v.cells.toList.length=v.cells.size from rfl,AT.cells h0];simp)];congr 1;rw[show v.cells.toList.length=v.cells.size from rfl,AT.cells h0];simp)
  simpa using this
theorem KM[AT α]{ps:Array (Nat×Value)}{xs:List α}(ht:Slc P t e (AT.size α) nb)(hp:ps.toList=enum 0 vs)(hl:vs.length=xs.length)(hr:∀j(h:j<xs.length)(h':j<vs.length),rep I w vs[j] xs[j])(hn:xs.length*AT.size α<=16777216):(Instr.buildSlice t xs.length ps).run P w=.ok (.slice (some ⟨w.heap.size,0,none⟩) xs.length xs.length) (w.alloc (.cells (vs.flatMap (·.cells.toList)).toArray e)):=by
 obtain⟨i,z,hi,hsz,hnb,hz,hzs⟩:=ht.info;have hpos:0<AT.size α:=AT.pos;have hvs:∀v∈vs,v.cells.size=AT.size α:=λv hv=>by obtain⟨j,hj,rfl⟩:=List.getElem_of_mem hv;exact AT.cells (hr j (by omega) hj)
 have hf:=Yr hpos vs 0 [] ((List.range (xs.length*AT.size α)).map λn=>z.cells[n%z.cells.size]!) (by simp) (by simp [hl]) hvs;simp only[List.nil_append]at hf;have h24:¬(16777216<xs.length*AT.size α):=by omega
 simp only[Instr.buildSlice,Sem.run_bind,run_underlying ht.under,Result.andThen_ok,ht.size];simp only[Nat.reducePow,gt_iff_lt,h24,if_false];by_cases h0:xs.length*AT.size α=0
 .have hx0:xs.length=0:=by rcases Nat.mul_eq_zero.1 h0 with h|h<;>omega
  have hvs0:vs=[]:=List.eq_nil_of_length_eq_zero (by omega);subst hvs0;simp [hp,enum,Instr.fill,newRow,hx0,show Array.range 0=#[] from rfl]
 .have harr:(Array.range (xs.length*AT.size α)).map (λn=>z.cells[n%z.cells.size]!)=((List.range (xs.length*AT.size α)).map λn=>z.cells[n%z.cells.size]!).toArray:=by apply Array.ext';simp
  simp only[h0,if_false,Sem.run_bind,zeroValue,typeInfo,run_program,Result.andThen_ok,hi,Sem.run_pure,hz,hp,harr,hf,newRow,run_newObj];rfl
def Ac9{α:Type}[AT α](I:BY)(w:World):List Value->List α->Prop
 | [],[]=>True
 |v::vs,x::xs=>rep I w v x/\Ac9 I w vs xs
 |_,_=>False
theorem Ac9.get{α:Type}[AT α]{I:BY}{w:World}:∀{vs:List Value}{xs:List α},Ac9 I w vs xs->vs.length=xs.length/\∀j(h:j<xs.length)(h':j<vs.length),rep I w vs[j] xs[j]
 | [],[],_=>⟨rfl,λj h=>by simp at h⟩
 |[],_::_,h|_::_,[],h=>h.elim
 |v::vs,x::xs,h=>by
  obtain⟨h1,h2⟩:=Ac9.get h.2;refine⟨by simp [h1],λj hj hj'=>?_⟩;cases j with
  |zero=>exact h.1
  |succ j=>exact h2 j (by simpa using hj) (by simpa using hj')
theorem Azh[AT α]{ps:Array (Nat×Operand)}{xs:List α}(ht:WH P t e (AT.size α) nb=true)(hs:St I w T)(hp:(ps.toList.map λp=>(p.1,ev f p.2))=enum 0 vs)(hr0:Ac9 I w vs xs)(hn0:Nat.ble (xs.length*AT.size α) 16777216=true)(hx:xs.length=n)(h:∀v I' w',Ext I w I' w'->St I' w' T->rep I' w' v xs->WL P N ops R m K os (put N f dst v) w'):WL P N ops R m K (⟨dst,.buildSlice t n ps,ty,pos,af,none⟩::os) f w:=by
 subst hx;obtain⟨hl,hr⟩:=hr0.get;have hn:=Nat.le_of_ble_eq_true hn0;have hrun:=KM (ps:=ps.map λp=>(p.1,ev f p.2)) (EO ht) (by simpa using hp) hl hr hn;obtain⟨e1,s1⟩:=hs.alloc (.cells (vs.flatMap (·.cells.toList)).toArray e);obtain⟨e2,s2⟩:=s1.freeze;have h12:=e1.trans e2;refine Ay (by simp only[execOp,Sem.run_bind];rw[show (ps.map λ(x:Nat×Operand)=>match x with|(i,x)=>(i,ev f x))=ps.map (λp=>(p.1,ev f p.2)) from rfl,hrun];rfl) (h _ _ _ h12 s2 ?_);refine⟨⟨_,_,rfl,Nat.le_refl _,?_,.inr ⟨w.heap.size,0,rfl,.inr ⟨_,List.mem_singleton.2 rfl,rfl⟩,λj hj=>?_⟩⟩⟩
 .have:xs.length<=xs.length*AT.size α:=Nat.le_mul_of_pos_right _ AT.pos;unfold NS;omega
 .obtain⟨v,h1,h2⟩:=(OO xs vs hl hr).mono h12 j hj;exact⟨v,h1,rfl,λi hi=>by rw[Bp (heap_alloc_new w _)];simpa using h2 i hi⟩
theorem Amh[AT α]{ps:Array (Nat×Operand)}{xs:List α}(ht:WH P t e (AT.size α) nb=true)(hs:St I w T)(hp:(ps.toList.map λp=>(p.1,ev f p.2))=enum 0 vs)(hr0:Ac9 I w vs xs)(hn0:Nat.ble (xs.length*AT.size α) 16777216=true)(hx:xs.length=n)(h:∀v A w',Ext I w I w'->St I w' (A++T)->Bw I w' A v xs->WL P N ops R m K os (put N f dst v) w'):WL P N ops R m K (⟨dst,.buildSlice t n ps,ty,pos,af,none⟩::os) f w:=by
 subst hx;obtain⟨hl,hr⟩:=hr0.get;have hn:=Nat.le_of_ble_eq_true hn0;have hrun:=KM (ps:=ps.map λp=>(p.1,ev f p.2)) (EO ht) (by simpa using hp) hl hr hn;obtain⟨e1,s1⟩:=hs.alloc (.cells (vs.flatMap (·.cells.toList)).toArray e);refine Ay (by simp only[execOp,Sem.run_bind];rw[show (ps.map λ(x:Nat×Operand)=>match x with|(i,x)=>(i,ev f x))=ps.map (λp=>(p.1,ev f p.2)) from rfl,hrun];rfl) (h _ _ _ e1 s1 ?_);have hle:xs.length<=xs.length*AT.size α:=Nat.le_mul_of_pos_right _ AT.pos;refine Bw.Tw rfl (Nat.le_refl _) (by unfold maxLen;omega) ?_ ?_
 .have:∀(l:List Value),(∀v∈l,v.cells.size=AT.size α)->(l.flatMap (·.cells.toList)).length=l.length*AT.size α:=by
   intro l;induction l with
   |nil=>intro _;simp
   |cons v l ih=>intro hv;rw[List.flatMap_cons,List.length_append,ih (λu hu=>hv u (by simp [hu])),show v.cells.toList.length=v.cells.size from rfl,hv v (by simp),List.length_cons,Nat.add_mul];omega
  simp only[List.size_toArray];rw[this vs (λv hv=>by obtain⟨j,hj,rfl⟩:=List.getElem_of_mem hv;exact AT.cells (hr j (by omega) hj)),hl];exact Nat.le_refl _
 .refine λj hj=>?_;obtain⟨v,h1,h2⟩:=(OO xs vs hl hr).mono e1 j hj;exact⟨v,h1,λi hi=>by simpa using h2 i hi⟩
end
end
section
section
variable {P:Program} {N:Nat} {ops:Array Oper} {R:List PanicEntry->World->Prop} {m:Bool} {K:Fr->World->Prop} {os:List Oper} {f:Fr} {w:World}
variable {dst:Option Tmp} {ty:TypeId} {pos:String} {af:Array Edge} {I:BY} {T A:Bh} {x y z:Operand} {t e u:TypeId} {sz nb:Nat} {kd:IntKind} {a b c:Int}
theorem Aa1{α:Type}[AT α]{v:Value}{xs:List α}(hr:rep I w v xs):∃a cap,v=.slice a xs.length cap/\xs.length<=cap/\cap<=NS/\∀lo hi m,lo<=hi->hi<=xs.length->hi<=m->m<=cap->rep I w (.slice (if m=lo then a else a.map (·.add (lo*AT.size α))) (hi-lo) (m-lo)) ((xs.drop lo).take (hi-lo)):=by
 obtain⟨a,cap,hv,h1,h2,he⟩:=hr.ex;refine⟨a,cap,hv,h1,h2,λlo hi m h3 h4 h5 h6=>?_⟩;have hlen:((xs.drop lo).take (hi-lo)).length=hi-lo:=by simp;omega
 refine⟨⟨_,m-lo,by rw[hlen],by omega,by omega,?_⟩⟩;by_cases hz:hi=lo
 .exact .inl (by rw[hz,Nat.sub_self];simp)
 rcases he with he|⟨b,off,rfl,hb,he⟩
 .subst he;simp at h4;omega
 rw[if_neg (by omega)];refine .inr ⟨b,off+lo*AT.size α,by simp [DM],hb,λj hj=>?_⟩;rw[hlen]at hj;obtain⟨u,hu1,hu2⟩:=he (lo+j) (by omega);refine⟨u,?_,?_⟩
 .rw[List.getElem_take,List.getElem_drop];exact hu1
 .rw[Nat.add_assoc,<-Nat.add_mul];exact hu2
end
end
section
section
variable {P:Program} {I:BY} {w:World} {T A:Bh} {t e:TypeId} {nb:Nat} {α:Type} [AT α]
variable {xs:List α}
theorem D3.take{get:Nat->Option Value}(n:Nat)(h:D3 I w get xs):D3 I w get (xs.take n):=λj hj=>by obtain⟨u,h1,h2⟩:=h j (by simp at hj;omega);exact⟨u,by rw[List.getElem_take];exact h1,h2⟩
theorem D3.drop{get:Nat->Option Value}(n:Nat)(h:D3 I w get xs):D3 I w (λk=>get (n*AT.size α+k)) (xs.drop n):=λj hj=>by obtain⟨u,h1,h2⟩:=h (n+j) (by simp at hj;omega);exact⟨u,by rw[List.getElem_drop];exact h1,λi hi=>by have:=h2 i hi;rw[Nat.add_mul,Nat.add_assoc]at this;exact this⟩
theorem D3.congr{g g':Nat->Option Value}(h:D3 I w g xs)(hg:∀i,i<xs.length*AT.size α->g' i=g i):D3 I w g' xs:=by have:=D3.append (ys:=[]) (g2:=λ_=>none) h (λj hj=>by simp at hj) hg (by simp);simpa using this
def At(v:Value)(sz j:Nat)(a:Addr):Prop:=∃b off len cap,v=.slice (some ⟨b,off,none⟩) len cap/\a=⟨b,off+j*sz,none⟩
theorem Aia{v y:Value}{x:α}{j:Nat}{a:Addr}{u:TypeId}(ho:Bw I w A v xs)(hs:St I w (A++T))(ha:At v (AT.size α) j a)(hj:j<xs.length)(hy:rep I w y x)(hu:Pg P u (AT.agg α) (AT.size α)=true):∃A' w',(Instr.storeAt u (.pointer (some a)) y).run P w=.ok () w'/\Ext I w I w'/\St I w' (A'++T)/\Bw I w' A' v (xs.set j x):=by
 rcases ho.ex with ⟨_,rfl,_⟩|⟨b,arr,cap,e0,off,rfl,rfl,h3,h4,h5,h6⟩
 .simp at hj
 obtain⟨b',off',len',cap',hA,rfl⟩:=ha;cases hA;have hys:=AT.cells hy;have hle:off+(j+1)*AT.size α<=arr.size:=Nat.le_trans (Nat.add_le_add_left (Nat.mul_le_mul_right _ (by omega)) _) h5;rw[Nat.add_mul,Nat.one_mul]at hle;have hst:=run_storeCells_at P b (off+j*AT.size α) e0 y.cells.toList 0 arr w hs.heap (by rw[show y.cells.toList.length=y.cells.size from rfl];omega) (AT.one hy);simp only[Nat.add_zero]at hst;generalize hrow:(List.take (off+j*AT.size α) arr.toList++y.cells.toList++List.drop (off+j*AT.size α+y.cells.toList.length) arr.toList).toArray=row at hst;obtain⟨e1,s1⟩:=hs.write (w':=w.setRow b row) rfl rfl rfl (by simp [World.setRow]) (setRow_heap w b arr _ e0 _ hs.heap) (λc hc=>setRow_other w b c _ hc);refine⟨_,_,?_,e1,s1,⟨.inr ⟨b,_,cap,_,off,rfl,by simp,by simpa using h3,h4,?_,?_⟩⟩⟩
 .simp [Instr.storeAt,Instr.sureAddr,storeVar,(GH (w:=w) hu).2,hys,hst]
 all_goals subst hrow
 .simp only[List.size_toArray,List.length_append,List.length_take,List.length_drop,Array.length_toList];omega
 .have hlen:(List.take (off+j*AT.size α) arr.toList).length=off+j*AT.size α:=by rw[List.length_take,show arr.toList.length=arr.size from rfl];omega
  have hget:∀i,(List.take (off+j*AT.size α) arr.toList++y.cells.toList++List.drop (off+j*AT.size α+y.cells.toList.length) arr.toList)[off+i]? =
    if i<j*AT.size α then arr[off+i]? else if i<(j+1)*AT.size α then y.cells[i-j*AT.size α]? else arr[off+i]?:=by
   intro i
   rw[List.append_assoc,Nat.add_mul,Nat.one_mul]
   split
   .rename_i h;rw[List.getElem?_append_left (by omega),List.getElem?_take_of_lt (by omega),Array.getElem?_toList]
   .rw[List.getElem?_append_right (by omega),hlen,Nat.add_sub_add_left]
    split
    .rw[List.getElem?_append_left (by rw[show y.cells.toList.length=y.cells.size from rfl];omega),Array.getElem?_toList]
    .rw[List.getElem?_append_right (by rw[show y.cells.toList.length=y.cells.size from rfl];omega),List.getElem?_drop,Array.getElem?_toList,show y.cells.toList.length=y.cells.size from rfl]
     congr 1;omega
  intro k hk;rw[List.length_set]at hk;simp only[List.getElem?_toArray,hget];have ord:∀{k j i:Nat},k<j->i<AT.size α->k*AT.size α+i<j*AT.size α:=λ{k j i}hkj hi=>by have:(k+1)*AT.size α<=j*AT.size α:=Nat.mul_le_mul_right _ hkj;rw[Nat.add_mul,Nat.one_mul]at this;omega
  by_cases hkj:k=j
  .subst hkj;refine⟨y,by rw[List.getElem_set_self];exact e1.rep hy,λi hi=>?_⟩;rw[if_neg (by omega),if_pos (by rw[Nat.add_mul,Nat.one_mul];omega),Nat.add_sub_cancel_left]
  .obtain⟨z,z1,z2⟩:=h6 k hk;refine⟨z,by rw[List.getElem_set_ne (Ne.symm hkj)];exact e1.rep z1,λi hi=>?_⟩;have hi':i<AT.size α:=by rw[<-AT.cells z1];exact hi
   rcases Nat.lt_or_gt_of_ne hkj with h|h
   .rw[if_pos (ord h hi')];exact z2 i hi
   .have:=Nat.mul_le_mul_right (AT.size α) h;rw[if_neg (by rw[Nat.succ_mul]at this;omega),if_neg (by simp only[Nat.add_mul,Nat.one_mul];rw[Nat.succ_mul]at this;omega)];exact z2 i hi
def WY(v:Value)(j sz:Nat):Value:=match v with
 | .slice a len cap=>.slice (if cap=j then a else a.map (·.add (j*sz))) (len-j) (cap-j)
 |v=>v
theorem Bw.sub{v:Value}{xs:List α}{j:Nat}(ho:Bw I w A v xs)(hj:j<=xs.length):Bw I w A (WY v j (AT.size α)) (xs.drop j):=by
 rcases ho.ex with ⟨rfl,rfl,rfl⟩|⟨b,arr,cap,e0,off,rfl,rfl,h3,h4,h5,h6⟩
 .simp at hj;subst hj;exact Bw.nil
 .have hm:(cap-j)*AT.size α+j*AT.size α=cap*AT.size α:=by rw[<-Nat.add_mul];congr 1;omega
  by_cases hc:cap=j
  .have hd:xs.drop j=[]:=List.drop_eq_nil_of_le (by omega);refine⟨.inr ⟨b,arr,cap-j,e0,off,rfl,by simp [WY,hc],by simp;omega,by omega,by omega,?_⟩⟩;rw[hd];intro k hk;simp at hk
  .refine⟨.inr ⟨b,arr,cap-j,e0,off+j*AT.size α,rfl,by simp [WY,hc,DM],by simp;omega,by omega,by omega,(h6.drop j).congr λi hi=>by rw[Nat.add_assoc]⟩⟩
end
section
variable {P:Program} {N:Nat} {ops:Array Oper} {R:List PanicEntry->World->Prop} {m:Bool} {K:Fr->World->Prop} {os:List Oper} {f:Fr} {w:World}
variable {dst:Option Tmp} {ty:TypeId} {pos:String} {af:Array Edge} {I:BY} {T A:Bh} {x y z:Operand} {t e u:TypeId} {sz nb:Nat} {kd:IntKind} {a b c:Int}
theorem Aqk{α:Type}[AT α]{n:Nat}(ht:WH P t e (AT.size α) nb=true)(hs:St I w T)(hx:ev f x=.int .i64 0)(hy:ev f y=.int .i64 b)(hb:b=(n:Int))(hn:n<=9223372036854775807)(hnb:nb*n<=281474976710656)(h:∀v A w',Ext I w I w'->St I w' (A++T)->Bw I w' A v ([]:List α)->WL P N ops R m K os (put N f dst v) w'):WL P N ops R m K (⟨dst,.makeSlice t x y,ty,pos,af,none⟩::os) f w:=by
 obtain⟨i,z,hi,hsz,hbt,hz,hzs⟩:=(EO ht).info;have hu:=(EO ht).under;subst hb;have hw:IntKind.i64.wrap (n:Int)=n:=U2 (by omega) (by omega);have hw0:IntKind.i64.wrap 0=0:=by decide
 obtain⟨e1,s1⟩:=hs.alloc (.cells ((Array.range (n*AT.size α)).map λk=>(if n*AT.size α=0 then (#[]:Array Value) else z.cells)[k%(if n*AT.size α=0 then (#[]:Array Value) else z.cells).size]!) e);refine Ay (v:=.slice (some ⟨w.heap.size,0,none⟩) 0 n) ?_ (h _ _ _ e1 s1 (Bw.Tw rfl (Nat.zero_le _) (by unfold maxLen;omega) (by rw[Array.size_map,Array.size_range];exact Nat.le_refl _) λj hj=>by simp at hj));have h1:¬((i.bytes:Int)*(n:Int)>281474976710656):=by rw[hbt];have h2:((nb*n:Nat):Int)<=((281474976710656:Nat):Int):=Int.ofNat_le.2 hnb;rw[Int.natCast_mul]at h2;omega
 by_cases h0:n*AT.size α=0
 .simp [execOp,Instr.makeSlice,run_underlying hu,hx,hy,asInt,asIntOf,typeInfo,hi,hw,hw0,sizeOf,hsz,h0,newRow];omega
 .simp [execOp,Instr.makeSlice,run_underlying hu,hx,hy,asInt,asIntOf,typeInfo,hi,hw,hw0,sizeOf,hsz,h0,newRow,zeroValue,hz];omega
end
end
section
structure Jp(P:Program)(t:TypeId)(κ:Type)[AT κ][DecidableEq κ]:Prop where
 find:∀(I:BY)(w:World)(v:Value)(k:κ)(es:List MapEntry)(ks:List κ),rep I w v k->es.length=ks.length->(∀j(h:j<es.length)(h':j<ks.length),rep I w es[j].key ks[j])->
  (Instr.findKey t v es).run P w=.ok ((ks.findIdx? (·==k)).bind λi=>(es[i]?).map λe=>(i,e.val)) w
 check:∀(I:BY)(w:World)(v:Value)(k:κ)(e:Bool),rep I w v k->(Instr.checkKey e 10000 t v).run P w=.ok () w
 same:∀(I:BY)(w:World)(v u:Value)(k:κ),rep I w v k->rep I w u k->Instr.sameBits 10000 v u=true
theorem TX{k:Int}:∀(es:List MapEntry)(ks:List Int)(n:Nat),es.length=ks.length->(∀j(h:j<es.length)(h':j<ks.length),es[j].key=.int .i64 ks[j])->Instr.findNow (.int .i64) (.int .i64 k) es n=some ((ks.findIdx? (·==k)).bind λi=>(es[i]?).map λe=>(n+i,e.val))
 | [],[],n,_,_=>rfl
 |[],_::_,_,h,_|_::_,[],_,h,_=>by simp at h
 |e::es,x::ks,n,h,hk=>by
  have h0:e.key=.int .i64 x:=hk 0 (by simp) (by simp);have ih:=TX (k:=k) es ks (n+1) (by simpa using h) (λj h1 h2=>hk (j+1) (by simp;omega) (by simp;omega));simp only[Instr.findNow,h0,Instr.sameNow,if_true];by_cases hx:k=x
  .subst hx;simp [List.findIdx?_cons]
  .have hx':¬x=k:=λh=>hx h.symm;have:(k==x)=false:=by simpa using hx
   rw[this];simp only[ih,List.findIdx?_cons,show (x == k)=false by simpa using hx'];cases ks.findIdx? (· == k) with
   |none=>simp
   |some i=>simp [Nat.add_comm,Nat.add_left_comm]
theorem Jp.int{P:Program}{t:TypeId}(ht:P.underlying t=some (.int .i64)):Jp P t Int where
 find I w v k es ks hv hl hk:=by obtain rfl:=Aox.eq hv;have:=TX (k:=k) es ks 0 hl (λj h h'=>(hk j h h').eq);simp only[Nat.zero_add]at this;simp [Instr.findKey,run_underlying ht,this]
 check I w v k e hv:=by
  obtain rfl:=Aox.eq hv;have:∀n,(Instr.checkKey e (n+1) t (.int .i64 k)).run P w=.ok () w:=λn=>by simp [Instr.checkKey,run_underlying ht]
  exact this 9999
 same I w v u k hv hu:=by obtain rfl:=Aox.eq hv;obtain rfl:=Aox.eq hu;simp [Instr.sameBits]
def Ae{κ β:Type}[DecidableEq κ]:List (κ×β)->κ->Option β
 | [],_=>none
 |p::m,k=>if p.1=k then some p.2 else Ae m k
def BL{κ β:Type}[DecidableEq κ]:List (κ×β)->κ->β->List (κ×β)
 | [],k,v=>[(k,v)]
 |p::m,k,v=>if p.1=k then (p.1,v)::m else p::BL m k v
def Df{κ β:Type}[DecidableEq κ]:List (κ×β)->κ->List (κ×β)
 | [],_=>[]
 |p::m,k=>if p.1=k then m else p::Df m k
structure C4{κ β:Type}[AT κ][AT β](I:BY)(w:World)(A:Bh)(v:Value)(m:List (κ×β)):Prop where
 ex:∃b es clock,A=[(b,.map es clock)]/\v=.map (some b)/\es.toList.length=m.length/\∀j(h:j<es.toList.length)(h':j<m.length),rep I w es.toList[j].key m[j].1/\rep I w es.toList[j].val m[j].2
 bo:∀b es clock,A=[(b,.map es clock)]->(es.toList.map (·.born)).Nodup/\∀e∈es.toList,e.born<clock
theorem C4.mono{κ β:Type}[AT κ][AT β]{I I':BY}{w w':World}{A:Bh}{v:Value}{m:List (κ×β)}(h:C4 I w A v m)(e:Ext I w I' w'):C4 I' w' A v m:=by obtain⟨b,es,c,h1,h2,h3,h4⟩:=h.ex;exact⟨⟨b,es,c,h1,h2,h3,λj hj hj'=>⟨e.rep (h4 j hj hj').1,e.rep (h4 j hj hj').2⟩⟩,h.bo⟩
theorem Vo{b b':Nat}{es es':Array MapEntry}{c c':Nat}(h:(es.toList.map (·.born)).Nodup/\∀e∈es.toList,e.born<c)(e:([(b,.map es c)]:Bh)=[(b',.map es' c')]):(es'.toList.map (·.born)).Nodup/\∀e∈es'.toList,e.born<c':=by simp only[List.cons.injEq,Prod.mk.injEq,Obj.map.injEq,and_true]at e;obtain⟨_,rfl,rfl⟩:=e;exact h
theorem RR{κ β:Type}[DecidableEq κ]:∀(m:List (κ×β))(k:κ),Ae m k=((m.map (·.1)).findIdx? (·==k)).bind λi=>(m[i]?).map (·.2)
 | [],k=>rfl
 |p::m,k=>by
  have ih:=RR m k;unfold Ae;by_cases h:p.1=k
  .simp [h,List.findIdx?_cons]
  .rw[if_neg h,ih,List.map_cons,List.findIdx?_cons,show (p.1 == k)=false by simpa using h];cases (m.map (·.1)).findIdx? (· == k)<;>simp
theorem Abm{κ β:Type}[DecidableEq κ]:∀(m:List (κ×β))(k:κ)(v:β),BL m k v=match (m.map (·.1)).findIdx? (·==k) with
  |some i=>m.modify i λp=>(p.1,v)
  |none=>m++[(k,v)]
 | [],k,v=>rfl
 |p::m,k,v=>by
  have ih:=Abm m k v;unfold BL;by_cases h:p.1=k
  .simp [h,List.findIdx?_cons]
  .rw[if_neg h,ih,List.map_cons,List.findIdx?_cons,show (p.1 == k)=false by simpa using h];cases (m.map (·.1)).findIdx? (· == k)<;>simp
theorem Abp{κ β:Type}[DecidableEq κ]:∀(m:List (κ×β))(k:κ),Df m k=match (m.map (·.1)).findIdx? (·==k) with
  |some i=>m.eraseIdx i
  |none=>m
 | [],k=>rfl
 |p::m,k=>by
  have ih:=Abp m k;unfold Df;by_cases h:p.1=k
  .simp [h,List.findIdx?_cons]
  .rw[if_neg h,ih,List.map_cons,List.findIdx?_cons,show (p.1 == k)=false by simpa using h];cases (m.map (·.1)).findIdx? (· == k)<;>simp
structure Adb(P:Program)(t kt et:TypeId)(κ β:Type)[AT κ][AT β][DecidableEq κ]:Prop where
 und:P.underlying t=some (.map kt et)
 key:Jp P kt κ
section
variable {P:Program} {N:Nat} {ops:Array Oper} {R:List PanicEntry->World->Prop} {mo:Bool} {K:Fr->World->Prop} {os:List Oper} {f:Fr} {w:World}
variable {dst:Option Tmp} {ty:TypeId} {pos:String} {af:Array Edge} {I:BY} {T A:Bh} {t kt et:TypeId}
variable {κ β:Type} [AT κ] [AT β] [DecidableEq κ] {x y z:Operand}
theorem XT(κ β:Type)[AT κ][AT β](hs:St I w T)(h:∀v A w',Ext I w I w'->St I w' (A++T)->C4 I w' A v ([]:List (κ×β))->WL P N ops R mo K os (put N f dst v) w'):WL P N ops R mo K (⟨dst,.makeMap t none,ty,pos,af,none⟩::os) f w:=by obtain⟨e1,s1⟩:=hs.alloc (.map #[] 0);refine Ay (v:=.map (some w.heap.size)) ?_ (h _ _ _ e1 s1 ⟨⟨_,_,_,rfl,rfl,rfl,λj hj=>by simp at hj⟩,λ_ _ _ e=>Vo ⟨by simp,by simp⟩ e⟩);simp [execOp,run_makeMap]
theorem La{b c:Nat}{es:Array MapEntry}(hs:St I w ([(b,.map es c)]++T)):(getObj b).run P w=.ok (.map es c) w:=by have:=hs.heap;simp [getObj,Sem.run,this]
variable {v:Value} {m:List (κ×β)}
theorem Ame{as:Array TypeId}(ho:C4 I w A v m)(hs:St I w (A++T))(hx:ev f x=v)(ht:Adb P t kt et κ β)(hat:as[0]?=some t)(h:WL P N ops R mo K os (put N f dst (.int .i64 m.length)) w):WL P N ops R mo K (⟨dst,.call ⟨.builtin .len,#[x],as⟩,ty,pos,af,none⟩::os) f w:=by obtain⟨b,es,c,rfl,rfl,hl,_⟩:=ho.ex;refine Ay ?_ (by rw[<-hl]at h;exact h);simp [execOp,resolve,invoke,builtin,Builtin.len_,hat,hx,run_underlying ht.und,La hs,goInt]
theorem C4.find{v kv:Value}{m:List (κ×β)}{k:κ}(ht:Adb P t kt et κ β)(ho:C4 I w A v m)(hk:rep I w kv k):∃b es c,A=[(b,.map es c)]/\v=.map (some b)/\(Instr.findKey kt kv es.toList).run P w=.ok (((m.map (·.1)).findIdx? (· == k)).bind λi=>(es.toList[i]?).map λe=>(i,e.val)) w/\es.toList.length=m.length/\∀j(h:j<es.toList.length)(h':j<m.length),rep I w es.toList[j].key m[j].1/\rep I w es.toList[j].val m[j].2:=by obtain⟨b,es,c,h1,h2,hl,hr⟩:=ho.ex;exact⟨b,es,c,h1,h2,ht.key.find I w kv k _ _ hk (by simpa using hl) (λj h h'=>by rw[List.getElem_map];exact(hr j h (by simpa using h')).1),hl,hr⟩
variable {kv:Value} {k:κ}
theorem Vu{zv:Value}{zd:β}(ht:Adb P t kt et κ β)(ho:C4 I w A v m)(hs:St I w (A++T))(hx:ev f x=v)(hy:ev f y=kv)(hk:rep I w kv k)(hz:(zeroValue et).run P w=.ok zv w)(hzr:rep I w zv zd)(h:∀u,rep I w u ((Ae m k).getD zd)->WL P N ops R mo K os (put N f dst u) w):WL P N ops R mo K (⟨dst,.lookup t x y false,ty,pos,af,none⟩::os) f w:=by
 obtain⟨b,es,c,rfl,rfl,hf,hl,hr⟩:=ho.find ht hk;have hg:=La (P:=P) hs;have hc:=ht.key.check I w kv k es.isEmpty hk;rw[RR]at h;cases hi:(m.map (·.1)).findIdx? (· == k) with
 |none=>
  rw[hi]at hf h;refine Ay (v:=zv) ?_ (h zv (by simpa using hzr));simp [execOp,Instr.lookup,run_underlying ht.und,hx,hy,hg,hc,hf,hz]
 |some i=>
  rw[hi]at hf h;have hlt:i<m.length:=by have:=(List.findIdx?_eq_some_iff_getElem.1 hi).1;simpa using this
  have hlt':i<es.toList.length:=by omega
  rw[Option.bind_some,List.getElem?_eq_getElem hlt',Option.map_some]at hf;refine Ay (v:=es.toList[i].val) ?_ (h _ ?_)
  .simp only[execOp,Instr.lookup];simp [run_underlying ht.und,hx,hy,hg,hc,hf]
  .simp only[Option.bind_some,List.getElem?_eq_getElem hlt,Option.map_some,Option.getD_some];exact(hr i hlt' hlt).2
theorem Vt{zv:Value}{zd:β}(ht:Adb P t kt et κ β)(ho:C4 I w A v m)(hs:St I w (A++T))(hx:ev f x=v)(hy:ev f y=kv)(hk:rep I w kv k)(hz:(zeroValue et).run P w=.ok zv w)(hzr:rep I w zv zd)(h:∀u,rep I w u ((Ae m k).getD zd)->WL P N ops R mo K os (put N f dst (.tuple #[u,.bool (Ae m k).isSome])) w):WL P N ops R mo K (⟨dst,.lookup t x y true,ty,pos,af,none⟩::os) f w:=by
 obtain⟨b,es,c,rfl,rfl,hf,hl,hr⟩:=ho.find ht hk;have hg:=La (P:=P) hs;have hc:=ht.key.check I w kv k es.isEmpty hk;rw[RR]at h;cases hi:(m.map (·.1)).findIdx? (· == k) with
 |none=>
  rw[hi]at hf h;refine Ay (v:=.tuple #[zv,.bool false]) ?_ (h zv (by simpa using hzr));simp [execOp,Instr.lookup,run_underlying ht.und,hx,hy,hg,hc,hf,hz]
 |some i=>
  rw[hi]at hf h;have hlt:i<m.length:=by have:=(List.findIdx?_eq_some_iff_getElem.1 hi).1;simpa using this
  have hlt':i<es.toList.length:=by omega
  rw[Option.bind_some,List.getElem?_eq_getElem hlt',Option.map_some]at hf;simp only[Option.bind_some,List.getElem?_eq_getElem hlt,Option.map_some,Option.getD_some,Option.isSome_some]at h;refine Ay (v:=.tuple #[es.toList[i].val,.bool true]) ?_ (h _ (hr i hlt' hlt).2);simp only[execOp,Instr.lookup];simp [run_underlying ht.und,hx,hy,hg,hc,hf]
theorem Nf{b c:Nat}{es:Array MapEntry}{o':Obj}(hs:St I w ([(b,.map es c)]++T)):∃w',(setObj b o').run P w=.ok () w'/\Ext I w I w'/\St I w' ([(b,o')]++T):=by
 have hh:=hs.heap;have hlt:b<w.heap.size:=by
  rcases Nat.lt_or_ge b w.heap.size with h|h
  .exact h
  .rw[Array.getElem?_eq_none h]at hh;cases hh
 obtain⟨e,s⟩:=hs.write (w':={w with heap:=w.heap.setIfInBounds b o'}) (o':=o') rfl rfl rfl (by simp) (by simp [hlt]) (λc hc=>by simp [Ne.symm hc]);exact⟨_,by simp [setObj,Sem.run,hh],e,s⟩
theorem Abg{uv:Value}{u:β}(ht:Adb P t kt et κ β)(ho:C4 I w A v m)(hs:St I w (A++T))(hx:ev f x=v)(hy:ev f y=kv)(hz:ev f z=uv)(hk:rep I w kv k)(hu:rep I w uv u)(h:∀A' w',Ext I w I w'->St I w' (A'++T)->C4 I w' A' v (BL m k u)->WL P N ops R false K os (put N f dst undef) w'):WL P N ops R false K (⟨dst,.mapUpdate t x y z,ty,pos,af,none⟩::os) f w:=by
 obtain⟨b,es,c,rfl,rfl,hf,hl,hr⟩:=ho.find ht hk;have hg:=La (P:=P) hs;have hc:=ht.key.check I w kv k false hk;rw[Abm]at h;cases hi:(m.map (·.1)).findIdx? (· == k) with
 |none=>
  rw[hi]at hf h;obtain⟨w',h1,h2,h3⟩:=Nf (P:=P) hs (o':=.map (es.push {key:=kv,val:=uv,born:=c}) (c+1));refine MX ?_ (h _ w' h2 h3 ⟨⟨_,_,_,rfl,rfl,by simp [hl],λj hj hj'=>?_⟩,λ_ _ _ e=>Vo ?_ e⟩)
  .simp only[execOp,Instr.mapUpdate];simp [run_underlying ht.und,hx,hy,hz,hg,hc,hf,h1]
  .simp only[Array.toList_push];by_cases hj2:j<es.toList.length
   .rw[List.getElem_append_left hj2,List.getElem_append_left (by omega)];exact⟨h2.rep (hr j hj2 (by omega)).1,h2.rep (hr j hj2 (by omega)).2⟩
   .rw[List.getElem_append_right (by omega),List.getElem_append_right (by omega)];simp only[List.getElem_singleton];exact⟨h2.rep hk,h2.rep hu⟩
  .obtain⟨b1,b2⟩:=ho.bo _ _ _ rfl;refine⟨?_,λe he=>?_⟩
   .simp only[Array.toList_push,List.map_append,List.map_cons,List.map_nil];rw[List.nodup_append];refine⟨b1,by simp,λx hx y hy=>?_⟩;obtain⟨e,he,rfl⟩:=List.mem_map.1 hx;have:=b2 e he;simp only[List.mem_singleton]at hy;omega
   .simp only[Array.toList_push,List.mem_append,List.mem_singleton]at he;rcases he with he|rfl
    .have:=b2 e he;omega
    .simp
 |some i=>
  rw[hi]at hf h;obtain⟨hlt,hik,_⟩:=List.findIdx?_eq_some_iff_getElem.1 hi;have hlt:i<m.length:=by simpa using hlt
  have hlt':i<es.toList.length:=by omega
  have hsz:i<es.size:=by simpa using hlt'
  have hkey:m[i].1=k:=by simpa using hik
  rw[Option.bind_some,List.getElem?_eq_getElem hlt',Option.map_some]at hf;have hsame:=ht.key.same I w es.toList[i].key kv k (hkey▸(hr i hlt' hlt).1) hk;obtain⟨w',h1,h2,h3⟩:=Nf (P:=P) hs (o':=.map (es.modify i λe=>{e with key:=kv,val:=uv}) c);have hmod:∀(l:List MapEntry)(i:Nat),(l.modify i λe=>{e with key:=kv,val:=uv}).map (·.born)=l.map (·.born):=λl=>by
   induction l with
   |nil=>intro i;cases i<;>rfl
   |cons x l ih=>intro i;cases i with
    |zero=>rfl
    |succ i=>simp [List.modify_succ_cons,ih i]
  have hbm:((es.modify i λe=>{e with key:=kv,val:=uv}).toList.map (·.born))=es.toList.map (·.born):=by rw[Array.toList_modify];exact hmod _ _
  refine MX ?_ (h _ w' h2 h3 ⟨⟨_,_,_,rfl,rfl,by simp [hl],λj hj hj'=>?_⟩,λ_ _ _ e=>Vo ⟨hbm▸(ho.bo _ _ _ rfl).1,λe he=>?_⟩ e⟩)
  .have hsame':Instr.sameBits 10000 es[i].key kv=true:=by simpa using hsame
   simp only[execOp,Instr.mapUpdate];simp [run_underlying ht.und,hx,hy,hz,hg,hc,hf,hsz,Instr.keyThatStays,hsame',h1]
  .simp only[Array.toList_modify,List.length_modify]at hj hj';simp only[Array.toList_modify,List.getElem_modify];by_cases hji:i=j
   .subst hji;simp only[if_true];exact⟨h2.rep (hkey▸hk),h2.rep hu⟩
   .simp only[if_neg hji];exact⟨h2.rep (hr j hj hj').1,h2.rep (hr j hj hj').2⟩
  .have h5:e.born∈es.toList.map (·.born):=hbm▸List.mem_map_of_mem he;obtain⟨e',he',h6⟩:=List.mem_map.1 h5;rw[<-h6];exact(ho.bo _ _ _ rfl).2 e' he'
theorem Abh{at_:Array TypeId}(ht:Adb P t kt et κ β)(ho:C4 I w A v m)(hs:St I w (A++T))(hx:ev f x=v)(hy:ev f y=kv)(hk:rep I w kv k)(hat:at_[0]?=some t)(h:∀A' w',Ext I w I w'->St I w' (A'++T)->C4 I w' A' v (Df m k)->WL P N ops R mo K os (put N f dst (.tuple #[])) w'):WL P N ops R mo K (⟨dst,.call ⟨.builtin .delete,#[x,y],at_⟩,ty,pos,af,none⟩::os) f w:=by
 obtain⟨b,es,c,rfl,rfl,hf,hl,hr⟩:=ho.find ht hk;have hg:=La (P:=P) hs;have hc:=ht.key.check I w kv k es.isEmpty hk;rw[Abp]at h;cases hi:(m.map (·.1)).findIdx? (· == k) with
 |none=>
  rw[hi]at hf h;obtain⟨w',h1,h2,h3⟩:=Nf (P:=P) hs (o':=.map es c);refine Ay (v:=.tuple #[]) ?_ (h _ w' h2 h3 ⟨⟨_,_,_,rfl,rfl,hl,λj hj hj'=>⟨h2.rep (hr j hj hj').1,h2.rep (hr j hj hj').2⟩⟩,λ_ _ _ e=>Vo (ho.bo _ _ _ rfl) e⟩);simp only[execOp,resolve,invoke,builtin,Builtin.delete_];simp [hat,run_underlying ht.und,hx,hy,hg,hc,hf,h1]
 |some i=>
  rw[hi]at hf h;obtain⟨hlt,hik,_⟩:=List.findIdx?_eq_some_iff_getElem.1 hi;have hlt:i<m.length:=by simpa using hlt
  have hlt':i<es.toList.length:=by omega
  rw[Option.bind_some,List.getElem?_eq_getElem hlt',Option.map_some]at hf;obtain⟨w',h1,h2,h3⟩:=Nf (P:=P) hs (o':=.map (es.eraseIdxIfInBounds i) c);have htl:(es.eraseIdxIfInBounds i).toList=es.toList.eraseIdx i:=by simp
  refine Ay (v:=.tuple #[]) ?_ (h _ w' h2 h3 ⟨⟨_,_,_,rfl,rfl,by rw[htl,List.length_eraseIdx_of_lt hlt',List.length_eraseIdx_of_lt hlt,hl],λj hj hj'=>?_⟩,λ_ _ _ e=>Vo ?_ e⟩)
  .simp only[execOp,resolve,invoke,builtin,Builtin.delete_];simp [hat,run_underlying ht.und,hx,hy,hg,hc,hf,h1]
  .simp only[htl,List.getElem_eraseIdx];rw[htl,List.length_eraseIdx_of_lt hlt']at hj;split
   .exact⟨h2.rep (hr j (by omega) (by omega)).1,h2.rep (hr j (by omega) (by omega)).2⟩
   .exact⟨h2.rep (hr (j+1) (by omega) (by omega)).1,h2.rep (hr (j+1) (by omega) (by omega)).2⟩
  .rw[htl];obtain⟨b1,b2⟩:=ho.bo _ _ _ rfl;exact⟨b1.sublist ((List.eraseIdx_sublist _ _).map _),λe he=>b2 e ((List.eraseIdx_sublist _ _).subset he)⟩
end
end
end Go.X
