/-
  Parts of the proof. No condition.
-/
import Derived.WalkKit
import Derived.OrdersHeld
import Derived.Deep.RegionHeld3
import Derived.OrdersIn
import Derived.RangeFuncIn
import Derived.RangeFuncLeaves
import Derived.LoopNIn
import Derived.ControlIn
import Derived.Laws.AppendOwn
import Derived.Laws.AppendOwnNone
import Derived.Laws.MakeOwn
import Derived.Laws.IdiomCopy
import Derived.WalkLawsBesides
set_option linter.unusedVariables false
set_option linter.unusedSimpArgs false
set_option maxRecDepth 8000
set_option maxHeartbeats 8000000
namespace Go.Proofs.YtoloaehmppcjoaaGreat.V
theorem ah {p:Prop}(h:p:=by omega):p:=h
theorem bQ:type_of% @decide_eq_false:=@decide_eq_false
theorem b8:type_of% @decide_eq_true:=@decide_eq_true
theorem fH:type_of% @List.length_map.{0,0}:=@List.length_map.{0,0}
theorem pF:type_of% @List.length_filter_le.{0}:=@List.length_filter_le.{0}
theorem bh:type_of% @Nat.zero_le:=@Nat.zero_le
theorem dI:type_of% @List.length_take.{0}:=@List.length_take.{0}
theorem bO:type_of% @List.getElem?_eq_getElem.{0}:=@List.getElem?_eq_getElem.{0}
theorem gG:type_of% @List.getElem?_map.{0,0}:=@List.getElem?_map.{0,0}
theorem fw:type_of% @List.take_of_length_le.{0}:=@List.take_of_length_le.{0}
theorem aY:type_of% @Nat.le_refl:=@Nat.le_refl
theorem jV:type_of% @Option.map_some.{0,0}:=@Option.map_some.{0,0}
theorem tV:type_of% @List.drop_eq_getElem_cons.{0}:=@List.drop_eq_getElem_cons.{0}
theorem aV:type_of% @List.getElem?_eq_some_iff.{0}:=@List.getElem?_eq_some_iff.{0}
theorem pD:type_of% @List.Perm.refl.{0}:=@List.Perm.refl.{0}
theorem bU:type_of% @List.mem_cons.{0}:=@List.mem_cons.{0}
theorem lN:type_of% @List.pairwise_cons.{0}:=@List.pairwise_cons.{0}
theorem ek:type_of% @List.length_cons.{0}:=@List.length_cons.{0}
theorem cS:type_of% @List.append_assoc.{0}:=@List.append_assoc.{0}
theorem jK:type_of% @List.cons_append.{0}:=@List.cons_append.{0}
theorem kC:type_of% @List.nil_append.{0}:=@List.nil_append.{0}
theorem gp:type_of% @List.getElem?_append_left.{0}:=@List.getElem?_append_left.{0}
theorem iD:type_of% @List.getElem?_append_right.{0}:=@List.getElem?_append_right.{0}
theorem cx:type_of% @List.mem_append.{0}:=@List.mem_append.{0}
theorem bH:type_of% @List.length_append.{0}:=@List.length_append.{0}
theorem ml:type_of% @List.length_drop.{0}:=@List.length_drop.{0}
theorem dM:type_of% @of_decide_eq_true:=@of_decide_eq_true
theorem xy:type_of% @of_decide_eq_false:=@of_decide_eq_false
theorem vw:type_of% @decide_eq_decide:=@decide_eq_decide
theorem gu:type_of% @List.eq_nil_of_length_eq_zero.{0}:=@List.eq_nil_of_length_eq_zero.{0}
theorem rB:type_of% @Nat.mod_eq_of_lt:=@Nat.mod_eq_of_lt
theorem e7:type_of% @Nat.mod_lt:=@Nat.mod_lt
theorem AX:type_of% @List.set_cons_succ.{0}:=@List.set_cons_succ.{0}
theorem bD:type_of% @List.mem_of_getElem?.{0}:=@List.mem_of_getElem?.{0}
theorem bG:type_of% @List.mem_map.{0,0}:=@List.mem_map.{0,0}
theorem eQ:type_of% @List.nodup_cons.{0}:=@List.nodup_cons.{0}
theorem cJ:type_of% @List.map_cons.{0,0}:=@List.map_cons.{0,0}
theorem fP:type_of% @List.mem_cons_of_mem.{0}:=@List.mem_cons_of_mem.{0}
theorem qz:type_of% @Nat.lt_or_ge:=@Nat.lt_or_ge
theorem dv:type_of% @List.getElem?_set_ne.{0}:=@List.getElem?_set_ne.{0}
theorem dE:type_of% @List.getElem?_set_self.{0}:=@List.getElem?_set_self.{0}
theorem fQ:type_of% @List.length_set.{0}:=@List.length_set.{0}
theorem oK:type_of% @List.mem_cons_self.{0}:=@List.mem_cons_self.{0}
theorem oL:type_of% @List.flatten_cons.{0}:=@List.flatten_cons.{0}
theorem vx:type_of% @List.take_left.{0}:=@List.take_left.{0}
theorem C4:type_of% @Nat.add_sub_cancel_left:=@Nat.add_sub_cancel_left
theorem mm:type_of% @List.drop_of_length_le.{0}:=@List.drop_of_length_le.{0}
theorem dF:type_of% @Nat.le_trans:=@Nat.le_trans
theorem AY:type_of% @List.perm_cons_erase.{0}:=@List.perm_cons_erase.{0}
theorem lO:type_of% @List.filter_cons.{0}:=@List.filter_cons.{0}
theorem fR:type_of% @List.mem_filter.{0}:=@List.mem_filter.{0}
theorem dz:type_of% @Nat.zero_add:=@Nat.zero_add
theorem jL:type_of% @Nat.lt_of_lt_of_le:=@Nat.lt_of_lt_of_le
theorem jn:type_of% @List.mem_singleton.{0}:=@List.mem_singleton.{0}
theorem sQ:type_of% @List.perm_append_comm.{0}:=@List.perm_append_comm.{0}
theorem eA:type_of% @List.map_append.{0,0}:=@List.map_append.{0,0}
theorem nK:type_of% @List.map_map.{0,0,0}:=@List.map_map.{0,0,0}
theorem rC:type_of% @List.map_congr_left.{0,0}:=@List.map_congr_left.{0,0}
theorem mn:type_of% @List.mem_or_eq_of_mem_set.{0}:=@List.mem_or_eq_of_mem_set.{0}
theorem tW:type_of% @List.map_nil.{0,0}:=@List.map_nil.{0,0}
theorem tX:type_of% @List.length_pos_of_mem.{0}:=@List.length_pos_of_mem.{0}
theorem AZ:type_of% @List.set_eq_take_append_cons_drop.{0}:=@List.set_eq_take_append_cons_drop.{0}
theorem oM:type_of% @List.filter_eq_self.{0}:=@List.filter_eq_self.{0}
theorem ga:type_of% @List.nodup_append.{0}:=@List.nodup_append.{0}
theorem dP:type_of% @List.getD_eq_getElem?_getD.{0}:=@List.getD_eq_getElem?_getD.{0}
theorem tY:type_of% @List.mem_range:=@List.mem_range
theorem xz:type_of% @List.Nodup.length_le_of_subset.{0}:=@List.Nodup.length_le_of_subset.{0}
theorem pG:type_of% @List.map_set.{0,0}:=@List.map_set.{0,0}
theorem gv:type_of% @List.take_add_one.{0}:=@List.take_add_one.{0}
theorem oN:type_of% @Option.getD_some.{0}:=@Option.getD_some.{0}
theorem ey:type_of% @List.getElem?_of_mem.{0}:=@List.getElem?_of_mem.{0}
theorem vy:type_of% @List.getElem?_take.{0}:=@List.getElem?_take.{0}
theorem vz:type_of% @List.length_nil.{0}:=@List.length_nil.{0}
theorem mU:type_of% @Option.some.injEq.{0}:=@Option.some.injEq.{0}
theorem qA:type_of% @Bool.and_eq_true:=@Bool.and_eq_true
theorem vA:type_of% @Bool.false_eq_true:=@Bool.false_eq_true
theorem sR:type_of% @List.all_eq_true.{0}:=@List.all_eq_true.{0}
theorem y4:type_of% @Nat.mul_le_mul_right:=@Nat.mul_le_mul_right
theorem vB:type_of% @Nat.zero_mul:=@Nat.zero_mul
theorem qB:type_of% @Int.toNat_natCast:=@Int.toNat_natCast
theorem pH:type_of% @List.getElem?_eq_none.{0}:=@List.getElem?_eq_none.{0}
theorem y5:type_of% @Option.map_eq_some_iff.{0,0}:=@Option.map_eq_some_iff.{0,0}
theorem y6:type_of% @List.findIdx?_eq_some_iff_getElem.{0}:=@List.findIdx?_eq_some_iff_getElem.{0}
theorem oO:type_of% @decide_eq_true_eq:=@decide_eq_true_eq
theorem tZ:type_of% @List.mem_append_left.{0}:=@List.mem_append_left.{0}
theorem ua:type_of% @Nat.le_succ_of_le:=@Nat.le_succ_of_le
theorem pI:type_of% @List.getElem_mem.{0}:=@List.getElem_mem.{0}
theorem kD:type_of% @List.take_length.{0}:=@List.take_length.{0}
theorem lP:type_of% @List.nodup_nil.{0}:=@List.nodup_nil.{0}
theorem uc:type_of% @List.not_mem_nil.{0}:=@List.not_mem_nil.{0}
theorem fB:type_of% @List.append_nil.{0}:=@List.append_nil.{0}
theorem A0:type_of% @List.flatten_append.{0}:=@List.flatten_append.{0}
theorem pJ:type_of% @Nat.le_succ:=@Nat.le_succ
theorem gW:type_of% @List.length_singleton.{0}:=@List.length_singleton.{0}
theorem vC:type_of% @List.foldl_append.{0,0}:=@List.foldl_append.{0,0}
theorem vD:type_of% @List.any_eq_true.{0}:=@List.any_eq_true.{0}
theorem pL:type_of% @List.foldl_cons.{0,0}:=@List.foldl_cons.{0,0}
theorem lh:type_of% @List.take_succ_eq_append_getElem.{0}:=@List.take_succ_eq_append_getElem.{0}
theorem pM:type_of% @List.nodup_iff_pairwise_ne.{0}:=@List.nodup_iff_pairwise_ne.{0}
theorem rD:type_of% @List.pairwise_map.{0,0}:=@List.pairwise_map.{0,0}
theorem C5:type_of% @List.getElem?_take_of_lt.{0}:=@List.getElem?_take_of_lt.{0}
theorem oI:type_of% @Prod.mk.injEq.{0,0}:=@Prod.mk.injEq.{0,0}
theorem ang:type_of% @Classical.choose_spec.{0}:=@Classical.choose_spec.{0}
theorem pB:type_of% @List.ext_getElem?.{0}:=@List.ext_getElem?.{0}
theorem rA:type_of% @Array.getElem?_eq_some_iff.{0}:=@Array.getElem?_eq_some_iff.{0}
theorem jm:type_of% @Nat.add_mul:=@Nat.add_mul
theorem pC:type_of% @Nat.min_eq_left:=@Nat.min_eq_left
theorem vq:type_of% @Nat.le_of_ble_eq_true:=@Nat.le_of_ble_eq_true
theorem vt:type_of% @List.take_append_of_le_length.{0}:=@List.take_append_of_le_length.{0}
theorem Gq:type_of% @Option.isSome_iff_exists.{0}:=@Option.isSome_iff_exists.{0}
theorem xu:type_of% @List.size_toArray.{0}:=@List.size_toArray.{0}
theorem sP:type_of% @List.pairwise_iff_getElem.{0}:=@List.pairwise_iff_getElem.{0}
theorem mj:type_of% @Nat.mul_one:=@Nat.mul_one
theorem qy:type_of% @Nat.add_zero:=@Nat.add_zero
theorem jW:type_of% @List.take_append_drop.{0}:=@List.take_append_drop.{0}
theorem xv:type_of% @List.mem_of_mem_drop.{0}:=@List.mem_of_mem_drop.{0}
theorem lg:type_of% @List.prefix_rfl.{0}:=@List.prefix_rfl.{0}
theorem xw:type_of% @List.length_pos_iff.{0}:=@List.length_pos_iff.{0}
theorem xx:type_of% @List.pairwise_append.{0}:=@List.pairwise_append.{0}
theorem vu:type_of% @List.filter_append.{0}:=@List.filter_append.{0}
theorem oJ:type_of% @List.prefix_append.{0}:=@List.prefix_append.{0}
theorem AW:type_of% @List.length_eq_zero_iff.{0}:=@List.length_eq_zero_iff.{0}
abbrev Env:=List (Nat×Value)
def look (t:Nat):Env→Option Value
 | []=>none
 |(s,v)::r=>match Nat.beq s t with
  |true=>some v
  |false=>look t r
def ev (e:Env):Operand→Option Value
 |.tmp t=>look t e
 |.const v=>some v
 |.global g=>some (.pointer (some ⟨g,0,none⟩))
 |.func f=>some (.func (.func f) #[] #[])
def kO (e:Env):List Operand→Option (List Value)
 | []=>some []
 |x::r=>match ev e x,kO e r with
  |some v,some vs=>some (v::vs)
  |_,_=>none
class Fr where
 rd:Option Nat
 ds:List Deferred
instance (priority:=low) Fr.plain:Fr:=⟨none,[]⟩
def Fr.F [Fr]:Fence:={ Fence.wide with round:=Fr.rd}
theorem Fr.calls [Fr]{n:Nat}{P:Program}{f:FuncId}{args:Array Value}{w:World}{R:Ending→World→Prop}:CallsIn Fr.F n P f args w R↔Calls P f args w R:=
 ⟨fun h=>(callsIn_wide (n:=n)).1 h,fun h=>(callsIn_wide (n:=n)).2 h⟩
theorem J7 {P:Program}{ro:Option Nat}{o:Oper}{ρ:Operand→Value}{w w':World}{x:Next}(hx:(execOp ρ o).run P w = .ok x w')(hd:∀d,x ≠ .defer d):(o.semAt ro ρ).run P w = .ok x w':=by
 by_cases h:∃c,o.op = .defer c
 ·obtain⟨c,hc⟩:=h;exfalso;unfold execOp at hx;simp only[hc,Sem.run_bind] at hx;cases hr:(resolve ρ c o.type).run P w with
  |ok d w1=>rw[hr] at hx;simp at hx;exact hd d hx.1.symm
  |halt y w1=>rw[hr] at hx;cases hx
 ·rw[Oper.semAt_eq _ _ _ fun c hc=>h ⟨c,hc⟩];exact hx
structure fJ [Fr](a:Act)(e:Env)(n:Nat):Prop where
 defers:a.defers=Fr.ds
 size:a.tmps.size=n
 slot:∀t v,look t e=some v→a.tmps[t]?=some v
theorem bE [Fr]{a:Act}{e:Env}{n:Nat}(h:fJ a e n){x:Operand}{v:Value}(hx:ev e x=some v):a.eval x=v:=by
 cases x with
 |tmp t=>have:=h.slot t v hx;simp[Act.eval,this]
 |const u=>simpa[ev,Act.eval] using hx
 |global g=>simpa[ev,Act.eval] using hx
 |func f=>simpa[ev,Act.eval] using hx
theorem Rc [Fr]{a:Act}{e:Env}{n:Nat}(h:fJ a e n):∀{xs:List Operand}{vs:List Value},kO e xs=some vs→xs.map a.eval=vs
 | [],vs,hx=>by simp[kO] at hx;simp[hx]
 |x::r,vs,hx=>by
  simp only[kO] at hx;split at hx
  ·rename_i v us h1 h2
   cases hx;simp[bE h h1,Rc h h2]
  ·cases hx
theorem Hs [Fr]{a:Act}{e:Env}{n:Nat}(h:fJ a e n){xs:Array Operand}{vs:List Value}(hx:kO e xs.toList=some vs):xs.map a.eval=vs.toArray:=by
 have:=Rc h hx;apply Array.toList_inj.1;simpa using this
theorem fJ.put [Fr]{a:Act}{e:Env}{n:Nat}(h:fJ a e n){d:Nat}(hd:Nat.blt d n=true)(v:Value):fJ (a.put (some d) v) ((d,v)::e) n:=by
 have jQ:d<n:=by have:=hd;simp[Nat.blt] at this;omega
 refine⟨h.defers,by simp[Act.put,h.size],fun t u hu=>?_⟩;simp only[look] at hu;cases hb:Nat.beq d t with
 |true=>
  have Mt:d=t:=Nat.eq_of_beq_eq_true hb;rw[hb] at hu;subst Mt;simp only[mU] at hu;subst hu;simp[Act.put,h.size,jQ]
 |false=>
  have Mt:d≠t:=Nat.ne_of_beq_eq_false hb;rw[hb] at hu;simp only[] at hu;simp[Act.put,Array.getElem?_setIfInBounds_ne Mt,h.slot t u hu]
def Env.put (e:Env):Option Tmp→Value→Env
 |some d,v=>(d,v)::e
 |none,_=>e
def fits (n:Nat):Option Tmp→Bool
 |some d=>Nat.blt d n
 |none=>true
theorem fJ.vj [Fr]{a:Act}{e:Env}{n:Nat}(h:fJ a e n){d:Option Tmp}(hd:fits n d=true)(v:Value):fJ (a.put d v) (e.put d v) n:=by
 cases d with
 |none=>exact h
 |some d=>exact h.put hd v
def Sub (e' e:Env):Prop:=∀t v,look t e'=some v→look t e=some v
theorem fJ.sub [Fr]{a:Act}{e e':Env}{n:Nat}(h:fJ a e n)(hs:Sub e' e):fJ a e' n:=⟨h.defers,h.size,fun t v ht=>h.slot t v (hs t v ht)⟩
theorem Sub.nil (e:Env):Sub [] e:=fun _ _ h=>by cases h
theorem Sub.cons {e e':Env}{s:Nat}{v:Value}(h1:look s e=some v)(h2:Sub e' e):Sub ((s,v)::e') e:=by
 intro t u hu;simp only[look] at hu;cases hb:Nat.beq s t with
 |true=>
  have dp:s=t:=Nat.eq_of_beq_eq_true hb;rw[hb] at hu;subst dp;simp only[mU] at hu;subst hu;exact h1
 |false=>rw[hb] at hu;exact h2 t u hu
def vh (e:Env):List Nat→Option Env
 | []=>some []
 |s::r=>match look s e,vh e r with
  |some v,some x=>some ((s,v)::x)
  |_,_=>none
theorem cR {e:Env}:∀{l:List Nat}{e':Env},vh e l=some e'→Sub e' e
 | [],e',h=>by simp[vh] at h;subst h;exact Sub.nil e
 |s::r,e',h=>by
  simp only[vh] at h;split at h
  ·rename_i v x h1 h2
   cases h;exact Sub.cons h1 (cR h2)
  ·cases h
def aI (ops:Array Oper)(e:Env)(o:Oper):Option Bool:=
 match o.guard with
 |none=>some true
 |some (j,want)=>match ops[j]? with
  |some oj=>match oj.dst with
   |some t=>match look t e with
    |some (.bool b)=>some (match b,want with|true,true=>true|false,false=>true|_,_=>false)
    |some (.tuple _)=>some false
    |_=>none
   |none=>none
  |none=>none
theorem Gj [Fr]{ops:Array Oper}{a:Act}{e:Env}{n:Nat}(h:fJ a e n){o:Oper}{b:Bool}(hw:aI ops e o=some b):Region.wanted o (yielded ops a.tmps)=b:=by
 unfold aI at hw;unfold Region.wanted;cases hg:o.guard with
 |none=>simp[hg] at hw;simp[hw]
 |some gw=>
  obtain⟨j,want⟩:=gw;simp only[hg] at hw;cases hj:ops[j]? with
  |none=>simp[hj] at hw
  |some oj=>
   simp only[hj] at hw;cases ht:oj.dst with
   |none=>simp[ht] at hw
   |some t=>
    simp only[ht] at hw;cases hl:look t e with
    |none=>simp[hl] at hw
    |some v=>
     have hs:=h.slot t v hl;simp only[hl] at hw;cases v<;>simp only[mU,reduceCtorEq] at hw<;>simp only[yielded,hj,ht,hs,Option.bind_some]
     case bool c=>cases c<;>cases want<;>simp_all
     case tuple vs=>subst hw;rfl
inductive b6 where
 |done
 |pure (i:Nat) (p:b6)
 |read (i:Nat) (p:b6)
 |aw (i:Nat) (p:b6)
 |alt (p q:b6)
def Uy (o:Oper):Bool:=o.after.any fun e=>match e.ground with | .phase=>true|_=>false
def gS (ops:Array Oper)(i:Nat):Bool:=match ops[i]? with|some o=>Uy o|none=>true
def sN [Fr](P:Program)(ops:Array Oper)(Q:Exit→Act→World→Prop)(S:World→Prop):b6→Act→World→Prop
 |.done,a,w=>Q .normal a w
 |.pure i p,a,w=>∃o v,ops[i]?=some o∧YieldsIf P ops (fun _=>True) o v a∧sN P ops Q S p (a.put o.dst v) w
 |.read i p,a,w=>S w∧∃o v,ops[i]?=some o∧YieldsIf P ops S o v a∧sN P ops Q S p (a.put o.dst v) w
 |.aw i p,a,w=>wpOpIn Fr.F 0 P ops Q i (fun a' w'=>(gS ops i=false→S w→S w')∧sN P ops Q S p a' w') a w
 |.alt p q,a,w=>sN P ops Q S p a w∧sN P ops Q S q a w
section
variable {P:Program}{ops:Array Oper}{Q:Exit→Act→World→Prop}{S:World→Prop}{md:Region.Mode}
theorem YieldsIf.Gl [Fr]{C:World→Prop}{i:Nat}{o:Oper}{v:Value}{a:Act}(hi:ops[i]?=some o)(hy:YieldsIf P ops C o v a){K:Act→World→Prop}{w:World}(hS:C w)(h:K (a.put o.dst v) w):wpOpIn Fr.F 0 P ops Q i K a w:=by
 unfold Go.wpOpIn;simp only[hi]
 rcases hy with⟨hw,hv⟩|⟨hw,rfl⟩
 ·simp only[hw,if_true,Oper.wpIn];refine⟨fun f _=>trivial,?_⟩;rw[J7 (hv w hS) (by simp)];exact h
 ·simp only[hw,vA,if_false];exact⟨fun f _=>trivial,h⟩
theorem ajv {ro:Option Nat}(o:Oper)(hs:∀cs b,o.op ≠ .select cs b)(a:Act)(dst:Option Tmp)(v:Value)(h:∀d,dst=some d→d∉o.looksAt ops):o.semAt ro (a.put dst v).eval=o.semAt ro a.eval:=by
 have he:=execOp_put o hs a dst v h;unfold Oper.semAt;cases ro with
 |none=>exact he
 |some l=>
  cases ho:o.op<;>first|exact he|skip
  rename_i c
  have e:=resolve_congr (ρ:=(a.put dst v).eval) (ρ':=a.eval) c o.type (fun x hx=>Act.eval_put fun d hd Ca=>h d hd (by
   subst Ca;exact tZ _ (List.mem_filterMap.2 ⟨.tmp d,by rw[ho];simpa[Op.operands] using hx,rfl⟩)))
  simp only[e]
theorem ama [Fr]{C:World→Prop}{j:Nat}{oi oj:Oper}{v:Value}(hj:ops[j]?=some oj)(Mi:oi.apart ops oj=true)
  (I0:∀cs b,oi.op ≠ .select cs b) (hsj:∀cs b,oj.op ≠ .select cs b)
  (hQ:∀c a w,Q (.panic c) (a.put oi.dst v) w→Q (.panic c) a w) {K:Act→World→Prop}{a:Act}{w:World}
  (hy:YieldsIf P ops C oi v a) (h:wpOpIn Fr.F 0 P ops Q j K (a.put oi.dst v) w) :
  wpOpIn Fr.F 0 P ops Q j (fun a' w'=>YieldsIf P ops C oi v a'∧K (a'.put oi.dst v) w') a w:=by
 obtain⟨h1,h2,h3⟩:=Oper.apart_spec Mi;have ox:∀(a:Act),YieldsIf P ops C oi v a→∀u,YieldsIf P ops C oi v (a.put oj.dst u):=fun a hy u=>
  hy.of_same (execOp_put oi I0 a oj.dst u h3) (wanted_put oi a oj.dst u h3)
 have yy:∀d,YieldsIf P ops C oi v { a with defers:=d::a.defers}:=fun d=>hy.of_same rfl rfl
 unfold wpOpIn at *;simp only[hj] at *;rw[wanted_put oj a oi.dst v h1] at h;split
 ·rename_i hw
  simp only[hw,if_true] at h;unfold Oper.wpIn at *;refine⟨fun f _=>trivial,?_⟩;have h:=h.2;rw[ajv oj hsj a oi.dst v h1] at h;generalize (oj.semAt Fr.F.round a.eval).run P w=r at *;cases r with
  |ok x w'=>
   cases x<;>simp only[Oper.uponIn] at h ⊢
   case value u=>exact⟨ox a hy u,by rw[←Act.put_comm a v u h2];exact h⟩
   case skip=>exact⟨ox a hy _,by rw[←Act.put_comm a v undef h2];exact h⟩
   case defer d=>
    refine⟨ox _ (yy d) _,?_⟩;rw[←Act.put_comm _ v undef h2,←Act.put_defers];exact h
   case enter f args=>
    refine⟨h.1,CallsIn.mono h.2 fun e yY he=>?_⟩;cases e with
    |returned u=>exact⟨ox a hy u,by rw[←Act.put_comm a v u h2];exact he⟩
    |panicked c=>exact hQ _ _ _ he
    |outgrown=>exact he
   case row row args=>exact⟨h.1,RowsIn.mono h.2 fun u yY he=>⟨ox a hy u,by rw[←Act.put_comm a v u h2];exact he⟩⟩
   case round l f tmps assign body=>
    refine⟨h.1,RoundIn.mono h.2 fun e yY he=>?_⟩;cases e with
    |returned u=>exact⟨ox a hy u,by rw[←Act.put_comm a v u h2];exact he⟩
    |panicked c=>exact hQ _ _ _ he
    |outgrown=>exact he
  |halt x w'=>
   cases x<;>simp only[Oper.uponIn] at h ⊢
   case panic u=>exact hQ _ _ _ h
 ·rename_i hw
  simp only[hw] at h;exact⟨fun f _=>trivial,ox a hy _,by rw[←Act.put_comm a v undef h2];exact h.2⟩
def Gk [Fr](P:Program)(md:Region.Mode)(ops:Array Oper)(Q:Exit→Act→World→Prop)(S:World→Prop):Nat→Array Bool→Act→World→Prop
 |0,listed,a,w=>Region.ready md ops listed=[]∧Q .normal a w
 |fuel+1,listed,a,w=>
  (Region.ready md ops listed=[]→Q .normal a w) ∧
  ∀i∈Region.ready md ops listed,wpOpIn Fr.F 0 P ops Q i (fun a' w'=>(gS ops i=false→S w→S w')∧Gk P md ops Q S fuel (listed.setIfInBounds i true) a' w') a w
theorem Yt [Fr]:∀(fuel:Nat) (listed:Array Bool) (a:Act) (w:World),Gk P md ops Q S fuel listed a w→wpAnyIn Fr.F 0 P md ops Q fuel listed a w
 |0,_,_,_,h=>h
 |fuel+1,_,_,_,h=>⟨h.1,fun i hi=>wpOpIn_mono (fun a' w' h'=>Yt fuel _ a' w' h'.2) (h.2 i hi)⟩
theorem Ys [Fr]{C:World→Prop}{i:Nat}{oi:Oper}{v:Value}{B:List Nat}(hi:ops[i]?=some oi)(wB:∀(j:Nat) (o:Oper) cs b,ops[j]?=some o→o.op ≠ .select cs b)
  (hQ:∀c a w,Q (.panic c) (a.put oi.dst v) w→Q (.panic c) a w) (hB:∀j∈B,j≠i→∃oj,ops[j]?=some oj∧∃e∈oj.after,Region.binds md e=true∧e.on∈B) :
  ∀(fuel:Nat) (listed:Array Bool) (a:Act) (w:World),(∀j∈B,listed.getD j true=false) →
   (∀j oj,ops[j]?=some oj→j≠i→listed.getD j true=false→j∉B→oi.apart ops oj=true∧∀w w',(gS ops j=false→S w→S w')→C w→C w') →
   i∈Region.ready md ops listed→YieldsIf P ops C oi v a→C w →
   Gk P md ops Q S fuel (listed.setIfInBounds i true) (a.put oi.dst v) w→Gk P md ops Q S (fuel+1) listed a w:=by
 intro fuel
 induction fuel with
 |zero=>
  intro listed a w _ _ hr hy hC H;refine⟨fun h=>(by rw[h] at hr;cases hr),fun j hj=>?_⟩
  by_cases gB:j=i
  ·subst gB;exact YieldsIf.Gl hi hy hC ⟨fun _ h=>h,H⟩
  ·have:=ready_mono hj gB;rw[H.1] at this;cases this
 |succ fuel ih=>
  intro listed a w RB SG hr hy hC H;refine⟨fun h=>(by rw[h] at hr;cases hr),fun j hj=>?_⟩
  by_cases gB:j=i
  ·subst gB;exact YieldsIf.Gl hi hy hC ⟨fun _ h=>h,H⟩
  ·have h1:=H.2 j (ready_mono hj gB);obtain⟨SU,oj,BY,gA⟩:=mem_ready.1 hj;have Ir:j∉B:=fun Ir=>by
    obtain⟨oj',Tp,e,he,hb,hon⟩:=hB j Ir gB;rw[BY] at Tp;cases Tp;have h1:=gA e he hb;have h0:=RB _ hon
    rcases qz e.on listed.size with h'|h'
    ·simp[h'] at h0 h1;rw[h0] at h1;cases h1
    ·simp[Array.getElem?_eq_none h'] at h1
   obtain⟨Mi,E9⟩:=SG j oj BY gB SU Ir;have h2:=ama BY Mi (fun cs b=>wB i oi cs b hi) (fun cs b=>wB j oj cs b BY) hQ hy h1;have acy:∀k∈B,(listed.setIfInBounds j true).getD k true=false:=fun k hk=>by
    have Iv:j≠k:=fun h=>Ir (by rw[h];exact hk)
    rw[getD_set_ne true Iv];exact RB k hk
   have adk:∀k ok,ops[k]?=some ok→k≠i→(listed.setIfInBounds j true).getD k true=false→k∉B →
     oi.apart ops ok=true∧∀w w',(gS ops k=false→S w→S w')→C w→C w':=fun k ok hk ML wD bz=>by
    refine SG k ok hk ML ?_ bz
    by_cases Iv:j=k
    ·subst Iv;exact SU
    ·rw[getD_set_ne true Iv] at wD;exact wD
   refine wpOpIn_mono (fun a' w' h3=>⟨h3.2.1,ih (listed.setIfInBounds j true) a' w' acy adk (ready_mono hr (Ne.symm gB)) h3.1 (E9 _ _ h3.2.1 hC) ?_⟩) h2;rw[Array.setIfInBounds_comm _ _ gB];exact h3.2.2
def xt (md:Region.Mode)(ops:Array Oper)(listed:Array Bool):List Nat→List Nat→List Nat
 | [],B=>B
 |j::r,B=>match ops[j]? with
  |some oj=>match !(listed.getD j true)&&oj.after.any (fun e=>Region.binds md e&&B.contains e.on) with
   |true=>xt md ops listed r (j::B)
   |false=>xt md ops listed r B
  |none=>xt md ops listed r B
theorem Kx {listed:Array Bool}{i:Nat}:∀{r B:List Nat},(i∈B∧∀j∈B,j≠i→listed.getD j true=false∧∃oj,ops[j]?=some oj∧∃e∈oj.after,Region.binds md e=true∧e.on∈B) →
  i∈xt md ops listed r B∧∀j∈xt md ops listed r B,j≠i→listed.getD j true=false∧∃oj,ops[j]?=some oj∧∃e∈oj.after,Region.binds md e=true∧e.on∈xt md ops listed r B
 | [],_,h=>h
 |j::r,B,h=>by
  unfold xt;split
  ·rename_i oj hj
   split
   ·rename_i hc
    simp only[qA,Bool.not_eq_true'] at hc;refine Kx ⟨fP _ h.1,fun k hk ML=>?_⟩
    rcases bU.1 hk with rfl|hk
    ·obtain⟨e,he,hb⟩:=Array.any_eq_true'.1 hc.2;simp only[qA,List.contains_iff_mem] at hb;exact⟨hc.1,oj,hj,e,he,hb.1,fP _ hb.2⟩
    ·obtain⟨h1,ok,h2,e,h3,h4,h5⟩:=h.2 k hk ML;exact⟨h1,ok,h2,e,h3,h4,fP _ h5⟩
   ·exact Kx h
  ·exact Kx h
def Ro (ops:Array Oper)(rd:Bool)(listed:Array Bool)(i:Nat)(oi:Oper)(B:List Nat):Bool:=
 (List.range ops.size).all fun j=>j == i||listed.getD j true||B.contains j||match ops[j]? with
   |some oj=>oi.apart ops oj&&!(rd&&Uy oj)
   |none=>true
def cw (md:Region.Mode)(ops:Array Oper)(rd:Bool)(listed:Array Bool)(i:Nat):Bool:=
 match ops[i]? with
 |none=>false
 |some oi=>Ro ops rd listed i oi (xt md ops listed (List.range ops.size) [i])
theorem Rq {rd:Bool}{i:Nat}{oi:Oper}{listed:Array Bool}(hi:ops[i]?=some oi)(hr:i∈Region.ready md ops listed)(h:cw md ops rd listed i=true) :
  ∃B:List Nat,(∀j∈B,j≠i→∃oj,ops[j]?=some oj∧∃e∈oj.after,Region.binds md e=true∧e.on∈B)∧(∀j∈B,listed.getD j true=false) ∧
   ∀j oj,ops[j]?=some oj→j≠i→listed.getD j true=false→j∉B→oi.apart ops oj=true∧(rd=true→gS ops j=false):=by
 simp only[cw,hi] at h;obtain⟨_,hB⟩:=Kx (md:=md) (ops:=ops) (listed:=listed) (i:=i) (r:=List.range ops.size) (B:=[i]) ⟨jn.2 rfl,fun j hj gB=>absurd (jn.1 hj) gB⟩;generalize xt md ops listed (List.range ops.size) [i]=B at h hB;refine⟨B,fun j hj gB=>(hB j hj gB).2,fun j hj=>?_,fun j oj hj aP wD bz=>?_⟩
 ·by_cases gB:j=i
  ·subst gB;exact(mem_ready.1 hr).1
  ·exact(hB j hj gB).1
 ·simp only[Ro,sR,tY] at h;have h1:=h j (rA.1 hj).1;simp only[hj,Bool.or_eq_true,beq_iff_eq,aP,false_or,wD,vA,List.contains_iff_mem,bz,qA,Bool.not_eq_true',Bool.and_eq_false_iff] at h1;refine⟨h1.1,fun hr=>?_⟩;simp only[gS,hj]
  rcases h1.2 with h2|h2
  ·rw[hr] at h2;cases h2
  ·exact h2
def b6.zL:b6→List (Nat×b6)
 |.aw i p=>[(i,p)]
 |.alt p q=>p.zL++q.zL
 |_=>[]
theorem Py [Fr]{a:Act}{w:World}:∀{p:b6}{i:Nat}{q:b6},(i,q)∈p.zL→sN P ops Q S p a w→sN P ops Q S (.aw i q) a w
 |.aw j p,i,q,hm,h=>by
  simp only[b6.zL,jn] at hm;obtain⟨rfl,rfl⟩:=Prod.mk.inj hm;exact h
 |.alt p1 p2,i,q,hm,h=>by
  simp only[b6.zL,cx] at hm
  rcases hm with hm|hm
  ·exact Py hm h.1
  ·exact Py hm h.2
 |.done,_,_,hm,_=>by cases hm
 |.pure ..,_,_,hm,_=>by cases hm
 |.read ..,_,_,hm,_=>by cases hm
def qF (md:Region.Mode)(ops:Array Oper):Nat→Array Bool→b6→Bool
 |0,listed,p=>(Region.ready md ops listed).isEmpty&&match p with | .done=>true|_=>false
 |fuel+1,listed,p=>match p with
  |.done=>(Region.ready md ops listed).isEmpty
  |.pure i p=>(Region.ready md ops listed).contains i&&cw md ops false listed i&&qF md ops fuel (listed.setIfInBounds i true) p
  |.read i p=>(Region.ready md ops listed).contains i&&cw md ops true listed i&&qF md ops fuel (listed.setIfInBounds i true) p
  |.aw i p=>(Region.ready md ops listed).all (· == i)&&(Region.ready md ops listed).contains i&&qF md ops fuel (listed.setIfInBounds i true) p
  |.alt p q=>!(Region.ready md ops listed).isEmpty&&(Region.ready md ops listed).all fun i=>((b6.alt p q).zL.find? (fun h=>h.1 == i)).any fun h=>qF md ops fuel (listed.setIfInBounds i true) h.2
theorem Dv [Fr](wB:∀(j:Nat) (o:Oper) cs b,ops[j]?=some o→o.op ≠ .select cs b)(hQ:∀c a w,¬Q (.panic c) a w) :
  ∀(fuel:Nat) (listed:Array Bool) (p:b6) (a:Act) (w:World),qF md ops fuel listed p=true→sN P ops Q S p a w→Gk P md ops Q S fuel listed a w
 |0,listed,p,a,w,hc,h=>by
  simp only[qF,qA,List.isEmpty_iff] at hc;obtain⟨h1,h2⟩:=hc;cases p<;>simp at h2;exact⟨h1,h⟩
 |fuel+1,listed,p,a,w,hc,h=>by
  cases p with
  |done=>
   simp only[qF,List.isEmpty_iff] at hc;exact⟨fun _=>h,by rw[hc];simp⟩
  |pure i p=>
   simp only[qF,qA] at hc;obtain⟨⟨h1,h2⟩,h3⟩:=hc;obtain⟨o,v,ho,hy,hp⟩:=h;obtain⟨B,b1,b2,b3⟩:=Rq ho (by simpa using h1) h2;exact Ys (C:=fun _=>True) (B:=B) ho wB (fun c a w hh=>absurd hh (hQ c _ w)) b1 fuel listed a w b2
    (fun j oj hj gB wD bz=>⟨(b3 j oj hj gB wD bz).1,fun _ _ _ _=>trivial⟩) (by simpa using h1) hy trivial (Dv wB hQ fuel _ p _ w h3 hp)
  |read i p=>
   simp only[qF,qA] at hc;obtain⟨⟨h1,h2⟩,h3⟩:=hc;obtain⟨hS,o,v,ho,hy,hp⟩:=h;obtain⟨B,b1,b2,b3⟩:=Rq ho (by simpa using h1) h2;exact Ys (C:=S) (B:=B) ho wB (fun c a w hh=>absurd hh (hQ c _ w)) b1 fuel listed a w b2
    (fun j oj hj gB wD bz=>⟨(b3 j oj hj gB wD bz).1,fun w w' hk hw=>hk ((b3 j oj hj gB wD bz).2 rfl) hw⟩) (by simpa using h1) hy hS (Dv wB hQ fuel _ p _ w h3 hp)
  |aw i p=>
   simp only[qF,qA,sR,beq_iff_eq] at hc;obtain⟨⟨h1,h2⟩,h3⟩:=hc;refine⟨fun h0=>by simp[h0] at h2,fun j hj=>?_⟩;obtain rfl:=h1 j hj;exact wpOpIn_mono (fun a' w' hh=>⟨hh.1,Dv wB hQ fuel _ p _ w' h3 hh.2⟩) h
  |alt p q=>
   simp only[qF,qA,sR] at hc;obtain⟨aP,hc⟩:=hc;refine⟨fun h0=>by simp[h0] at aP,fun j hj=>?_⟩
   ·have h1:=hc j hj;cases hf:((b6.alt p q).zL.find? (fun h=>h.1 == j)) with
    |none=>simp[hf] at h1
    |some x=>
     obtain⟨k,r⟩:=x;have hk:k=j:=by simpa using List.find?_some hf
     subst hk;have hm:=List.mem_of_find?_eq_some hf;have h2:=Py hm h;simp only[hf,Option.any_some] at h1;exact wpOpIn_mono (fun a' w' hh=>⟨hh.1,Dv wB hQ fuel _ r _ w' h1 hh.2⟩) h2
end
def At (w:World)(b o:Nat)(l:List Value):Prop:=∀i v,l[i]?=some v→w.cell? ⟨b,o+i,none⟩=some v
def cE (w:World)(b:Nat)(l:List Value):Prop:=∃t,w.heap[b]?=some (.cells l.toArray t (0,0))
structure Mod (S:Nat→Prop)(w w':World):Prop where
 os:w'.os=w.os
 tape:w'.tape=w.tape
 output:w'.output=w.output
 size:w.heap.size≤w'.heap.size
 block:∀k,k<w.heap.size→¬S k→w'.heap[k]?=w.heap[k]?
abbrev Ext (w w':World):Prop:=Mod (fun _=>False) w w'
theorem Mod.refl {S:Nat→Prop}(w:World):Mod S w w:=⟨rfl,rfl,rfl,aY _,fun _ _ _=>rfl⟩
theorem Mod.weaken {S T:Nat→Prop}{w w':World}(h:Mod S w w')(hs:∀k,k<w.heap.size→S k→T k):Mod T w w':=
 ⟨h.os,h.tape,h.output,h.size,fun k hk hn=>h.block k hk fun hS=>hn (hs k hk hS)⟩
theorem Ext.mod {S:Nat→Prop}{w w':World}(h:Ext w w'):Mod S w w':=h.weaken fun _ _ h=>h.elim
theorem Mod.trans {S:Nat→Prop}{a b c:World}(h:Mod S a b)(k:Mod S b c):Mod S a c:=
 ⟨k.os.trans h.os,k.tape.trans h.tape,k.output.trans h.output,dF h.size k.size,
  fun i hi hn=>(k.block i (jL hi h.size) hn).trans (h.block i hi hn)⟩
theorem Mod.then {S T:Nat→Prop}{a b c:World}(h:Mod S a b)(k:Mod T b c)(hs:∀i,i<a.heap.size→T i→S i):Mod S a c:=
 ⟨k.os.trans h.os,k.tape.trans h.tape,k.output.trans h.output,dF h.size k.size,
  fun i hi hn=>(k.block i (jL hi h.size) fun hT=>hn (hs i hi hT)).trans (h.block i hi hn)⟩
theorem Ext.drew (w:World):Ext w w.drew:=⟨rfl,rfl,rfl,aY _,fun _ _ _=>rfl⟩
theorem Ext.alloc (w:World)(o:Obj):Ext w (w.alloc o):=⟨rfl,rfl,rfl,by simp,fun k hk _=>RowKit.Below.heap_alloc w o k hk⟩
theorem Mod.OB {w w':World}{r:Option Nat}(h:w.grownBy w' r):Mod (fun k=>some k=r) w w':=⟨h.os,h.tape,h.output,h.size,fun k hk hn=>h.block k hk hn⟩
theorem Ext.below {w w':World}(h:Ext w w'):RowKit.Below w.heap.size w w':=⟨h.os,h.tape,h.output,h.size,fun k hk=>h.block k hk id⟩
theorem Mod.cell {S:Nat→Prop}{w w':World}(h:Mod S w w'){a:Addr}{v:Value}(hv:w.cell? a=some v)(hn:¬S a.block):w'.cell? a=some v:=
 (World.cell?_of_block (h.block a.block (block_lt_of_cell hv) hn)).trans hv
theorem Mod.row {S:Nat→Prop}{w w':World}(h:Mod S w w'){b:Nat}{o:Obj}(hv:w.heap[b]?=some o)(hn:¬S b):w'.heap[b]?=some o:=
 (h.block b (rA.1 hv).1 hn).trans hv
theorem At.nil (w:World)(b o:Nat):At w b o []:=fun _ _ h=>by cases h
theorem At.mod {S:Nat→Prop}{w w':World}{b o:Nat}{l:List Value}(h:At w b o l)(hm:Mod S w w')(hn:¬S b):At w' b o l:=
 fun i v hv=>hm.cell (h i v hv) hn
theorem At.ext {w w':World}{b o:Nat}{l:List Value}(h:At w b o l)(hm:Ext w w'):At w' b o l:=h.mod hm id
theorem At.sub {w:World}{b o:Nat}{l:List Value}(h:At w b o l)(k:Nat)(m:List Value)(hm:∀i v,m[i]?=some v→l[k+i]?=some v):At w b (o+k) m:=
 fun i v hv=>by rw[Nat.add_assoc];exact h (k+i) v (hm i v hv)
theorem At.take {w:World}{b o:Nat}{l:List Value}(h:At w b o l)(k n:Nat):At w b (o+k) ((l.drop k).take n):=
 h.sub k _ fun i v hv=>by
  rw[vy] at hv;split at hv
  ·simpa using hv
  ·cases hv
theorem At.append {w:World}{b o:Nat}{l m:List Value}(h:At w b o l)(k:At w b (o+l.length) m):At w b o (l++m):=fun i v hv=>by
 by_cases hi:i<l.length
 ·rw[gp hi] at hv;exact h i v hv
 ·rw[iD ah] at hv;have:=k _ v hv;rwa [show o+l.length+(i - l.length)=o+i by omega] at this
theorem At.left {w:World}{b o:Nat}{l m:List Value}(h:At w b o (l++m)):At w b o l:=fun i v hv=>h i v (by
 rw[gp (aV.1 hv).1];exact hv)
theorem At.right {w:World}{b o:Nat}{l m:List Value}(h:At w b o (l++m)):At w b (o+l.length) m:=h.sub l.length m fun i v hv=>by
 rw[iD ah];simpa using hv
theorem cE.mod {S:Nat→Prop}{w w':World}{b:Nat}{l:List Value}(h:cE w b l)(hm:Mod S w w')(hn:¬S b):cE w' b l:=
 let⟨t,ht⟩:=h;⟨t,hm.row ht hn⟩
theorem cE.ext {w w':World}{b:Nat}{l:List Value}(h:cE w b l)(hm:Ext w w'):cE w' b l:=h.mod hm id
theorem cE.lt {w:World}{b:Nat}{l:List Value}(h:cE w b l):b<w.heap.size:=let⟨_,ht⟩:=h;(rA.1 ht).1
theorem cE.at {w:World}{b:Nat}{l:List Value}(h:cE w b l):At w b 0 l:=by
 obtain⟨t,ht⟩:=h;intro i v hv;rw[cell_of_row w b _ _ t _ ht];simpa using hv
theorem cE.new (w:World)(l:List Value)(t:TypeId):cE (w.alloc (.cells l.toArray t)) w.heap.size l:=⟨t,heap_alloc_new w _⟩
theorem iY (b o k:Nat):(⟨b,o,none⟩:Addr).add k=⟨b,o+k,none⟩:=by unfold Addr.add;split<;>simp_all
structure mu (w w':World)(b o:Nat)(vs:List Value):Prop where
 os:w'.os=w.os
 tape:w'.tape=w.tape
 output:w'.output=w.output
 size:w'.heap.size=w.heap.size
 other:∀k,k≠b→w'.heap[k]?=w.heap[k]?
 here:∀c t fr,w.heap[b]?=some (.cells c t fr)→w'.heap[b]?=some (.cells (c.toList.take o++vs++c.toList.drop (o+vs.length)).toArray t fr)
theorem mu.mod {w w':World}{b o:Nat}{vs:List Value}(h:mu w w' b o vs):Mod (· = b) w w':=
 ⟨h.os,h.tape,h.output,Nat.le_of_eq h.size.symm,fun k _ hk=>h.other k hk⟩
theorem mu.kK {w w':World}{b o:Nat}{vs l:List Value}(h:mu w w' b o vs)(hb:cE w b l):cE w' b (l.take o++vs++l.drop (o+vs.length)):=by
 obtain⟨t,ht⟩:=hb;exact⟨t,by simpa using h.here _ _ _ ht⟩
def cD (P:Program)(t:TypeId):Option (Bool×Nat):=
 match P.underlying t,P.info? t with
 |some d,some i=>some ((match d with | .struct _ | .array _ _=>true|_=>false),i.size)
 |_,_=>none
class aC (P:Program) (t:TypeId) (agg:outParam Bool) (size:outParam Nat):Prop where
 out:cD P t=some (agg,size)
section
variable {P:Program}{t:TypeId}{agg:Bool}{size:Nat}
theorem aC.info (h:aC P t agg size):∃i,P.info? t=some i∧i.size=size:=by
 have:=h.out;unfold cD at this;split at this
 ·rename_i d i h1 h2;simp at this;exact⟨i,h2,this.2⟩
 ·cases this
theorem aC.isAgg (h:aC P t agg size)(w:World):(isAgg t).run P w = .ok agg w:=by
 have:=h.out;unfold cD at this;split at this
 ·rename_i d i h1 h2
  simp only[mU,oI] at this;unfold Go.isAgg;rw[Sem.run_bind,run_underlying h1 w];obtain⟨h3,_⟩:=this;subst h3;cases d<;>rfl
 ·cases this
theorem aC.sizeOf (h:aC P t agg size)(w:World):(sizeOf t).run P w = .ok size w:=by
 obtain⟨i,hi,hs⟩:=h.info;simp[Go.sizeOf,typeInfo,hi,hs]
end
def Hu (P:Program)(s:TypeId)(f:Nat):Option (Nat×Nat×Bool):=
 match P.underlying s with
 |some (.struct fs)=>match fs[f]? with
  |some x=>match cD P x.type with
   |some (g,z)=>some (x.offset,z,g)
   |none=>none
  |none=>none
 |_=>none
class aZ (P:Program) (s:TypeId) (f:Nat) (off:outParam Nat) (size:outParam Nat) (agg:outParam Bool):Prop where
 out:Hu P s f=some (off,size,agg)
def sliceB (P:Program)(t:TypeId):Option (TypeId×Nat×Nat):=
 match P.underlying t with
 |some (.slice e)=>match P.info? e with
  |some i=>match i.zero with
   |some z=>if z.cells.size=i.size then some (e,i.size,i.bytes) else none
   |none=>none
  |none=>none
 |_=>none
class cr (P:Program) (t:TypeId) (e:outParam TypeId) (size:outParam Nat) (bytes:outParam Nat):Prop where
 out:sliceB P t=some (e,size,bytes)
section
variable {P:Program}{t e:TypeId}{size bytes:Nat}
theorem cr.facts (h:cr P t e size bytes):P.underlying t=some (.slice e)∧∃i z,P.info? e=some i∧i.zero=some z∧i.size=size∧i.bytes=bytes∧z.cells.size=size:=by
 have:=h.out;unfold sliceB at this;split at this
 ·rename_i e' h1
  split at this
  ·rename_i i h2
   split at this
   ·rename_i z h3
    split at this
    ·rename_i h4
     simp only[mU,oI] at this;obtain⟨rfl,rfl,rfl⟩:=this;exact⟨h1,i,z,h2,h3,rfl,rfl,h4⟩
    ·cases this
   ·cases this
  ·cases this
 ·cases this
theorem cr.mi (h:cr P t e size bytes):P.underlying t=some (.slice e):=h.facts.1
theorem cr.XF (h:cr P t e size bytes)(w:World):(sizeOf e).run P w = .ok size w:=by
 obtain⟨_,i,z,h2,_,h4,_⟩:=h.facts;simp[Go.sizeOf,typeInfo,h2,h4]
theorem cr.XG (h:cr P t e size bytes)(w:World):(sizeOf (P.elem t)).run P w = .ok size w:=by
 have:P.elem t=e:=by simp[Program.elem,h.mi]
 rw[this];exact h.XF w
theorem cr.Pv (h:cr P t e size bytes):P.underlying t=some (.slice (P.elem t)):=by
 have:P.elem t=e:=by simp[Program.elem,h.mi]
 rw[this];exact h.mi
end
section
variable {P:Program}{ops:Array Oper}{Q:Exit→Act→World→Prop}{S:World→Prop}{n:Nat}
def GX [Fr](P:Program)(ops:Array Oper)(Q:Exit→Act→World→Prop)(S:World→Prop)(n:Nat)(p:b6)(e:Env)(w:World):Prop:=
 ∀a,fJ a e n→sN P ops Q S p a w
inductive Kd where
 |pure|read|aw
def GO [Fr](P:Program)(ops:Array Oper)(Q:Exit→Act→World→Prop)(S:World→Prop)(n:Nat)(k:Kd)(i:Nat)(o:Oper)(p:b6)(e:Env)(w:World):Prop:=
 ops[i]?=some o→∀a,fJ a e n→sN P ops Q S (match k with | .pure => .pure i p | .read => .read i p | .aw => .aw i p) a w
theorem GX.pure [Fr]{i:Nat}{o:Oper}{p:b6}{e:Env}{w:World}(ho:ops[i]?=some o)(h:GO P ops Q S n .pure i o p e w):GX P ops Q S n (.pure i p) e w:=fun a ha=>h ho a ha
theorem GX.read [Fr]{i:Nat}{o:Oper}{p:b6}{e:Env}{w:World}(ho:ops[i]?=some o)(h:GO P ops Q S n .read i o p e w):GX P ops Q S n (.read i p) e w:=fun a ha=>h ho a ha
theorem GX.aw [Fr]{i:Nat}{o:Oper}{p:b6}{e:Env}{w:World}(ho:ops[i]?=some o)(h:GO P ops Q S n .aw i o p e w):GX P ops Q S n (.aw i p) e w:=fun a ha=>h ho a ha
theorem GX.alt [Fr]{p q:b6}{e:Env}{w:World}(h1:GX P ops Q S n p e w)(h2:GX P ops Q S n q e w):GX P ops Q S n (.alt p q) e w:=fun a ha=>⟨h1 a ha,h2 a ha⟩
theorem GX.sub [Fr]{p:b6}{e e':Env}{w:World}(hs:Sub e' e)(h:GX P ops Q S n p e' w):GX P ops Q S n p e w:=fun a ha=>h a (ha.sub hs)
theorem GX.pick [Fr]{p:b6}{e e':Env}{w:World}(l:List Nat)(hs:vh e l=some e')(h:GX P ops Q S n p e' w):GX P ops Q S n p e w:=h.sub (cR hs)
theorem GX.case [Fr]{p:b6}{e:Env}{w:World}(t:Nat){b:Bool}(hl:look t e=some (.bool b))(h1:b=true→GX P ops Q S n p ((t, .bool true)::e) w)(h2:b=false→GX P ops Q S n p ((t, .bool false)::e) w):GX P ops Q S n p e w:=by
 cases b with
 |true=>exact(h1 rfl).sub (fun s v hs=>by
   simp only[look] at hs;cases hb:Nat.beq t s with
   |true=>rw[hb] at hs;simp at hs;subst hs;rw[←Nat.eq_of_beq_eq_true hb];exact hl
   |false=>rw[hb] at hs;exact hs)
 |false=>exact(h2 rfl).sub (fun s v hs=>by
   simp only[look] at hs;cases hb:Nat.beq t s with
   |true=>rw[hb] at hs;simp at hs;subst hs;rw[←Nat.eq_of_beq_eq_true hb];exact hl
   |false=>rw[hb] at hs;exact hs)
section
variable {i:Nat}{o:Oper}{p:b6}{e:Env}{w:World}
theorem GO.val [Fr]{k:Kd}(hk:k = .pure∨k = .aw){v:Value}(hw:aI ops e o=some true)(hd:fits n o.dst=true)
  (hv:∀a,fJ a e n→∀w,(execOp a.eval o).run P w = .ok (.value v) w) (h:GX P ops Q S n p (e.put o.dst v) w):GO P ops Q S n k i o p e w:=by
 intro ho a ha;have hy:YieldsIf P ops (fun _=>True) o v a := .inl ⟨Gj ha hw,fun w _=>hv a ha w⟩
 rcases hk with rfl|rfl
 ·exact⟨o,v,ho,hy,h _ (ha.vj hd v)⟩
 ·exact YieldsIf.Gl ho hy trivial ⟨fun _ h=>h,h _ (ha.vj hd v)⟩
theorem GO.rd [Fr]{v:Value}(hS:S w)(hw:aI ops e o=some true)(hd:fits n o.dst=true)
  (hv:∀a,fJ a e n→∀w,S w→(execOp a.eval o).run P w = .ok (.value v) w) (h:GX P ops Q S n p (e.put o.dst v) w):GO P ops Q S n .read i o p e w:=
 fun ho a ha=>⟨hS,o,v,ho, .inl ⟨Gj ha hw,fun w Ak=>hv a ha w Ak⟩,h _ (ha.vj hd v)⟩
theorem GO.skip [Fr]{k:Kd}(hk:k = .pure∨k = .aw)(hw:aI ops e o=some false)(hd:fits n o.dst=true)(h:GX P ops Q S n p (e.put o.dst undef) w):GO P ops Q S n k i o p e w:=by
 intro ho a ha;have hy:YieldsIf P ops (fun _=>True) o undef a := .inr ⟨Gj ha hw,rfl⟩
 rcases hk with rfl|rfl
 ·exact⟨o,undef,ho,hy,h _ (ha.vj hd _)⟩
 ·exact YieldsIf.Gl ho hy trivial ⟨fun _ h=>h,h _ (ha.vj hd _)⟩
theorem GO.XH [Fr](hS:S w)(hw:aI ops e o=some false)(hd:fits n o.dst=true)(h:GX P ops Q S n p (e.put o.dst undef) w):GO P ops Q S n .read i o p e w:=
 fun ho a ha=>⟨hS,o,undef,ho, .inr ⟨Gj ha hw,rfl⟩,h _ (ha.vj hd _)⟩
theorem GO.act [Fr]{R:Value→World→Prop}(hw:aI ops e o=some true)(hd:fits n o.dst=true)
  (hx:∀a,fJ a e n→∀(K:Act→World→Prop),(∀v w',R v w'→K (a.put o.dst v) w')→o.wpIn Fr.F 0 P a w K Q)
  (h:∀v w',R v w'→(gS ops i=false→S w→S w')∧GX P ops Q S n p (e.put o.dst v) w'):GO P ops Q S n .aw i o p e w:=by
 intro ho a ha;unfold sN wpOpIn;simp only[ho,Gj ha hw,if_true];exact hx a ha _ fun v w' hR=>⟨(h v w' hR).1,(h v w' hR).2 _ (ha.vj hd v)⟩
theorem GO.run [Fr]{R:Value→World→Prop}(hw:aI ops e o=some true)(hd:fits n o.dst=true)
  (hx:∀a,fJ a e n→∃x v w',(execOp a.eval o).run P w = .ok x w'∧(x = .value v∨x = .skip∧v=undef)∧R v w')
  (h:∀v w',R v w'→(gS ops i=false→S w→S w')∧GX P ops Q S n p (e.put o.dst v) w'):GO P ops Q S n .aw i o p e w:=
 GO.act (R:=R) hw hd (fun a ha K hK=>by
  obtain⟨x,v,w',hr,hx,hR⟩:=hx a ha;refine⟨fun f _=>trivial,?_⟩
  rcases hx with rfl|⟨rfl,rfl⟩
  ·rw[J7 hr (by simp)];exact hK v w' hR
  ·rw[J7 hr (by simp)];exact hK _ w' hR) h
end
end
end Go.Proofs.YtoloaehmppcjoaaGreat.V
