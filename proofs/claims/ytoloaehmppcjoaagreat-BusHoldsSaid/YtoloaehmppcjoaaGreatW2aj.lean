/-
  Parts of the proof. No condition.
-/
import Derived.Test.YtoloaehmppcjoaaGreatW2ai
import Derived.Laws.StructEq
set_option linter.unusedVariables false
set_option linter.unusedSimpArgs false
set_option maxRecDepth 8000
set_option maxHeartbeats 8000000
open Go.Proofs.Tryz
namespace Go.Proofs.YtoloaehmppcjoaaGreat.V.M
section
attribute [local irreducible] GO GX
def K5:Value→Value→Option Bool
 |.int k a, .int k' b=>if k=k' then some (decide (a=b)) else none
 |.string a, .string b=>some (decide (a=b))
 |.bool a, .bool b=>some (decide (a=b))
 |_,_=>none
def Hx (P:Program):List Field→Nat→Bool
 | [],_=>true
 |f::r,i=>f.name != "_" && f.offset == i&&(match cD P f.type with|some (false,1)=>true|_=>false)&&(match P.underlying f.type with|some (.int _)=>true|some .string=>true|some .bool=>true|_=>false)&&Hx P r (i+1)
def Ci (P:Program):List Field→Option (List Nat)
 | []=>some []
 |f::r=>match P.underlying f.type,Ci P r with
  |some (.int _),some l=>some (0::l)
  |some .string,some l=>some (1::l)
  |some .bool,some l=>some (2::l)
  |_,_=>none
def Uq:Nat→Value→Bool
 |0, .int _ _=>true
 |1, .string _=>true
 |2, .bool _=>true
 |_,_=>false
def yz:List Nat→List Value→Bool
 | [],[]=>true
 |k::ks,v::l=>Uq k v&&yz ks l
 |_,_=>false
def Ri (P:Program)(t:TypeId):Option (List Nat):=
 match P.underlying t with
 |some (.struct fs)=>if Hx P fs.toList 0&&!P.stoodInHeld t&&!P.eqGuardType P.depth t then Ci P fs.toList else none
 |_=>none
class xC (P:Program) (t:TypeId) (ks:outParam (List Nat)):Prop where
 out:Ri P t=some ks
def vN:List Value→List Value→Option Bool
 | [],[]=>some true
 |a::l,b::r=>match K5 a b,vN l r with
  |some x,some y=>some (x&&y)
  |_,_=>none
 |_,_=>none
theorem ai5 {P:Program}{t:TypeId}{a b:Value}{z:Bool}(h:K5 a b=some z)(hu:(match P.underlying t with|some (.int _)=>true|some .string=>true|some .bool=>true|_=>false)=true)(d:Nat)(w:World)(ha:∀k n,a = .int k n→(match P.underlying t with|some (.int _)=>true|_=>false)=true)(hs:∀s,a = .string s→P.underlying t=some .string)(hb:∀s,a = .bool s→P.underlying t=some .bool):(Op.equalIn (d+1) t a b).run P w = .ok z w:=by
 unfold K5 at h;split at h
 ·rename_i k x k' y
  split at h
  ·rename_i hk
   subst hk;cases h;have:=ha k x rfl;split at this
   ·rename_i q hq;rw[run_equalIn_int w d t k q x y hq,Bool.beq_eq_decide_eq]
   ·cases this
  ·cases h
 ·rename_i x y
  cases h;rw[run_equalIn_string w d t x y (hs x rfl),←beq_toListBytes,KV]
 ·rename_i x y
  cases h;rw[run_equalIn_bool' w d t x y (hb x rfl),Bool.beq_eq_decide_eq]
 ·cases h
def Ao (P:Program):List Field→List Value→Bool
 | [],[]=>true
 |f::r,v::l=>(match v,P.underlying f.type with | .int _ _,some (.int _)=>true | .string _,some .string=>true | .bool _,some .bool=>true|_,_=>false)&&Ao P r l
 |_,_=>false
theorem Uv {P:Program}:∀{fs:List Field}{ks:List Nat}{l:List Value},Ci P fs=some ks→yz ks l=true→Ao P fs l=true
 | [],ks,l,h,hk=>by
   simp only[Ci,mU] at h;subst h;cases l with
   |nil=>rfl
   |cons _ _=>simp[yz] at hk
 |f::fs,ks,[],h,hk=>by
  simp only[Ci] at h;split at h<;>first|(cases h;simp[yz] at hk;done)|cases h
 |f::fs,ks,v::l,h,hk=>by
  simp only[Ci] at h;split at h
  all_goals first|(cases h;done)|skip
  all_goals
   rename_i hu hr
   cases h;simp only[yz,qA] at hk;obtain⟨h1,h2⟩:=hk;simp only[Ao,hu,Uv hr h2,Bool.and_true];unfold Uq at h1;split at h1<;>simp_all
theorem Xd {P:Program}{d:Nat}:∀{fs:List Field}{xs ys l r:List Value}{i:Nat}{z:Bool},Hx P fs i=true→xs.drop i=l→ys.drop i=r→Ao P fs l=true→vN l r=some z→∀w,(Op.eqFields (d+1) xs.toArray ys.toArray fs).run P w = .ok z w
 | [],xs,ys,[],[],i,z,_,_,_,_,h,w=>by simp only[vN,mU] at h;subst h;simp[Op.eqFields]
 | [],_,_,_::_,_,_,_,_,_,_,hk,_,_=>by simp[Ao] at hk
 |f::fs,xs,ys,[],r,i,z,_,_,_,hk,_,_=>by simp[Ao] at hk
 |f::fs,xs,ys,a::l,[],i,z,_,_,_,_,h,_=>by simp[vN] at h
 | [],_,_,[],_::_,_,_,_,_,_,_,h,_=>by simp[vN] at h
 |f::fs,xs,ys,a::l,b::r,i,z,hf,hx,hy,hk,h,w=>by
  simp only[Hx,qA] at hf;obtain⟨⟨⟨⟨h1,h2⟩,h3⟩,h4⟩,h5⟩:=hf;have To:f.offset=i:=by simpa using h2
  have aP:f.name ≠ "_" := by simpa using h1
  have I6:aC P f.type false 1:=⟨by
   split at h3
   ·assumption
   ·cases h3⟩
  have lY:xs[i]?=some a:=by have:=congrArg (·[0]?) hx;simpa using this
  have eT:ys[i]?=some b:=by have:=congrArg (·[0]?) hy;simpa using this
  have hpa:∀w,(part f.type xs.toArray f.offset).run P w = .ok a w:=fun w=>by
   simp only[part,Sem.run_bind,I6.isAgg,Result.andThen_ok,vA,if_false,To];simp[lY]
  have hpb:∀w,(part f.type ys.toArray f.offset).run P w = .ok b w:=fun w=>by
   simp only[part,Sem.run_bind,I6.isAgg,Result.andThen_ok,vA,if_false,To];simp[eT]
  simp only[Ao,qA] at hk;simp only[vN] at h;split at h
  ·rename_i x y hc he
   cases h;have p5:=ai5 (P:=P) (t:=f.type) hc h4 d w (fun k n e=>by
    subst e;have:=hk.1;split at this
    ·rename_i q;simp[q]
    ·rename_i e _;cases e
    ·rename_i e _;cases e
    ·cases this) (fun s e=>by
    subst e;have:=hk.1;split at this
    ·rename_i e _;cases e
    ·assumption
    ·rename_i e _;cases e
    ·cases this) (fun s e=>by
    subst e;have:=hk.1;split at this
    ·rename_i e _;cases e
    ·rename_i e _;cases e
    ·assumption
    ·cases this)
   simp only[Op.eqFields,if_pos aP,Sem.run_bind,hpa,hpb,Result.andThen_ok,p5];cases x with
   |false=>simp
   |true=>
    have ih:=Xd (d:=d) h5 (by rw[←List.drop_drop,hx];rfl) (by rw[←List.drop_drop,hy];rfl) hk.2 he w;simpa using ih
  ·cases h
section
variable {P:Program}{ops:Array Oper}{Q:Exit→Act→World→Prop}{S:World→Prop}{n:Nat}
variable {i m:Nat}{p:b6}{e:Env}{w:World}{k:Kd}{dst:Option Tmp}{ty:TypeId}{pos:String}{an:Array Edge}{g:Option (Nat×Bool)}
theorem W8 {P:Program}{t:TypeId}{c:List Nat}(hf:xC P t c){xs ys:List Value}{z:Bool}(hk:yz c xs=true)(h:vN xs ys=some z)(w:World):(Op.equalIn 10000 t (.agg xs.toArray) (.agg ys.toArray)).run P w = .ok z w∧P.eqGuardType P.depth t=false:=by
 have h1:=hf.out;unfold Ri at h1;split at h1
 ·rename_i fs hu
  split at h1
  ·rename_i hb
   simp only[qA,Bool.not_eq_true'] at hb;obtain⟨⟨mE,iM⟩,xT⟩:=hb;have SF:P.fieldsOf t=fs:=by simp[Program.fieldsOf,hu]
   rw[show(10000:Nat)=9998+1+1 from rfl,run_equalIn_struct w (9998+1) t _ _ (by rw[SF];exact hu) iM,SF];exact⟨Xd mE (List.drop_zero) (List.drop_zero) (Uv h1 hk) h w,xT⟩
  ·cases h1
 ·cases h1
theorem GO.PW [Fr](hk:cC k=true){t t2:TypeId}{c:List Nat}[hf:xC P t c]{x y:Operand}{xs ys:List Value}{z:Bool}(hw:aI ops e ⟨dst, .binOp .eql t x y t2,ty,pos,an,g⟩=some true)(hx:ev e x=some (.agg xs.toArray))(hy:ev e y=some (.agg ys.toArray))(hd:fits n dst=true)
  (BM:yz c xs=true) (hz:vN xs ys=some z) (h:GX P ops Q S n p (e.put dst (.bool z)) w):GO P ops Q S n k i ⟨dst, .binOp .eql t x y t2,ty,pos,an,g⟩ p e w:=
 GO.val (fX hk) hw hd (fun a ha w=>by
  obtain⟨h1,h2⟩:=W8 hf BM hz w;simp[execOp,bE ha hx,bE ha hy,run_eqGuard_agg,h2,run_eql_struct,h1]) h
theorem GO.PX [Fr](hk:cC k=true){t t2:TypeId}{c:List Nat}[hf:xC P t c]{x y:Operand}{xs ys:List Value}{z:Bool}(hw:aI ops e ⟨dst, .binOp .neq t x y t2,ty,pos,an,g⟩=some true)(hx:ev e x=some (.agg xs.toArray))(hy:ev e y=some (.agg ys.toArray))(hd:fits n dst=true)
  (BM:yz c xs=true) (hz:vN xs ys=some z) (h:GX P ops Q S n p (e.put dst (.bool !z)) w):GO P ops Q S n k i ⟨dst, .binOp .neq t x y t2,ty,pos,an,g⟩ p e w:=
 GO.val (fX hk) hw hd (fun a ha w=>by
  obtain⟨h1,h2⟩:=W8 hf BM hz w;simp[execOp,bE ha hx,bE ha hy,run_eqGuard_agg,h2,run_neq_struct,h1]) h
end
end
section
instance:xC prog 31 [0,1]:=⟨ai⟩
instance:xC prog 99 [0,0]:=⟨ai⟩
instance:xC prog 252 [0,0]:=⟨ai⟩
instance:xC prog 286 [0,0]:=⟨ai⟩
instance:xC prog 352 [1,0]:=⟨ai⟩
instance:mv prog 3 (.int .i64 0):=mv.of ai
instance:mv prog 4 (.bool false):=mv.of ai
instance:mv prog 44 (.slice none 0 0):=mv.of ai
instance:mv prog 256 (.agg #[.slice none 0 0, .slice none 0 0]):=mv.of ai
instance:mv prog 258 (.pointer none):=mv.of ai
instance:mv prog 295 (.agg #[.int .i64 0, .int .i64 0]):=mv.of ai
end
section
attribute [local irreducible] GO GX
def dt (l:List Nat):Nat→Prop:=fun k=>¬k∈l
theorem Cv {a:Nat}{l:List Nat}:¬dt (a::l) a:=fun h=>h (by simp)
theorem tL {a b:Nat}{l:List Nat}:¬dt (b::a::l) a:=fun h=>h (by simp)
theorem FC {a b c:Nat}{l:List Nat}:¬dt (c::b::a::l) a:=fun h=>h (by simp)
section
variable {P:Program}{ops:Array Oper}{Q:Exit→Act→World→Prop}{S:World→Prop}{n:Nat}
variable {i m:Nat}{p:b6}{e:Env}{w:World}{k:Kd}{dst:Option Tmp}{ty:TypeId}{pos:String}{an:Array Edge}{g:Option (Nat×Bool)}
variable {og:Og}{l r l':List It}{b:Nat}
theorem stepR_label {P:Program}{b:Frame}{a:Act}{k:List Item}{cs:List Frame}{w:World}{c:Nat}:step P (lone (b.atR a (.code (.label c)::k)) cs w) = .next (lone (b.atR a k) cs w):=
 step_lone_go (by simp[stepG,stepG.exec,Frame.atR])
theorem GC.label [Fr]{Q:Exit→Act→World→Prop}{c:Nat}(h:GQ Q .normal n e w):GC P (.label c) Q n e w:=by
 unfold GQ at h;unfold GC;intro a ha b k cs TA hb hr;exact⟨.normal,a,w,h a ha, .one (fenced_calm hb hr rfl) stepR_label⟩
theorem GC.scope [Fr]{Q:Exit→Act→World→Prop}{c:Code}(h:GC P c (Exit.noGoto Q) n e w):GC P (.scope c) Q n e w:=by
 unfold GC at h ⊢;exact fun a ha=>al9 (h a ha)
theorem GQ.ahg [Fr]{Q:Exit→Act→World→Prop}(h:GQ Q .normal n e w):GQ (Exit.noGoto Q) .normal n e w:=by unfold GQ at h ⊢;exact h
theorem GQ.ahh [Fr]{Q:Exit→Act→World→Prop}(h:GQ Q .ret n e w):GQ (Exit.noGoto Q) .ret n e w:=by unfold GQ at h ⊢;exact h
theorem GQ.ahf [Fr]{Q:Exit→Act→World→Prop}{id:Nat}(h:GQ Q (.exit id) n e w):GQ (Exit.noGoto Q) (.exit id) n e w:=by unfold GQ at h ⊢;exact h
inductive Sn:List Value→List Value→Nat→List Value→Prop
 |nil {l:List Value}:Sn [] l 0 l
 |zero {v x:Value}{vs l r:List Value}:Sn vs l 0 r→Sn (v::vs) (x::l) 0 (v::r)
 |succ {x:Value}{vs l r:List Value}{n:Nat}:Sn vs l n r→Sn vs (x::l) (n+1) (x::r)
theorem Sn.eq {vs l r:List Value}{n:Nat}(h:Sn vs l n r):l.take n++vs++l.drop (n+vs.length)=r:=by
 induction h with
 |nil=>simp
 |zero _ ih=>simpa using ih
 |succ _ ih=>simpa[Nat.add_right_comm] using ih
theorem GX.bt [Fr]{t:TypeId}{agg:Bool}{sz:Nat}{x y:Operand}{o:Nat}{v:Value}{vs cs cs':List Value}(hH:SH og w l:=by assumption)
  (ho:ops[i]?=some ⟨none, .store t x y,ty,pos,an,g⟩:=by rfl) (hf:aC P t agg sz:=by infer_instance) (hw:aI ops e ⟨none, .store t x y,ty,pos,an,g⟩=some true:=by rfl) (hx:ev e x=some (.pointer (some ⟨b,o,none⟩)):=by rfl) (hy:ev e y=some v:=by rfl)
  (hr:bA (aB b cs) (aB b cs') l l':=by repeat(first|exact bA.here|apply bA.there)) (hv:Cl v vs:=by first|exact Cl.agg|exact Cl.one rfl) (hl:vs.length=sz:=by rfl) (hlen:Nat.ble (o+sz) cs.length=true:=by rfl) (h1:(vs.all fun u=>u.oneCell')=true:=by rfl) (hl':Sn vs cs o cs':=by repeat(first|exact Sn.nil|apply Sn.zero|apply Sn.succ))
  (h:∀w',SH og w' l'→GX P ops Q (fun _=>True) n (bc (i+1) m) e w'):GX P ops Q (fun _=>True) n (bc i (m+1)) e w:=by
 obtain⟨_,hs,_⟩:=hr.perm;have hB:cE w b cs:=let⟨_,_,h,_⟩:=(hH.perm hs).head;h;exact GX.store hB ho hw hx hy hv.eq hl hlen (fun u hu=>sR.1 h1 u hu) hl'.eq fun w' zA hm=>h w' (hH.JU hr (fun _=>zA) hm)
theorem GC.br [Fr]{id:Nat}{ops:Array Oper}(hH:SH og w l:=by assumption)(pl:b6)(T:Nat→Prop)(hm:P.follows .mixedOrders=true:=by exact mixed)(hs:Region.noSelect ops=true:=by kernel_rfl)(hp:qF .any ops ops.size (Array.replicate ops.size false) pl=true:=by kernel_rfl)
  (h:∀w1,Ext w w1→SH og w1 l→GX P ops (NoPanic Q) (Mod T w) n pl e w1):GC P (.region id ops true) Q n e w:=
 GC.pv pl T hm hs hp (h _ (Ext.drew w) (hH.ext (Ext.drew w)))
theorem GO.cT [Fr]{t:TypeId}{x:Operand}{o j:Nat}{v:Value}{cs:List Value}(hH:SH og w l:=by assumption)(hw:aI ops e ⟨dst, .load t x,ty,pos,an,g⟩=some true:=by rfl)(hf:aC P t false 1:=by infer_instance)(hx:ev e x=some (.pointer (some ⟨b,o,none⟩)):=by rfl)(hd:fits n dst=true:=by rfl)
  (hs:Es b cs l:=by repeat(first|exact Es.sl|exact Es.lr|exact Es.lx|apply Es.there)) (hv:cs[j]?=some v) (hj:o=j:=by first|rfl|omega) (h:GX P ops Q S n p (e.put dst v) w):GO P ops Q S n .aw i ⟨dst, .load t x,ty,pos,an,g⟩ p e w:=by
 subst hj;have h1:=At.one (hH.es hs) hv;rw[dz] at h1;exact GO.l6 hw hx hd h1 h
theorem GO.kg [Fr]{t:TypeId}{k:Nat}{x:Operand}{o j:Nat}{vs:List Value}{cs:List Value}(hH:SH og w l:=by assumption)(hw:aI ops e ⟨dst, .load t x,ty,pos,an,g⟩=some true:=by rfl)(hf:aC P t true k:=by infer_instance)(hx:ev e x=some (.pointer (some ⟨b,o,none⟩)):=by rfl)(hd:fits n dst=true:=by rfl)
  (hs:Es b cs l:=by repeat(first|exact Es.sl|exact Es.lr|exact Es.lx|apply Es.there)) (hv:(cs.drop j).take k=vs) (hk:vs.length=k:=by rfl) (hj:o=j:=by first|rfl|omega) (h:GX P ops Q S n p (e.put dst (.agg vs.toArray)) w):GO P ops Q S n .aw i ⟨dst, .load t x,ty,pos,an,g⟩ p e w:=by
 subst hj hv;have h1:=At.take (hH.es hs) o k;rw[dz] at h1;exact GO.Vz hw hx hd h1 hk h
theorem GO.lC [Fr]{T:Nat→Prop}{w0:World}{t:TypeId}{x:Operand}{o j:Nat}{v:Value}{cs:List Value}(hH:SH og w0 l:=by assumption)(hT:¬T b:=by first|exact id|assumption|exact Cv|exact tL|exact FC)(hS:Mod T w0 w:=by first|assumption|exact Ext.mod (by assumption))(hw:aI ops e ⟨dst, .load t x,ty,pos,an,g⟩=some true:=by rfl)(hf:aC P t false 1:=by infer_instance)(hx:ev e x=some (.pointer (some ⟨b,o,none⟩)):=by rfl)(hd:fits n dst=true:=by rfl)
  (hs:Es b cs l:=by repeat(first|exact Es.sl|exact Es.lr|exact Es.lx|apply Es.there)) (hv:cs[j]?=some v) (hj:o=j:=by first|rfl|omega) (h:GX P ops Q (Mod T w0) n p (e.put dst v) w):GO P ops Q (Mod T w0) n .read i ⟨dst, .load t x,ty,pos,an,g⟩ p e w:=by
 subst hj;have h1:=At.one (hH.es hs) hv;rw[dz] at h1;exact GO.pe h1 hT hS hw hx hd h
theorem GO.yB [Fr]{T:Nat→Prop}{w0:World}{t:TypeId}{k:Nat}{x:Operand}{o j:Nat}{vs:List Value}{cs:List Value}(hH:SH og w0 l:=by assumption)(hT:¬T b:=by first|exact id|assumption|exact Cv|exact tL|exact FC)(hS:Mod T w0 w:=by first|assumption|exact Ext.mod (by assumption))(hw:aI ops e ⟨dst, .load t x,ty,pos,an,g⟩=some true:=by rfl)(hf:aC P t true k:=by infer_instance)(hx:ev e x=some (.pointer (some ⟨b,o,none⟩)):=by rfl)(hd:fits n dst=true:=by rfl)
  (hs:Es b cs l:=by repeat(first|exact Es.sl|exact Es.lr|exact Es.lx|apply Es.there)) (hv:(cs.drop j).take k=vs) (hk:vs.length=k:=by rfl) (hj:o=j:=by first|rfl|omega) (h:GX P ops Q (Mod T w0) n p (e.put dst (.agg vs.toArray)) w):GO P ops Q (Mod T w0) n .read i ⟨dst, .load t x,ty,pos,an,g⟩ p e w:=by
 subst hj hv;have h1:=At.take (hH.es hs) o k;rw[dz] at h1;exact GO.agl h1 hT hS hk hw hx hd h
theorem GX.Ga [Fr]{T:Nat→Prop}{w0:World}{t:TypeId}{x y:Operand}{el:TypeId}{len cap j o:Nat}{v:Value}{cs:List Value}(hH:SH og w l:=by assumption)(hT:T b∨gS ops i=true:=by exact .inr ai)
  (ho:ops[i]?=some ⟨none, .store t x y,ty,pos,an,g⟩:=by rfl) (hf:aC P t false 1:=by infer_instance) (hw:aI ops e ⟨none, .store t x y,ty,pos,an,g⟩=some true:=by rfl) (hx:ev e x=some (.pointer (some ⟨b,o,none⟩)):=by rfl) (BY:o=j:=by omega) (hy:ev e y=some v:=by rfl)
  (hr:bA (aq el 1 (some b) len cap cs) (aq el 1 (some b) len cap (cs.set j v)) l l':=by repeat(first|exact bA.here|apply bA.there)) (hj:j<cs.length) (hc:v.cells.toList=[v]:=by rfl) (h1:v.oneCell'=true:=by rfl)
  (h:∀w',SH og w' l'→GX P ops Q (Mod T w0) n p e w'):GX P ops Q (Mod T w0) n (.aw i p) e w:=by
 subst BY;obtain⟨_,hs,_⟩:=hr.perm;have hO:aH w el 1 (some b) (aA (some b)) len cap cs:=let⟨_,_,h,_⟩:=(hH.perm hs).head;h;refine GX.aw ho (GO.store (vs:=[v]) (OL hO hj) hc rfl (by simpa using h1) hw hx hy fun w' hp=>⟨(fun lz hS=>by
  rcases hT with hT|hT
  ·exact hS.trans (hp.mod.weaken fun k _ hk=>by subst hk;exact hT)
  ·rw[hT] at lz;cases lz),h w' (hH.lG hr (fun _=>OK hO hp hj) (hp.mod.weaken fun k _ hk=>by rw[hk]) fun b hb => .inl hb)⟩)
theorem GX.P4 [Fr]{T:Nat→Prop}{w0:World}{p:b6}{j:Nat}{d:Tmp}{x y:Operand}{t el:TypeId}{sz aT:Nat}{q:Option Nat}{len cap:Nat}{cs vs:List Value}{v:Value}{AV:TypeId}{AE:String}{zh:Array Edge}{qd:Option Nat→Nat→List It}(hH:SH og w l:=by assumption)
  (ho:ops[i]?=some ⟨some d, .buildSlice t 1 #[(0,y)],AV,AE,zh,none⟩:=by rfl) (z6:ops[j]?=some ⟨dst, .call ⟨.builtin .append,#[x, .tmp d],#[t,t]⟩,ty,pos,an,none⟩:=by rfl) (hf:cr P t el sz aT:=by infer_instance) (hy:ev e y=some v:=by rfl)
  (hx:∀b:Nat,ev ((d, .slice (some ⟨b,0,none⟩) 1 1)::e) x=some (.slice (aA q) len cap):=by intro _;rfl) (hv:Cl v vs:=by first|exact Cl.agg|exact Cl.one rfl) (hl:vs.length=sz:=by rfl) (h0:Nat.blt 0 sz=true:=by rfl) (hz:Nat.ble sz 16777216=true:=by rfl) (j8:Nat.ble aT 140737488355328=true:=by rfl) (hd:fits n dst=true:=by rfl) (fE:fits n (some d)=true:=by rfl)
  (h1:∀u∈vs,u.oneCell'=true) (hT:∀k,some k=q→T k:=by exact fun _ h=>h) (hr:∀q' c',bA (aq el sz q len cap cs) (aq el sz q' (len+1) c' (cs++vs)) l (qd q' c'):=by intro _ _;repeat(first|exact bA.here|apply bA.there)) (hb:(len+1)*aT≤140737488355328:=by omega) (hm:len+1≤140737488355328:=by omega)
  (h:∀q' c' w' b,SH og w' (qd q' c')→GX P ops Q (Mod T w0) n p (Env.put ((d, .slice (some ⟨b,0,none⟩) 1 1)::e) dst (.slice (aA q') (len+1) c')) w'):GX P ops Q (Mod T w0) n (.aw i (.aw j p)) e w:=by
 refine GX.CP ho (by simp[aI]) hy hv.eq hl h0 hz j8 fE fun b w' uz hO hE=>?_
 obtain⟨_,hs,_⟩:=(hr none 0).perm;have o0:aH w' el sz q (aA q) len cap cs:=let⟨_,_,h,_⟩:=((hH.ext hE).perm hs).head;h;refine GX.Bh (m2:=1) (c2:=1) o0 hO.bL hT z6 (by simp[aI]) (hx b) (by simp[ev,Env.put,look]) hd h0 ah h1 hb hm fun cQ a' c' yY j6 jw hn ha=>?_
 have e:a'=aA cQ:=wW j6 fun h0=>by
  cases qP:a' with
  |none=>rfl
  |some x=>
   rcases ha x qP with h2|⟨h2,h3⟩
   ·rw[h0] at h2;cases h2
   ·rw[←h3,h0] at h2;cases h2
 subst e;exact h cQ c' yY b ((hH.ext hE).lG (hr cQ c') (fun _=>j6) (jw.weaken fun k _ hk=>hk) hn)
theorem OJ {w:World}{el:TypeId}{sz n c k:Nat}{q:Option Nat}{cs:List Value}(h:aH w el sz q (aA q) n c cs)(hk:k≤n):aH w el sz q (aA q) k c (cs.take (k*sz)):=by
 have iN:k*sz≤n*sz:=y4 sz hk;obtain⟨h0,⟨rfl,rfl,h2,h3⟩|⟨b',rfl,hb,hl,⟨h,_⟩|⟨g,k',cur,h,dR,hg,h1,h2,h3,h4⟩⟩⟩:=h
 ·have:=h3 rfl;subst this;obtain rfl:k=0:=by omega
  exact⟨by simp, .inl ⟨rfl,rfl,by rw[vB,List.take_zero];exact bN.empty _ _,fun _=>rfl⟩⟩
 ·cases h
 ·cases h;have qV:(cs.take (k*sz)).length=k*sz:=by rw[dI];omega
  refine⟨qV, .inr ⟨b',rfl,rfl,qV, .inr ⟨b',c,cur,rfl,dR,hg,by omega,h2,h3,?_⟩⟩⟩;rw[←h4,List.take_take];congr 1;omega
theorem xl (q:Option Nat)(m sz:Nat):fi (aA q) 0 m sz=aA q:=by
 unfold fi aA;split
 ·rfl
 ·cases q<;>simp[iY]
theorem GX.K9 [Fr]{t:TypeId}{x y:Operand}{el:TypeId}{sz aT len cap:Nat}{q:Option Nat}{cs:List Value}{ki:IntKind}{j:Int}(c:Nat)(hH:SH og w l:=by assumption)
  (ho:ops[i]?=some ⟨dst, .slice t x none (some y) none,ty,pos,an,g⟩:=by rfl) (hf:cr P t el sz aT:=by infer_instance) (hw:aI ops e ⟨dst, .slice t x none (some y) none,ty,pos,an,g⟩=some true:=by rfl) (hx:ev e x=some (.slice (aA q) len cap):=by rfl) (hy:ev e y=some (.int ki j):=by rfl) (hd:fits n dst=true:=by rfl)
  (hr:bA (aq el sz q len cap cs) (aq el sz q c cap (cs.take (c*sz))) l l':=by repeat(first|exact bA.here|apply bA.there)) (hj:j=c:=by omega) (hc:c≤len:=by omega)
  (h:SH og w l'→GX P ops Q S n (bc (i+1) m) (e.put dst (.slice (aA q) c cap)) w):GX P ops Q S n (bc i (m+1)) e w:=by
 subst hj;obtain⟨_,hs,_⟩:=hr.perm;have hO:aH w el sz q (aA q) len cap cs:=let⟨_,_,h,_⟩:=(hH.perm hs).head;h;have BN:len≤cap:=by
  obtain⟨_,⟨_,h,_,_⟩|⟨b,_,_,hl,h|⟨g,c,cur,hv,_,hg,hle,_⟩⟩⟩:=hO
  ·omega
  ·have:=h.2;omega
  ·simp only[Value.slice.injEq] at hv;omega
 have h':=h (hH.lG hr (fun h=>OJ h hc) (Mod.refl w) fun b hb => .inl hb);refine GX.aw ho (GO.xj (l:=0) (h:=((c:Int)).toNat) (m:=cap) rfl hw hx hd (by intro w;simp only[Option.map_none,jV,hy,oN];exact Qa ah ah w) ⟨by simp,by rintro _ ⟨⟩;rw[hy];rfl,by simp⟩ ?_);rw[xl,qB];exact h'
theorem GX.oW [Fr]{T:Nat→Prop}{w0:World}{p:b6}{t:TypeId}{x:Operand}{v:Value}{cs:List Value}(hH:SH og w l:=by assumption)
  (ho:ops[i]?=some ⟨dst, .box t x,ty,pos,an,g⟩:=by rfl) (hw:aI ops e ⟨dst, .box t x,ty,pos,an,g⟩=some true:=by rfl) (hx:ev e x=some v:=by rfl) (hd:fits n dst=true:=by rfl) (hv:Cl v cs:=by first|exact Cl.agg|exact Cl.one rfl) (hT:Mod T w0 w:=by first|assumption|exact Ext.mod (by assumption))
  (h:∀b w',Mod T w0 w'→SH og w' (aB b cs::l)→GX P ops Q (Mod T w0) n p (e.put dst (.pointer (some ⟨b,0,none⟩))) w'):GX P ops Q (Mod T w0) n (.aw i p) e w:=
 GX.aw ho (GO.box hv.eq hw hx hd fun b w' h1 h2 h3=>⟨fun _ hS=>hS.trans h3.mod,h b w' (hT.trans h3.mod) (hH.Jz h3 h1 h2)⟩)
theorem SH.tK {el:TypeId}{sz n' c:Nat}{q:Option Nat}{cs:List Value}(h:SH og w l)(hs:az (fz (aq el sz q n' c cs)) l r:=by repeat(first|exact az.here|apply az.there)):aA q=none→n'=0:=by
 obtain⟨_,_,⟨_,_,_,_,h,_⟩,_⟩:=(h.qq hs).head;intro hq;cases q with
 |some b=>cases hq
 |none=>
  obtain⟨_,⟨_,_,_,h0⟩|⟨b,h1,_⟩⟩:=h
  ·exact h0 rfl
  ·cases h1
theorem SH.VB {el:TypeId}{sz n' c:Nat}{q:Option Nat}{cs:List Value}(h:SH og w l)(hs:az (fz (aq el sz q n' c cs)) l r:=by repeat(first|exact az.here|apply az.there)):cs.length=n'*sz:=by
 obtain⟨_,_,⟨_,_,_,_,h,_⟩,_⟩:=(h.qq hs).head;exact h.length
inductive uf (e:Env) (pn:List (Nat×Nat)):List (Nat×Operand)→List Value→List Value→Prop
 |nil {z:List Value}:uf e pn [] z z
 |cons {f o sz:Nat}{x:Operand}{v:Value}{vs z z' out:List Value}{ps:List (Nat×Operand)}(h1:ev e x=some v) (h2:Cl v vs) (h3:pn[f]?=some (o,sz)) (h4:vs.length=sz) (h5:Sn vs z o z') (h6:Nat.ble (o+sz) z.length=true) (h7:uf e pn ps z' out):uf e pn ((f,x)::ps) z out
theorem uf.eq {e:Env}{pn:List (Nat×Nat)}{ps:List (Nat×Operand)}{z out:List Value}(h:uf e pn ps z out):∃vs,ps.mapM (fun x=>(ev e x.2).map fun v=>(x.1,v))=some vs∧tj (fun j=>pn[j]?) z (vs.map fun x=>(x.1,x.2.cells.toList))=some out:=by
 induction h with
 |nil=>exact⟨[],rfl,rfl⟩
 |cons h1 h2 h3 h4 h5 h6 _ ih=>
  obtain⟨vs,k1,k2⟩:=ih;refine⟨_::vs,by simp[List.mapM_cons,h1,k1];rfl,?_⟩;simp only[cJ,tj,h3,h2.eq];rw[h4,Nat.beq_refl,h6];rw[←h5.eq,h4] at k2;exact k2
theorem GO.Qd [Fr](hk:cC k=true){t:TypeId}{pn:List (Nat×Nat)}{z:List Value}(hb:eD P t pn z){ps:List (Nat×Operand)}{out:List Value}
  (hw:aI ops e ⟨dst, .build t ps.toArray,ty,pos,an,g⟩=some true) (hd:fits n dst=true) (hx:uf e pn ps z out)
  (h:GX P ops Q S n p (e.put dst (.agg out.toArray)) w):GO P ops Q S n k i ⟨dst, .build t ps.toArray,ty,pos,an,g⟩ p e w:=
 let⟨_,h1,h2⟩:=hx.eq
 GO.KY hk hw h1 rfl h2 hd h
theorem gh {p q:Prop}(k:q)(h:fS q→p:=by
 intro h
 repeat(first
  |(refine GX.next rfl ?_
    first
    |(refine xK ?_
      refine GO.skip (.inr rfl) rfl rfl ?_)
    |(refine GI ?_
      refine GO.move rfl rfl rfl rfl ?_)
    |(refine GF ?_
      refine GO.fieldAddr rfl rfl rfl rfl rfl ?_)
    |(refine Di ?_
      first
      |refine GO.NT rfl rfl rfl (by first|exact SH.kK (by assumption) bP|exact SH.um (by assumption) bP) (by rfl) ?_
      |refine GO.Jn rfl rfl rfl (by first|exact SH.kK (by assumption) bP|exact SH.um (by assumption) bP) (by rfl) (by rfl) ?_)
    |(refine GJ ?_
      first
      |refine GO.nilCheck rfl rfl rfl rfl ?_
      |refine GO.JA rfl rfl rfl rfl ?_)
    |(refine Gy ?_
      refine GO.assign rfl rfl rfl rfl ?_)
    |(refine eW ?_
      first
      |(refine eW (bo := .eql) ?_;first|refine GO.eql rfl rfl rfl rfl rfl ?_|refine Kj _ _ rfl rfl rfl rfl rfl ?_|refine GO.JR rfl rfl rfl rfl rfl ?_|refine GO.J' rfl rfl rfl rfl rfl ?_|refine GO.GU rfl rfl rfl rfl rfl ?_|refine GO.PW rfl rfl rfl rfl rfl (by rfl) (by rfl) ?_)
      |(refine eW (bo := .neq) ?_;first|refine GO.neq rfl rfl rfl rfl rfl ?_|refine Km _ _ rfl rfl rfl rfl rfl ?_|refine GO.JS rfl rfl rfl rfl rfl ?_|refine GO.Ka rfl rfl rfl rfl rfl ?_|refine GO.GV rfl rfl rfl rfl rfl ?_|refine GO.PX rfl rfl rfl rfl rfl (by rfl) (by rfl) ?_)
      |(refine eW (bo := .lss) ?_;first|refine GO.lss rfl rfl rfl rfl rfl ?_|refine Kl _ _ rfl rfl rfl rfl rfl ?_)
      |(refine eW (bo := .gtr) ?_;refine GO.gtr rfl rfl rfl rfl rfl ?_)
      |(refine eW (bo := .leq) ?_;refine GO.leq rfl rfl rfl rfl rfl ?_)
      |(refine eW (bo := .geq) ?_;refine GO.geq rfl rfl rfl rfl rfl ?_)
      |(refine eW (bo := .add) ?_;refine GO.add rfl rfl rfl rfl rfl (lf (by dsimp only[lj];omega)) ?_)
      |(refine eW (bo := .sub) ?_;refine GO.sub rfl rfl rfl rfl rfl (lf (by dsimp only[lj];omega)) ?_)
      |(refine eW (bo := .mul) ?_;refine GO.mul rfl rfl rfl rfl rfl (lf (by dsimp only[lj];omega)) ?_))
    |(refine Gz ?_
      first
      |refine GO.Jo rfl rfl rfl rfl ?_
      |refine Kk _ rfl rfl rfl rfl ?_
      |refine GO.max2 rfl rfl rfl rfl rfl rfl ?_
      |refine GO.min2 rfl rfl rfl rfl rfl rfl ?_)
    |(refine GD ?_
      refine GO.extract rfl rfl rfl rfl rfl ?_)
    |(refine GL ?_
      first
      |refine GO.not rfl rfl rfl rfl ?_
      |refine GO.neg rfl rfl rfl rfl (lf (by dsimp only[lj];omega)) ?_)
    |(refine GK ?_
      first
      |refine GO.JO rfl rfl rfl rfl rfl ?_
      |refine GO.JN rfl rfl rfl rfl rfl ?_)
    |(refine P7 ?_
      refine GO.indexAddr rfl rfl rfl rfl ah ah rfl ?_)
    |(refine GB ?_
      first
      |refine GO.conv rfl rfl rfl rfl (lf (by dsimp only[lj];omega)) ?_
      |refine GO.He rfl rfl rfl rfl ?_)
    |(refine GG ?_
      first
      |refine GO.Ht rfl rfl rfl rfl rfl ?_
      |refine GO.Hv rfl rfl rfl rfl rfl ?_)
    |(refine GA ?_
      refine GO.Qd rfl (by infer_instance) rfl rfl (by repeat(first|exact uf.nil|(apply uf.cons;rfl;(first|exact Cl.agg|exact Cl.one rfl);rfl;rfl;(repeat(first|exact Sn.nil|apply Sn.zero|apply Sn.succ));rfl))) ?_)
    |(refine GH ?_
      refine GO.makeFunc rfl rfl rfl rfl rfl ?_)
    |refine GO.entry rfl rfl rfl (by assumption) ?_)
  |refine GX.stop ?_
  |refine GC.seq ?_
  |refine GC.WZ rfl ?_
  |refine GQ.Br ?_
  |refine GC.ret ?_
  |refine GC.skip ?_
  |refine GC.block ?_
  |refine GC.exit ?_
  |refine GC.Bl rfl ?_
  |refine GC.QQ rfl ?_
  |refine GX.Q0 ?_
  |refine GX.done ?_
  |refine GQ.Ru ?_
  |refine GQ.Rv ?_
  |refine GQ.Ua ?_
  |refine GQ.T8 ?_
  |refine GQ.T9 rfl ?_
  |refine GQ.Uc ?_
  |refine GQ.VK ?_
  |refine GQ.VL ?_
  |refine GQ.QX ?_
  |refine GQ.QY ?_
  |refine GC.scope ?_
  |refine GC.label ?_
  |refine GQ.ahg ?_
  |refine GQ.ahh ?_
  |refine GQ.ahf ?_
  |(refine GX.pure rfl ?_
    first
    |(refine xK ?_
      refine GO.skip (.inl rfl) rfl rfl ?_)
    |(refine GI ?_
      refine GO.move rfl rfl rfl rfl ?_)
    |(refine GF ?_
      refine GO.fieldAddr rfl rfl rfl rfl rfl ?_)
    |(refine GJ ?_
      first
      |refine GO.nilCheck rfl rfl rfl rfl ?_
      |refine GO.JA rfl rfl rfl rfl ?_)
    |(refine Gy ?_
      refine GO.assign rfl rfl rfl rfl ?_)
    |(refine eW ?_
      first
      |(refine eW (bo := .eql) ?_;first|refine GO.eql rfl rfl rfl rfl rfl ?_|refine Kj _ _ rfl rfl rfl rfl rfl ?_|refine GO.JR rfl rfl rfl rfl rfl ?_|refine GO.J' rfl rfl rfl rfl rfl ?_|refine GO.GU rfl rfl rfl rfl rfl ?_|refine GO.PW rfl rfl rfl rfl rfl (by rfl) (by rfl) ?_)
      |(refine eW (bo := .neq) ?_;first|refine GO.neq rfl rfl rfl rfl rfl ?_|refine Km _ _ rfl rfl rfl rfl rfl ?_|refine GO.JS rfl rfl rfl rfl rfl ?_|refine GO.Ka rfl rfl rfl rfl rfl ?_|refine GO.GV rfl rfl rfl rfl rfl ?_|refine GO.PX rfl rfl rfl rfl rfl (by rfl) (by rfl) ?_)
      |(refine eW (bo := .lss) ?_;first|refine GO.lss rfl rfl rfl rfl rfl ?_|refine Kl _ _ rfl rfl rfl rfl rfl ?_)
      |(refine eW (bo := .gtr) ?_;refine GO.gtr rfl rfl rfl rfl rfl ?_)
      |(refine eW (bo := .leq) ?_;refine GO.leq rfl rfl rfl rfl rfl ?_)
      |(refine eW (bo := .geq) ?_;refine GO.geq rfl rfl rfl rfl rfl ?_)
      |(refine eW (bo := .add) ?_;refine GO.add rfl rfl rfl rfl rfl (lf (by dsimp only[lj];omega)) ?_)
      |(refine eW (bo := .sub) ?_;refine GO.sub rfl rfl rfl rfl rfl (lf (by dsimp only[lj];omega)) ?_)
      |(refine eW (bo := .mul) ?_;refine GO.mul rfl rfl rfl rfl rfl (lf (by dsimp only[lj];omega)) ?_))
    |(refine Gz ?_
      first
      |refine GO.Jo rfl rfl rfl rfl ?_
      |refine Kk _ rfl rfl rfl rfl ?_
      |refine GO.max2 rfl rfl rfl rfl rfl rfl ?_
      |refine GO.min2 rfl rfl rfl rfl rfl rfl ?_)
    |(refine GD ?_
      refine GO.extract rfl rfl rfl rfl rfl ?_)
    |(refine GL ?_
      first
      |refine GO.not rfl rfl rfl rfl ?_
      |refine GO.neg rfl rfl rfl rfl (lf (by dsimp only[lj];omega)) ?_)
    |(refine GK ?_
      first
      |refine GO.JO rfl rfl rfl rfl rfl ?_
      |refine GO.JN rfl rfl rfl rfl rfl ?_)
    |(refine P7 ?_
      refine GO.indexAddr rfl rfl rfl rfl ah ah rfl ?_)
    |(refine GB ?_
      first
      |refine GO.conv rfl rfl rfl rfl (lf (by dsimp only[lj];omega)) ?_
      |refine GO.He rfl rfl rfl rfl ?_)
    |(refine GG ?_
      first
      |refine GO.Ht rfl rfl rfl rfl rfl ?_
      |refine GO.Hv rfl rfl rfl rfl rfl ?_)
    |(refine GA ?_
      refine GO.Qd rfl (by infer_instance) rfl rfl (by repeat(first|exact uf.nil|(apply uf.cons;rfl;(first|exact Cl.agg|exact Cl.one rfl);rfl;rfl;(repeat(first|exact Sn.nil|apply Sn.zero|apply Sn.succ));rfl))) ?_)
    |(refine GH ?_
      refine GO.makeFunc rfl rfl rfl rfl rfl ?_))
  |(refine GX.read rfl ?_
    first
    |(refine xK ?_
      refine GO.XH (by first|assumption|exact Ext.mod (by assumption)) rfl rfl ?_)
    |(refine Di ?_
      first
      |refine GO.su rfl rfl rfl (by first|exact SH.kK (by assumption) bP|exact SH.um (by assumption) bP) (by first|exact id|assumption|exact Cv|exact tL|exact FC) (by first|assumption|exact Ext.mod (by assumption)) (by rfl) ?_
      |refine GO.VA rfl rfl rfl (by first|exact SH.kK (by assumption) bP|exact SH.um (by assumption) bP) (by first|exact id|assumption|exact Cv|exact tL|exact FC) (by first|assumption|exact Ext.mod (by assumption)) (by rfl) (by rfl) ?_))
  |(refine GX.aw rfl ?_;refine xK ?_;refine GO.skip (.inr rfl) rfl rfl ?_)
  |refine GQ.r1 rfl rfl ?_
  |refine GQ.r0 rfl ?_
  |refine GQ.WO rfl ?_
  |refine GQ.r2 rfl rfl rfl ?_
  |refine GQ.r3 rfl rfl rfl rfl ?_
  |(refine GX.aw rfl ?_;refine Di ?_;first|refine GO.NT rfl rfl rfl (by first|exact SH.kK (by assumption) bP|exact SH.um (by assumption) bP) (by rfl) ?_|refine GO.Jn rfl rfl rfl (by first|exact SH.kK (by assumption) bP|exact SH.um (by assumption) bP) (by rfl) (by rfl) ?_)
  |refine GQ.aiK (.inl rfl) rfl rfl (cE.at (by first|exact SH.kK (by assumption) bP|exact SH.um (by assumption) bP)) (by rfl) ?_
  |refine GQ.aiL (.inl rfl) rfl rfl rfl (cE.at (by first|exact SH.kK (by assumption) bP|exact SH.um (by assumption) bP)) (by rfl) ?_
  |refine GQ.aiM (.inl rfl) rfl rfl rfl rfl (cE.at (by first|exact SH.kK (by assumption) bP|exact SH.um (by assumption) bP)) (by rfl) ?_)
 exact fS.out h):p:=h ⟨k⟩
theorem ifs {p c1 c2 p1 p2:Prop}(k1:c1→p1)(k2:c2→p2)(h:fS (c1→p1)→fS (c2→p2)→p:=by
 intro h1 h2
 first
  |exact GC.QP rfl (fS.out h1) (fS.out h2)
  |exact GC.QR rfl (fS.out h1) (fS.out h2)
  |exact GX.Qn rfl rfl rfl rfl rfl (fS.out h1) (fS.out h2)
  |exact GX.Qp rfl rfl rfl rfl rfl (fS.out h1) (fS.out h2)
  |exact GX.Qo rfl rfl rfl rfl rfl (fS.out h1) (fS.out h2)
  |exact GX.Qq rfl rfl rfl rfl rfl (fS.out h1) (fS.out h2)):p:=h ⟨k1⟩ ⟨k2⟩
end
end
end Go.Proofs.YtoloaehmppcjoaaGreat.V.M
