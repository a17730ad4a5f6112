/-
  Parts of the proof. No condition.
-/
import Derived.Test.YtmlpbmgfmnmmmaaGreatW2aj
import Derived.Test.YtmlpbmgfmnmmmaaGreatW2ak
set_option linter.unusedVariables false
set_option linter.unusedSimpArgs false
set_option maxRecDepth 8000
set_option maxHeartbeats 8000000
open Go.Proofs.Tryz
namespace Go.Proofs.YtmlpbmgfmnmmmaaGreat.V.M
section
attribute [local irreducible] GO GX
section
variable {P:Program}{ops:Array Oper}{Q:Exit→Act→World→Prop}{S:World→Prop}{n:Nat}
variable {i m:Nat}{p:bZ}{e:Env}{w:World}{k:Kd}{dst:Option Tmp}{ty:TypeId}{pos:String}{an:Array Edge}{g:Option (Nat×Bool)}
variable {og:Og}{l r l':List It}{b:Nat}
variable {κ ν:Type}{kv:κ→Value}{vv:ν→Value}{M:List (κ×ν)}
theorem ajf (d:Nat){t kt el:TypeId}(hu:P.underlying t=some (.map kt el))(a:Option Nat)(w:World):(Op.equalIn (d+1) t (.map a) (.map none)).run P w = .ok a.isNone w:=by
 cases a<;>simp[Op.equalIn,run_underlying hu]
theorem aje {t kt el:TypeId}(hu:P.underlying t=some (.map kt el))(a:Option Nat)(w:World):(binOp .eql t (.map a) (.map none)).run P w = .ok (.bool a.isNone) w:=by
 have h:=ajf (P:=P) 9999 hu a w;simp only[binOp,Op.equal,Op.maxDepth,Sem.run_bind,h,Result.andThen_ok];rfl
theorem GO.NY [Fr](hk:cB k=true){t t2 kt el:TypeId}[hu:bH P t (.map kt el)]{x y:Operand}{a:Option Nat}(hw:aH ops e ⟨dst, .binOp .eql t x y t2,ty,pos,an,g⟩=some true)(hx:ev e x=some (.map a))(hy:ev e y=some (.map none))(hd:fits n dst=true)
  (h:GX P ops Q S n p (e.put dst (.bool a.isNone)) w):GO P ops Q S n k i ⟨dst, .binOp .eql t x y t2,ty,pos,an,g⟩ p e w:=
 GO.bin hk hw hx hy hd (fun w=>rfl) (fun w=>aje hu.out a w) h
inductive Ms (b:Nat) (kv:κ→Value) (vv:ν→Value) (M:List (κ×ν)):List It→Prop
 |own {l:List It}:Ms b kv vv M (aQ b kv vv M::l)
 |fz {l:List It}:Ms b kv vv M (fz (aQ b kv vv M)::l)
 |there {y:It}{l:List It}:Ms b kv vv M l→Ms b kv vv M (y::l)
theorem SH.ms (h:SH og w l)(he:Ms b kv vv M l):dU w b kv vv M:=by
 obtain⟨Z,F,hu,h1,hr⟩:=h;clear hu hr
 induction he generalizing F with
 |own=>obtain⟨F1,F2,_,_,⟨h,_⟩,_⟩:=h1;exact h
 |fz=>obtain⟨F1,F2,_,_,⟨⟨_,_,_,_,h,_⟩,_⟩,_⟩:=h1;exact h
 |there _ ih=>obtain⟨F1,F2,_,_,_,h2⟩:=h1;exact ih F2 h2
theorem AE {w w':World}{el:TypeId}{sz b n c i:Nat}{a:Option Addr}{cs vs:List Value}(h:aG w el sz (some b) a n c cs)(hp:l9 w w' b i vs)(hi:i+vs.length≤cs.length):aG w' el sz (some b) a n c (cs.take i++vs++cs.drop (i+vs.length)):=by
 obtain⟨h0,⟨h,_⟩|⟨b',hb,rfl,hl,⟨h,_⟩|⟨g,k,cur,h,hk,hg,h1,h2,h3,h4⟩⟩⟩:=h
 ·cases h
 ·cases h
 ·cases hb;cases h;have hlen:(cs.take i++vs++cs.drop (i+vs.length)).length=n*sz:=by
   simp only[bJ,dE,lZ];omega
  obtain⟨R,Sw⟩:∃R,cur.toList=cs++R:=⟨cur.toList.drop (n*sz),by rw[←h4,jE]⟩
  have e:cur.toList.take i++vs++cur.toList.drop (i+vs.length)=(cs.take i++vs++cs.drop (i+vs.length))++R:=by
   rw[Sw,vj ah,List.drop_append_of_le_length hi];simp
  refine⟨hlen, .inr ⟨b,rfl,rfl,hlen, .inr ⟨b,c,_,rfl,hk,hp.here _ _ _ hg,h1,h2,?_,?_⟩⟩⟩
  ·have h5:=congrArg List.length e;have h6:=congrArg List.length Sw;simp only[bJ,Array.length_toList] at h5 h6;simp only[xh,bJ];simp only[bJ] at hlen;omega
  ·show(cur.toList.take i++vs++cur.toList.drop (i+vs.length)).take (n*sz)=_;rw[e,←hlen,vk]
theorem FB {w:World}{el:TypeId}{sz b n c j m:Nat}{a:Option Addr}{cs:List Value}(h:aG w el sz (some b) a n c cs)(hj:j+m≤cs.length):Wr w b j m:=by
 obtain⟨cur,hg,h1,h2,h3,h4⟩:=qV h;refine⟨cur,el,(0,0),hg,?_,fun k _=>by simp⟩;rw[←h4,dE] at hj;simp at hj;omega
theorem GX.vf [Fr]{t:TypeId}{agg:Bool}{Gb:Nat}{x y:Operand}{el:TypeId}{sz len cap o:Nat}{v:Value}{cs vs cs':List Value}(hH:SH og w l:=by assumption)
  (ho:ops[i]?=some ⟨none, .store t x y,ty,pos,an,g⟩:=by rfl) (hf:aC P t agg Gb:=by infer_instance) (hw:aH ops e ⟨none, .store t x y,ty,pos,an,g⟩=some true:=by rfl) (hx:ev e x=some (.pointer (some ⟨b,o,none⟩)):=by rfl) (hy:ev e y=some v:=by rfl)
  (hv:Cl v vs:=by first|exact Cl.agg|exact Cl.one rfl) (hl:vs.length=Gb:=by rfl) (h1:(vs.all fun u=>u.oneCell')=true:=by rfl) (hr:bA (ao el sz (some b) len cap cs) (ao el sz (some b) len cap cs') l l':=by repeat(first|exact bA.here|apply bA.there)) (hb:o+vs.length≤cs.length) (hc:cs.take o++vs++cs.drop (o+vs.length)=cs')
  (h:∀w',SH og w' l'→GX P ops Q (fun _=>True) n (aY (i+1) m) e w'):GX P ops Q (fun _=>True) n (aY i (m+1)) e w:=by
 obtain⟨_,hs,_⟩:=hr.perm;have hO:aG w el sz (some b) (ay (some b)) len cap cs:=let⟨_,_,h,_⟩:=(hH.perm hs).head;h;refine GX.ax ho (GO.store (vs:=vs) (FB hO ah) hv.eq hl (fun u hu=>rj.1 h1 u hu) hw hx hy fun w' hp=>⟨fun _ _=>trivial,h w' (hH.ly hr (fun _=>?_) (hp.mod.weaken fun k _ hk=>by rw[hk]) fun b hb => .inl hb)⟩);rw[←hc];exact AE hO hp hb
theorem GX.gH [Fr]{T:Nat→Prop}{w0:World}{t:TypeId}{agg:Bool}{Gb:Nat}{x y:Operand}{el:TypeId}{sz len cap o:Nat}{v:Value}{cs vs cs':List Value}(hH:SH og w l:=by assumption)(hT:T b∨gG ops i=true:=by exact .inr ai)
  (ho:ops[i]?=some ⟨none, .store t x y,ty,pos,an,g⟩:=by rfl) (hf:aC P t agg Gb:=by infer_instance) (hw:aH ops e ⟨none, .store t x y,ty,pos,an,g⟩=some true:=by rfl) (hx:ev e x=some (.pointer (some ⟨b,o,none⟩)):=by rfl) (hy:ev e y=some v:=by rfl)
  (hv:Cl v vs:=by first|exact Cl.agg|exact Cl.one rfl) (hl:vs.length=Gb:=by rfl) (h1:(vs.all fun u=>u.oneCell')=true:=by rfl) (hr:bA (ao el sz (some b) len cap cs) (ao el sz (some b) len cap cs') l l':=by repeat(first|exact bA.here|apply bA.there)) (hb:o+vs.length≤cs.length) (hc:cs.take o++vs++cs.drop (o+vs.length)=cs')
  (h:∀w',SH og w' l'→GX P ops Q (Mod T w0) n p e w'):GX P ops Q (Mod T w0) n (.ax i p) e w:=by
 obtain⟨_,hs,_⟩:=hr.perm;have hO:aG w el sz (some b) (ay (some b)) len cap cs:=let⟨_,_,h,_⟩:=(hH.perm hs).head;h;refine GX.ax ho (GO.store (vs:=vs) (FB hO ah) hv.eq hl (fun u hu=>rj.1 h1 u hu) hw hx hy fun w' hp=>⟨(fun kY hS=>by
  rcases hT with hT|hT
  ·exact hS.trans (hp.mod.weaken fun k _ hk=>by subst hk;exact hT)
  ·rw[hT] at kY;cases kY),h w' (hH.ly hr (fun _=>?_) (hp.mod.weaken fun k _ hk=>by rw[hk]) fun b hb => .inl hb)⟩)
 rw[←hc];exact AE hO hp hb
theorem GX.pA [Fr]{T:Nat→Prop}{w0:World}{p:bZ}{x:Operand}{args:Array Operand}{ts:Array TypeId}{f:FuncId}{fs cs:Array Value}{vs:List Value}{V:Value}{al:List Value}(hc:aj P f al.toArray w fun v w'=>v=V∧w'=w)
  (ho:ops[i]?=some ⟨dst, .call ⟨.value x,args,ts⟩,ty,pos,an,g⟩:=by rfl) (hw:aH ops e ⟨dst, .call ⟨.value x,args,ts⟩,ty,pos,an,g⟩=some true:=by rfl) (hx:ev e x=some (.func (.func f) fs cs):=by rfl) (hy:ku e args.toList=some vs:=by rfl) (hd:fits n dst=true:=by rfl)
  (b6:fs.toList++vs++cs.toList=al:=by rfl) [hf:aw P f]
  (h:GX P ops Q (Mod T w0) n p (e.put dst V) w):GX P ops Q (Mod T w0) n (.ax i p) e w:=
 GX.ax ho (GO.ru hw hx hy hd b6 hc fun v w' ⟨h1,h2⟩=>by subst h1;rw[h2];exact⟨fun _ h=>h,h⟩)
theorem alw (k:Bs):((⟨k.toArray⟩:ByteArray)=⟨#[]⟩)↔k=[]:=by
 constructor
 ·intro h;have:=congrArg (fun b:ByteArray=>b.data.toList) h;simpa using this
 ·rintro rfl;rfl
variable [DecidableEq κ]
theorem GX.lP [Fr]{t kt el:TypeId}{x y:Operand}{ok:Bool}{a:κ}{Z V:Value}(hH:SH og w l:=by assumption)
  (ho:ops[i]?=some ⟨dst, .lookup t x y ok,ty,pos,an,g⟩:=by rfl) (hu:bH P t (.map kt el):=by infer_instance) (hw:aH ops e ⟨dst, .lookup t x y ok,ty,pos,an,g⟩=some true:=by rfl) (hx:ev e x=some (.map (some b)):=by rfl) (he:Ms b kv vv M l:=by repeat(first|exact Ms.own|exact Ms.fz|apply Ms.there)) (hy:ev e y=some (kv a):=by rfl) (hd:fits n dst=true:=by rfl)
  (hk:j6 P kv kt:=by infer_instance) (hz:me P el Z:=by infer_instance) (hV:jc vv Z ok (az M a)=V)
  (h:GX P ops Q S n (aY (i+1) m) (e.put dst V) w):GX P ops Q S n (aY i (m+1)) e w:=by
 subst hV;exact GX.lookup (hH.ms he) hk hz.out ho hw hx hy hd h
theorem GX.agm [Fr]{t kt el:TypeId}{x:Operand}(hH:SH og w l:=by assumption)
  (ho:ops[i]?=some ⟨dst, .call ⟨.builtin .len,#[x],#[t]⟩,ty,pos,an,g⟩:=by rfl) (hu:bH P t (.map kt el):=by infer_instance) (hw:aH ops e ⟨dst, .call ⟨.builtin .len,#[x],#[t]⟩,ty,pos,an,g⟩=some true:=by rfl) (hx:ev e x=some (.map (some b)):=by rfl) (he:Ms b kv vv M l:=by repeat(first|exact Ms.own|exact Ms.fz|apply Ms.there)) (hd:fits n dst=true:=by rfl)
  (h:GX P ops Q S n (aY (i+1) m) (e.put dst (.int .i64 M.length)) w):GX P ops Q S n (aY i (m+1)) e w:=
 GX.NN (hH.ms he) ho hw hx hd h
theorem GX.Av [Fr]{T:Nat→Prop}{w0:World}{t kt el:TypeId}{x y z:Operand}{a:κ}{v:ν}(hH:SH og w l:=by assumption)(hT:T b∨gG ops i=true:=by exact .inr ai)
  (ho:ops[i]?=some ⟨none, .mapUpdate t x y z,ty,pos,an,g⟩:=by rfl) (hu:bH P t (.map kt el):=by infer_instance) (hw:aH ops e ⟨none, .mapUpdate t x y z,ty,pos,an,g⟩=some true:=by rfl) (hx:ev e x=some (.map (some b)):=by rfl) (hr:bA (aQ b kv vv M) (aQ b kv vv (bE M a v)) l l':=by repeat(first|exact bA.here|apply bA.there)) (hk:j6 P kv kt:=by infer_instance) (hy:ev e y=some (kv a):=by rfl) (hv:ev e z=some (vv v):=by rfl)
  (h:∀w',SH og w' l'→GX P ops Q (Mod T w0) n p e w'):GX P ops Q (Mod T w0) n (.ax i p) e w:=by
 obtain⟨_,hs,_⟩:=hr.perm;have hM:dU w b kv vv M:=let⟨_,_,h,_⟩:=(hH.perm hs).head;h;obtain⟨w1,h1,h2,h3⟩:=OY hM hu.out hk a v;refine GX.ax ho (GO.run (R:=fun _ w'=>w'=w1) hw rfl (fun ac ha=>⟨.skip,undef,_,by simp[execOp,bC ha hx,bC ha hy,bC ha hv,h1], .inr ⟨rfl,rfl⟩,rfl⟩) ?_);rintro _ _ rfl;refine⟨fun kY hS=>?_,h _ (hH.uY hr h2 h3)⟩
 rcases hT with hT|hT
 ·exact hS.trans (h3.weaken fun k _ hk=>by subst hk;exact hT)
 ·rw[hT] at kY;cases kY
theorem GX.Fp [Fr]{t kt el:TypeId}{x y z:Operand}{a:κ}{v:ν}(hH:SH og w l:=by assumption)
  (ho:ops[i]?=some ⟨none, .insert t x y z,ty,pos,an,g⟩:=by rfl) (hu:bH P t (.map kt el):=by infer_instance) (hw:aH ops e ⟨none, .insert t x y z,ty,pos,an,g⟩=some true:=by rfl) (hx:ev e x=some (.map (some b)):=by rfl) (hr:bA (aQ b kv vv M) (aQ b kv vv (bE M a v)) l l':=by repeat(first|exact bA.here|apply bA.there)) (hk:j6 P kv kt:=by infer_instance) (hy:ev e y=some (kv a):=by rfl) (hv:ev e z=some (vv v):=by rfl)
  (h:∀w',SH og w' l'→GX P ops Q (fun _=>True) n (aY (i+1) m) e w'):GX P ops Q (fun _=>True) n (aY i (m+1)) e w:=by
 obtain⟨_,hs,_⟩:=hr.perm;have hM:dU w b kv vv M:=let⟨_,_,h,_⟩:=(hH.perm hs).head;h;exact GX.mapInsert hM hk ho hw hx hy hv fun w' ud hm=>h w' (hH.uY hr ud hm)
end
end
section
attribute [local irreducible] GO GX aA fz aF aQ ao star
variable {o:Og}{w:World}
abbrev eu:=List (Int×(Int×Int))
def yA (x:Int×Int):Value := .agg #[iV x.1,iV x.2]
def oT (r:Nat)(M:eu):It:=star fun b:Nat=>[aA r [.map (some b)],aQ b iV yA M]
instance {r:Nat}{M:eu}:Zf (oT r M):=Zf.star fun _=>inferInstance
def eA (M:eu)(k:Int):Int×Int:=(az M k).getD (0,0)
def mu (M:eu)(a b:Int):eu:=let M1:=bE M a ((eA M a).1,b);bE M1 b (a,(eA M1 b).2)
theorem Fm (M:eu)(k:Int):jc yA (.agg #[iV 0,iV 0]) false (az M k)=yA (eA M k):=by
 unfold jc eA;cases az M k<;>rfl
theorem Fk {l t:List It}{r b:Nat}{M:eu}(h:SH o w l)(hp:Pk l [aA r [.map (some b)],aQ b iV yA M] t:=by repeat(first|exact Pk.nil|(apply Pk.cons;repeat(first|exact aB.here|apply aB.there)))):SH o w (oT r M::t):=SH.fold b h hp
theorem FL {r:Nat}{M:eu}(hs:Start o w [fz (oT r M)]):aj prog 198 [ak r].toArray w (Po o (.bool false) []):=by
 have hH:=hs.sh;obtain⟨b,hH⟩:=SH.dQ hH;replace hH:=SH.dW hH;refine aj.enter func198 rfl ntmps198 rfl (gh ?_);refine GX.next rfl (GO.NY rfl rfl rfl rfl rfl (gh ?_));exact⟨rfl,hH.to⟩
theorem OS {r:Nat}{M:eu}(x y:Int)(hs:Start o w [oT r M]):aj prog 255 [ak r,iV x,iV y].toArray w (Po o (.tuple #[]) [oT r (mu M x y)]):=by
 have hH:=hs.sh;obtain⟨b,hH⟩:=SH.un hH;replace hH:=SH.ap hH;refine aj.enter func255 rfl ntmps255 rfl (gh ?_);refine GX.lP (hV:=Fm M x) (h:=gh ?_);refine GX.cm (h:=fun c w hH=>gh ?_);refine GX.bc (h:=fun w hH=>gh ?_);refine GX.dw (h:=fun w hH=>gh ?_);refine GC.bq (pl:=(aZ [0,3,6,12,10,16,20])) (T:=fun _=>False) (hm:=mixed) (h:=fun w hE hH=>gh ?_);refine GX.Av (v:=((eA M x).1,y)) (h:=fun w hH=>gh ?_);refine GX.lP (hV:=Fm _ y) (h:=gh ?_);refine GX.cm (h:=fun d w hH=>gh ?_);refine GX.bc (h:=fun w hH=>gh ?_);refine GX.dw (h:=fun w hH=>gh ?_);refine GC.bq (pl:=(aZ [0,3,6,12,10,16,20])) (T:=fun _=>False) (hm:=mixed) (h:=fun w hE hH=>gh ?_);refine GX.Av (v:=(x,(eA (bE M x ((eA M x).1,y)) y).2)) (h:=fun w hH=>gh ?_);exact⟨rfl,(Fk (M:=mu M x y) hH).to⟩
theorem W2 {r:Nat}{M:eu}(x:Int)(hs:Start o w [fz (oT r M)]):aj prog 308 [ak r,iV x].toArray w (Po o (.bool (decide (x≠-1∧(az M x).isSome=true))) []):=by
 have hH:=hs.sh;refine aj.enter func308 rfl ntmps308 rfl (gh ?_);refine GX.aL (hc:=fun _ hs=>FL hs) (h:=fun w hE hH=>gh ?_);refine ifs (fun h1=>?_) (fun h1=>?_)<;>refine gh ?_
 ·exact⟨xc fun h=>h.1 h1,hH.to⟩
 obtain⟨b,hH⟩:=SH.dQ hH;replace hH:=SH.dW hH;refine gh ?_;refine GX.lP (hV:=show _ = .tuple #[yA (eA M x), .bool (az M x).isSome] by unfold jc eA;cases az M x<;>rfl) (h:=gh ?_);refine GX.cm (h:=fun c w hH=>gh ?_);refine GX.bc (h:=fun w hH=>gh ?_);refine⟨?_,hH.to⟩;cases h:(az M x).isSome<;>simp[h1]
theorem aiT {r:Nat}{M:eu}(hl:M.length<2^40)(hs:Start o w [fz (oT r M)]):aj prog 290 [ak r].toArray w (Po o (iV ((M.length:Int) - 1)) []):=by
 have hH:=hs.sh;refine aj.enter func290 rfl ntmps290 rfl (gh ?_);refine GX.aL (hc:=fun _ hs=>FL hs) (h:=fun w hE hH=>gh ?_);obtain⟨b,hH⟩:=SH.dQ hH;replace hH:=SH.dW hH;refine gh ?_;refine GX.agm (h:=gh ?_);exact⟨rfl,hH.to⟩
def tv (M:eu)(x:Int)(t:Bool):Int:=if x<0∨1048576≤x then 2 else if t=true∧(az M x).isSome=false then 9 else if t=false∧(az M x).isSome=true then 11 else 0
theorem WS {r:Nat}{M:eu}(x:Int)(t:Bool)(hs:Start o w [fz (oT r M)]):aj prog 254 [ak r,iV x, .bool t].toArray w (Po o (iV (tv M x t)) []):=by
 have hH:=hs.sh;refine aj.enter func254 rfl ntmps254 rfl (gh ?_);refine GX.aL (hc:=fun _ hs=>FL hs) (h:=fun w hE hH=>gh ?_);refine ifs (fun h1=>?_) (fun h1=>?_)<;>refine gh ?_
 ·exact⟨by rw[tv,if_pos (.inl h1)],hH.to⟩
 refine ifs (fun h2=>?_) (fun h2=>?_)<;>refine gh ?_
 ·exact⟨by rw[tv,if_pos (.inr h2)],hH.to⟩
 have h3:¬(x<0∨1048576≤x):=by omega
 have h4:decide (x≠-1∧(az M x).isSome=true)=(az M x).isSome:=by
  cases h:(az M x).isSome
  ·simp
  ·simp;omega
 cases t with
 |true=>
  refine gh ?_;refine GX.aL (hc:=fun _ hs=>h4▸W2 x hs) (h:=fun w hE hH=>gh ?_);cases h:(az M x).isSome
  ·refine gh ?_;exact⟨by rw[tv,if_neg h3,if_pos ⟨rfl,h⟩],hH.to⟩
  ·refine gh ?_;exact⟨by rw[tv,if_neg h3,if_neg (by simp[h]),if_neg (by simp)],hH.to⟩
 |false=>
  refine gh ?_;refine GX.aL (hc:=fun _ hs=>h4▸W2 x hs) (h:=fun w hE hH=>gh ?_);cases h:(az M x).isSome
  ·refine gh ?_;exact⟨by rw[tv,if_neg h3,if_neg (by simp),if_neg (by simp[h])],hH.to⟩
  ·refine gh ?_;exact⟨by rw[tv,if_neg h3,if_neg (by simp),if_pos ⟨rfl,h⟩],hH.to⟩
theorem ais {r:Nat}{M:eu}(x:Nat)(hx:x<1048576)(hn:az M x=none)(hs:Start o w [oT r M]):aj prog 227 [ak r,iV x].toArray w (Po o (iV 0) [oT r (mu (mu (bE M x (0,0)) (eA M (-1)).1 x) x (-1))]):=by
 have hH:=hs.sh;refine aj.enter func227 rfl ntmps227 rfl (gh ?_);refine GX.aL (hc:=fun _ hs=>WS x false hs) (h:=fun w hE hH=>gh ?_);have e:tv M x false=0:=by rw[tv,if_neg ah,if_neg (by simp),if_neg (by simp[hn])]
 rw[e];refine ifs (fun h1=>?_) (fun h1=>?_)<;>refine gh ?_
 ·obtain⟨b,hH⟩:=SH.un hH;replace hH:=SH.ap hH;refine gh ?_;refine GX.lP (hV:=Fm M (-1)) (h:=gh ?_);refine GX.Fq (v:=((0,0):Int×Int)) (h:=fun w hH=>gh ?_);replace hH:=Fk (r:=r) (b:=b) hH;refine GX.bz (hc:=fun _ hs=>OS _ _ hs) (h:=fun w hH=>gh ?_);refine GX.bz (hc:=fun _ hs=>OS _ _ hs) (h:=fun w hH=>gh ?_);exact⟨rfl,hH.to⟩
 ·exact absurd rfl h1
theorem aiZ {r:Nat}{M:eu}(x:Nat)(hx:x<1048576)(hn:(az M x).isSome=true)(hs:Start o w [oT r M]):aj prog 175 [ak r,iV x].toArray w (Po o (iV 0) [oT r (mu (bD M x) (eA M x).1 (eA M x).2)]):=by
 have hH:=hs.sh;refine aj.enter func175 rfl ntmps175 rfl (gh ?_);refine GX.aL (hc:=fun _ hs=>WS x true hs) (h:=fun w hE hH=>gh ?_);have e:tv M x true=0:=by rw[tv,if_neg ah,if_neg (by simp[hn]),if_neg (by simp)]
 rw[e];refine ifs (fun h1=>?_) (fun h1=>?_)<;>refine gh ?_
 ·obtain⟨b,hH⟩:=SH.un hH;replace hH:=SH.ap hH;refine gh ?_;refine GX.lP (hV:=Fm M x) (h:=gh ?_);refine GX.cm (h:=fun c w hH=>gh ?_);refine GX.bc (h:=fun w hH=>gh ?_);refine GX.Jj (h:=fun w hH=>gh ?_);replace hH:=Fk (r:=r) (b:=b) hH;refine GX.bz (hc:=fun _ hs=>OS _ _ hs) (h:=fun w hH=>gh ?_);exact⟨rfl,hH.to⟩
 ·exact absurd rfl h1
end
section
def eU (f:Int→Int×Int):List Int→Prop
 |x::y::r=>(f x).2=y∧(f y).1=x∧eU f (y::r)
 |_=>True
theorem eU.congr {f g:Int→Int×Int}:∀{l:List Int},eU f l→(∀x∈l.dropLast,(g x).2=(f x).2)→(∀y∈l.tail,(g y).1=(f y).1)→eU g l
 | [],_,_,_=>trivial
 | [_],_,_,_=>trivial
 |x::y::r,⟨h1,h2,h3⟩,hn,hp=>by
  refine⟨(hn x (by simp)).trans h1,(hp y (by simp)).trans h2,h3.congr (fun z hz=>hn z ?_) fun z hz=>hp z ?_⟩
  ·rw[List.dropLast_cons_of_ne_nil (by simp)];exact fR _ hz
  ·exact fR _ hz
theorem eU.left {f:Int→Int×Int}:∀{l r:List Int},eU f (l++r)→eU f l
 | [],_,_=>trivial
 | [_],_,_=>trivial
 |x::y::l,r,⟨h1,h2,h3⟩=>⟨h1,h2,eU.left (l:=y::l) h3⟩
theorem eU.right {f:Int→Int×Int}:∀{l r:List Int},eU f (l++r)→eU f r
 | [],_,h=>h
 | [_],[],_=>trivial
 | [_],_::_,⟨_,_,h⟩=>h
 |_::y::l,_,⟨_,_,h⟩=>eU.right (l:=y::l) h
theorem eU.Jl {f:Int→Int×Int}{p q:Int}:∀{l r:List Int},eU f (l++p::q::r)→(f p).2=q∧(f q).1=p:=fun {l r} h=>by
 have:=eU.right (l:=l) h;exact⟨this.1,this.2.1⟩
theorem eU.join {f:Int→Int×Int}{p q:Int}{r:List Int}(h1:(f p).2=q)(h2:(f q).1=p)(h3:eU f (q::r)):∀{l:List Int},eU f (l++[p])→eU f (l++p::q::r)
 | [],_=>⟨h1,h2,h3⟩
 | [_],⟨k1,k2,_⟩=>⟨k1,k2,h1,h2,h3⟩
 |_::y::l,⟨k1,k2,k3⟩=>⟨k1,k2,eU.join h1 h2 h3 (l:=y::l) k3⟩
def CQ (L:List Nat):List Int:=-1::(L.map (fun n:Nat=>(n:Int))++[-1])
structure Ring (M:eu)(L:List Nat):Prop where
 key:∀k:Int,(az M k).isSome=true↔k = -1∨∃n∈L,k=(n:Nat)
 nd:L.Nodup
 ch:eU (eA M) (CQ L)
 len:M.length=L.length+1
 Ax:(M.map (·.1)).Nodup
theorem Jf (M:eu)(k:Int)(v:Int×Int)(j:Int):eA (bE M k v) j=if j=k then v else eA M j:=by
 unfold eA;rw[kI];split<;>rfl
theorem Uh (M:eu)(a b k:Int):(eA (mu M a b) k).2=if k=a then b else(eA M k).2:=by
 simp only[mu,Jf]
 by_cases h1:k=b
 ·subst h1
  by_cases h2:k=a
  ·subst h2;simp
  ·simp[h2]
 ·by_cases h2:k=a
  ·subst h2;simp[h1]
  ·simp[h1,h2]
theorem Ui (M:eu)(a b k:Int):(eA (mu M a b) k).1=if k=b then a else(eA M k).1:=by
 simp only[mu,Jf]
 by_cases h1:k=b
 ·subst h1;simp
 ·by_cases h2:k=a
  ·subst h2;simp[h1]
  ·simp[h1,h2]
theorem Ch (M:eu)(k:Int)(v:Int×Int)(j:Int):(az (bE M k v) j).isSome=true↔j=k∨(az M j).isSome=true:=by
 rw[kI];split<;>simp_all
theorem isSome_join (M:eu)(a b k:Int):(az (mu M a b) k).isSome=true↔k=a∨k=b∨(az M k).isSome=true:=by
 simp only[mu,Ch];constructor
 ·rintro(h|h|h)<;>simp[h]
 ·rintro(h|h|h)<;>simp[h]
theorem VD {M:eu}{k:Int}{v:Int×Int}(h:(az M k).isSome=true):(bE M k v).length=M.length:=by
 have:=I6 M k v;have hk:k∈M.map (·.1):=by
  rw[←Classical.not_not (a:=k∈M.map (·.1)),←wE];intro h0;rw[h0] at h;cases h
 rw[if_pos hk] at this;simpa using congrArg List.length this
theorem agp {M:eu}{k:Int}{v:Int×Int}(h:az M k=none):(bE M k v).length=M.length+1:=by
 have:=I6 M k v;rw[if_neg (wE.1 h)] at this;simpa using congrArg List.length this
theorem NO {M:eu}{a b:Int}(ha:(az M a).isSome=true)(hb:(az M b).isSome=true):(mu M a b).length=M.length:=by
 simp only[mu];rw[VD,VD ha];rw[Ch];exact .inr hb
theorem Oa {M:eu}(h:(M.map (·.1)).Nodup)(a b:Int):((mu M a b).map (·.1)).Nodup:=rU (rU h _ _) _ _
def zj (M:eu)(x:Int):eu:=mu (mu (bE M x (0,0)) (eA M (-1)).1 x) x (-1)
def FF (M:eu)(x:Int):eu:=mu (bD M x) (eA M x).1 (eA M x).2
theorem tf {L:List Nat}{k:Int}:k∈L.map (fun n:Nat=>(n:Int))↔∃n∈L,k=(n:Nat):=by
 simp only[bK];constructor
 ·rintro⟨n,h,rfl⟩;exact⟨n,h,rfl⟩
 ·rintro⟨n,h,rfl⟩;exact⟨n,h,rfl⟩
theorem N9 {L:List Nat}(h:L.Nodup):(L.map fun n:Nat=>(n:Int)).Nodup:=by
 induction L with
 |nil=>simp
 |cons a l ih=>
  simp only[eI] at h;simp only[cK,eI];refine⟨fun hm=>?_,ih h.2⟩;obtain⟨n,hn,e⟩:=tf.1 hm;exact h.1 (by rwa [Int.ofNat.inj e])
theorem snoc {α:Type}(x:α)(l:List α):∃P p,x::l=P++[p]:=⟨_,_,(List.dropLast_concat_getLast (List.cons_ne_nil x l)).symm⟩
theorem Ring.add {M:eu}{L:List Nat}(h:Ring M L){x:Nat}(hx:x∉L):Ring (zj M x) (L++[x]):=by
 obtain⟨P,p,hP⟩:=snoc (-1:Int) (L.map fun n:Nat=>(n:Int));have hs:CQ L=P++[p,-1]:=by
  show(-1:Int)::_=_;rw[←iQ,hP];simp
 have sS:eU (eA M) (P++[p,-1]):=hs▸h.ch;obtain⟨_,hp⟩:=eU.Jl (l:=P) (r:=[]) sS;have bX:(P++[p]).Nodup:=by
  rw[←hP,eI];exact⟨fun hm=>by obtain⟨n,_,e⟩:=tf.1 hm;omega,N9 h.nd⟩
 have Nn:(x:Int)∉P++[p]:=by
  rw[←hP];intro hm
  rcases bY.1 hm with e|hm
  ·omega
  ·obtain⟨n,hn,e⟩:=tf.1 hm;exact hx (by rwa [Int.ofNat.inj e])
 have MR:p∉P:=fun hm=>by
  rw[gu] at bX;exact bX.2.2 p hm p (by simp) rfl
 have hpx:p≠x:=fun e=>Nn (by simp[e])
 have B3:(az M p).isSome=true:=by
  rw[h.key];have:p∈(-1:Int)::L.map fun n:Nat=>(n:Int):=by rw[hP];simp
  rcases bY.1 this with e|hm
  ·exact .inl e
  ·exact .inr (tf.1 hm)
 have fg:az M (x:Int)=none:=by
  cases hm:az M (x:Int) with
  |none=>rfl
  |some v=>
   rcases(h.key x).1 (by rw[hm];rfl) with e|⟨n,hn,e⟩
   ·omega
   ·exact absurd (by rwa [Int.ofNat.inj e]) hx
 have ux:∀k,(eA (zj M x) k).2=if k=(x:Int) then -1 else if k=p then(x:Int) else(eA M k).2:=fun k=>by
  simp only[zj,Uh,hp,Jf]
  by_cases h1:k=(x:Int)<;>simp[h1]
 have Ae:∀k,(eA (zj M x) k).1=if k = -1 then(x:Int) else if k=(x:Int) then p else(eA M k).1:=fun k=>by
  simp only[zj,Ui,hp,Jf]
  by_cases h1:k=(x:Int)<;>simp[h1]
 have TI:∀y∈(P++[p]).tail,y≠-1∧y≠x:=fun y hy=>by
  have hm:=List.mem_of_mem_tail hy;rw[←hP] at hy;refine⟨fun e=>?_,fun e=>Nn (e▸hm)⟩;obtain⟨n,_,e'⟩:=tf.1 (show y∈L.map _ from hy);omega
 refine⟨fun k=>?_,?_,?_,?_,Oa (Oa (rU h.Ax _ _) _ _) _ _⟩
 ·simp only[zj,isSome_join,Ch,h.key,hp,cJ,lC];constructor
  ·rintro(e|e|e|e|e|e|⟨n,hn,e⟩)
   ·exact .inr ⟨x, .inr rfl,e⟩
   ·exact .inl e
   ·have:=(h.key p).1 B3
    rcases this with e'|⟨n,hn,e'⟩
    ·exact .inl (e.trans e')
    ·exact .inr ⟨n, .inl hn,e.trans e'⟩
   ·exact .inr ⟨x, .inr rfl,e⟩
   ·exact .inr ⟨x, .inr rfl,e⟩
   ·exact .inl e
   ·exact .inr ⟨n, .inl hn,e⟩
  ·rintro(e|⟨n,hn|hn,e⟩)
   ·exact .inr (.inl e)
   ·exact .inr (.inr (.inr (.inr (.inr (.inr ⟨n,hn,e⟩)))))
   ·exact .inl (hn▸e)
 ·rw[gu];exact⟨h.nd,by simp,fun a ha b hb e=>by simp at hb;subst hb;subst e;exact hx ha⟩
 ·have e:CQ (L++[x])=P++p::(x:Int)::[-1]:=by
   show(-1:Int)::_=_;rw[eD,cP,←iQ,hP];simp
  rw[e];refine eU.join (by rw[ux,if_neg hpx,if_pos rfl]) (by rw[Ae,if_neg ah,if_pos rfl]) (show eU _ [(x:Int),-1] from⟨by rw[ux,if_pos rfl],by rw[Ae,if_pos rfl],trivial⟩) ?_;have hl:eU (eA M) (P++[p]):=eU.left (r:=[-1]) (by simpa using sS);refine hl.congr (fun y hy=>?_) fun y hy=>?_
  ·rw[List.dropLast_concat] at hy;rw[ux,if_neg (fun e=>Nn (by rw[←e];simp[hy])),if_neg (fun e=>MR (by rw[←e];exact hy))]
  ·rw[Ae,if_neg (TI y hy).1,if_neg (TI y hy).2]
 ·have h1:(az (bE M (x:Int) (0,0)) (x:Int)).isSome=true:=by rw[Ch];exact .inl rfl
  have h2:(az (bE M (x:Int) (0,0)) p).isSome=true:=by rw[Ch];exact .inr B3
  rw[zj,hp,NO,NO h2 h1,agp fg,h.len]
  ·simp
  ·rw[isSome_join];exact .inr (.inl rfl)
  ·rw[isSome_join,Ch,h.key];exact .inr (.inr (.inr (.inl rfl)))
theorem ago {M:eu}{k:Int}(h:(az M k).isSome=true):(bD M k).length+1=M.length:=by
 induction M with
 |nil=>cases h
 |cons a M ih=>
  obtain⟨a,u⟩:=a;simp only[az] at h;simp only[bD];split
  ·simp
  ·rename_i hk
   rw[if_neg hk] at h;simpa using ih h
theorem ag8 {M:eu}(h:(M.map (·.1)).Nodup)(k:Int):((bD M k).map (·.1)).Nodup:=h.sublist ((wX M k).map _)
theorem Ring.remove {M:eu}{L1 L2:List Nat}{x:Nat}(h:Ring M (L1++x::L2)):Ring (FF M x) (L1++L2):=by
 obtain⟨P,p,hP⟩:=snoc (-1:Int) (L1.map fun n:Nat=>(n:Int));obtain⟨q,R,hR⟩:∃q R,L2.map (fun n:Nat=>(n:Int))++[-1]=q::R:=by cases L2<;>exact⟨_,_,rfl⟩
 have hs:CQ (L1++x::L2)=P++p::(x:Int)::q::R:=by
  show(-1:Int)::_=_;rw[eD,cK,cP,iQ,hR,←iQ,hP];simp
 have sS:eU (eA M) (P++p::(x:Int)::q::R):=hs▸h.ch;have uG:=(eU.Jl sS).2;have ey:=(eU.Jl (l:=P++[p]) (p:=(x:Int)) (q:=q) (r:=R) (by simpa using sS)).1;have bX:=h.nd;rw[gu,eI] at bX;obtain⟨n1,⟨n2,n3⟩,n4⟩:=bX;have B4:∀y∈P++[p],y = -1∨∃n∈L1,y=(n:Nat):=fun y hy=>by
  rw[←hP] at hy
  rcases bY.1 hy with e|hm
  ·exact .inl e
  ·exact .inr (tf.1 hm)
 have B5:∀y∈q::R,y = -1∨∃n∈L2,y=(n:Nat):=fun y hy=>by
  rw[←hR] at hy
  rcases cJ.1 hy with hm|e
  ·exact .inr (tf.1 hm)
  ·exact .inl (by simpa using e)
 have IB:∀y∈P++[p],y≠x:=fun y hy e=>by
  rcases B4 y hy with e'|⟨n,hn,e'⟩
  ·omega
  ·exact n4 n hn x (by simp) ah
 have IC:∀y∈q::R,y≠x:=fun y hy e=>by
  rcases B5 y hy with e'|⟨n,hn,e'⟩
  ·omega
  ·exact n2 (by rwa [show x=n by omega])
 have Tj:(P++[p]).Nodup:=by
  rw[←hP,eI];exact⟨fun hm=>by obtain⟨n,_,e⟩:=tf.1 hm;omega,N9 n1⟩
 have adx:(q::R).Nodup:=by
  rw[←hR,gu];exact⟨N9 n3,by simp,fun a ha b hb e=>by simp at hb;obtain⟨n,_,e'⟩:=tf.1 ha;omega⟩
 have MR:p∉P:=fun hm=>by
  rw[gu] at Tj;exact Tj.2.2 p hm p (by simp) rfl
 have hqR:q∉R:=(eI.1 adx).1
 -- inner ahz on Ge left are not on Ge right,and Ge other way round
 have ad3:∀y∈(P++[p]).tail,∃n∈L1,y=(n:Nat):=fun y hy=>by
  rw[←hP] at hy;exact tf.1 hy
 have ac3:∀y∈(q::R).dropLast,∃n∈L2,y=(n:Nat):=fun y hy=>by
  rw[←hR,List.dropLast_concat] at hy;exact tf.1 hy
 have Iv:∀{a b:Nat},a∈L1→b∈L2→(a:Int)≠b:=fun ha hb e=>n4 _ ha _ (fR _ hb) ah
 have B3:(az (bD M (x:Int)) p).isSome=true:=by
  rw[iF h.Ax,if_neg (IB p (by simp)),h.key]
  rcases B4 p (by simp) with e|⟨n,hn,e⟩
  ·exact .inl e
  ·exact .inr ⟨n,by simp[hn],e⟩
 have hqk:(az (bD M (x:Int)) q).isSome=true:=by
  rw[iF h.Ax,if_neg (IC q (by simp)),h.key]
  rcases B5 q (by simp) with e|⟨n,hn,e⟩
  ·exact .inl e
  ·exact .inr ⟨n,by simp[hn],e⟩
 have H0:∀k,k≠(x:Int)→eA (bD M (x:Int)) k=eA M k:=fun k hk=>by
  unfold eA;rw[iF h.Ax,if_neg hk]
 have Af:FF M x=mu (bD M (x:Int)) p q:=by rw[FF,uG,ey]
 have ux:∀k,k≠(x:Int)→(eA (FF M x) k).2=if k=p then q else(eA M k).2:=fun k hk=>by
  rw[Af,Uh,H0 k hk]
 have Ae:∀k,k≠(x:Int)→(eA (FF M x) k).1=if k=q then p else(eA M k).1:=fun k hk=>by
  rw[Af,Ui,H0 k hk]
 refine⟨fun k=>?_,?_,?_,?_,?_⟩
 ·rw[Af,isSome_join];have hk:=h.key k;constructor
  ·rintro(e|e|e)
   ·rcases B4 p (by simp) with e'|⟨n,hn,e'⟩
    ·exact .inl (e.trans e')
    ·exact .inr ⟨n,by simp[hn],e.trans e'⟩
   ·rcases B5 q (by simp) with e'|⟨n,hn,e'⟩
    ·exact .inl (e.trans e')
    ·exact .inr ⟨n,by simp[hn],e.trans e'⟩
   ·rw[iF h.Ax] at e;split at e
    ·cases e
    ·rename_i mV
     rcases hk.1 e with e'|⟨n,hn,e'⟩
     ·exact .inl e'
     ·refine .inr ⟨n,?_,e'⟩
      rcases cJ.1 hn with hn|hn
      ·simp[hn]
      ·rcases bY.1 hn with hn|hn
       ·exact absurd (by rw[e',hn]) mV
       ·simp[hn]
  ·intro e;have mV:k≠(x:Int):=fun e'=>by
    rcases e with e|⟨n,hn,e⟩
    ·omega
    ·have:n=x:=by omega
     subst this
     rcases cJ.1 hn with hn|hn
     ·exact n4 n hn n (by simp) rfl
     ·exact n2 hn
   refine .inr (.inr ?_);rw[iF h.Ax,if_neg mV,hk]
   rcases e with e|⟨n,hn,e⟩
   ·exact .inl e
   ·refine .inr ⟨n,?_,e⟩
    rcases cJ.1 hn with hn|hn<;>simp[hn]
 ·rw[gu];exact⟨n1,n3,fun a ha b hb=>n4 a ha b (fR _ hb)⟩
 ·have e:CQ (L1++L2)=P++p::q::R:=by
   show(-1:Int)::_=_;rw[eD,cP,hR,←iQ,hP];simp
  rw[e];have hl:eU (eA M) (P++[p]):=eU.left (r:=(x:Int)::q::R) (by simpa using sS);have hr:eU (eA M) (q::R):=eU.right (l:=P++[p,(x:Int)]) (by simpa using sS);refine eU.join (by rw[ux _ (IB p (by simp)),if_pos rfl]) (by rw[Ae _ (IC q (by simp)),if_pos rfl]) (hr.congr (fun y hy=>?_) fun y hy=>?_) (hl.congr (fun y hy=>?_) fun y hy=>?_)
  ·have hm:y∈q::R:=List.dropLast_subset _ hy;obtain⟨n,hn,e1⟩:=ac3 y hy;rw[ux _ (IC y hm),if_neg];intro e2
   rcases B4 p (by simp) with e'|⟨n',oP,e'⟩
   ·omega
   ·exact Iv oP hn ah
  ·have hm:y∈q::R:=fR _ hy;rw[Ae _ (IC y hm),if_neg (fun e=>hqR (by rw[←e];exact hy))]
  ·rw[List.dropLast_concat] at hy;rw[ux _ (IB y (by simp[hy])),if_neg (fun e=>MR (by rw[←e];exact hy))]
  ·have hm:=List.mem_of_mem_tail hy;obtain⟨n,hn,e1⟩:=ad3 y hy;rw[Ae _ (IB y hm),if_neg];intro e2
   rcases B5 q (by simp) with e'|⟨n',oP,e'⟩
   ·omega
   ·exact Iv hn oP ah
 ·have fg:(az M (x:Int)).isSome=true:=(h.key x).2 (.inr ⟨x,by simp,rfl⟩);have:=ago fg;have hl:=h.len;rw[Af,NO B3 hqk];simp only[bJ,dR] at hl ⊢;omega
 ·rw[Af];exact Oa (ag8 h.Ax _) _ _
theorem Ring.first {M:eu}{x:Nat}{L:List Nat}(h:Ring M (x::L)):(eA M (-1)).2=x:=by
 have:=h.ch;exact this.1
end
end Go.Proofs.YtmlpbmgfmnmmmaaGreat.V.M
