/-
  Parts of the proof. No condition.
-/
import Derived.Test.YtoloaehmppcjoaaGreatW2aj
import Derived.Test.YtoloaehmppcjoaaGreatW2ak
set_option linter.unusedVariables false
set_option linter.unusedSimpArgs false
set_option maxRecDepth 8000
set_option maxHeartbeats 8000000
open Go.Proofs.Tryz
namespace Go.Proofs.YtoloaehmppcjoaaGreat.V.M
section
attribute [local irreducible] GO GX
section
variable {P:Program}{ops:Array Oper}{Q:Exit→Act→World→Prop}{S:World→Prop}{n:Nat}
variable {i m:Nat}{p:b6}{e:Env}{w:World}{k:Kd}{dst:Option Tmp}{ty:TypeId}{pos:String}{an:Array Edge}{g:Option (Nat×Bool)}
variable {og:Og}{l r l':List It}{b:Nat}
variable {κ ν:Type}{kv:κ→Value}{vv:ν→Value}{M:List (κ×ν)}
theorem aja (d:Nat){t kt el:TypeId}(hu:P.underlying t=some (.map kt el))(a:Option Nat)(w:World):(Op.equalIn (d+1) t (.map a) (.map none)).run P w = .ok a.isNone w:=by
 cases a<;>simp[Op.equalIn,run_underlying hu]
theorem ai9 {t kt el:TypeId}(hu:P.underlying t=some (.map kt el))(a:Option Nat)(w:World):(binOp .eql t (.map a) (.map none)).run P w = .ok (.bool a.isNone) w:=by
 have h:=aja (P:=P) 9999 hu a w;simp only[binOp,Op.equal,Op.maxDepth,Sem.run_bind,h,Result.andThen_ok];rfl
theorem GO.N7 [Fr](hk:cC k=true){t t2 kt el:TypeId}[hu:bI P t (.map kt el)]{x y:Operand}{a:Option Nat}(hw:aI ops e ⟨dst, .binOp .eql t x y t2,ty,pos,an,g⟩=some true)(hx:ev e x=some (.map a))(hy:ev e y=some (.map none))(hd:fits n dst=true)
  (h:GX P ops Q S n p (e.put dst (.bool a.isNone)) w):GO P ops Q S n k i ⟨dst, .binOp .eql t x y t2,ty,pos,an,g⟩ p e w:=
 GO.bin hk hw hx hy hd (fun w=>rfl) (fun w=>ai9 hu.out a w) h
inductive Ms (b:Nat) (kv:κ→Value) (vv:ν→Value) (M:List (κ×ν)):List It→Prop
 |own {l:List It}:Ms b kv vv M (aS b kv vv M::l)
 |fz {l:List It}:Ms b kv vv M (fz (aS b kv vv M)::l)
 |there {y:It}{l:List It}:Ms b kv vv M l→Ms b kv vv M (y::l)
theorem SH.ms (h:SH og w l)(he:Ms b kv vv M l):dY w b kv vv M:=by
 obtain⟨Z,F,hu,h1,hr⟩:=h;clear hu hr
 induction he generalizing F with
 |own=>obtain⟨F1,F2,_,_,⟨h,_⟩,_⟩:=h1;exact h
 |fz=>obtain⟨F1,F2,_,_,⟨⟨_,_,_,_,h,_⟩,_⟩,_⟩:=h1;exact h
 |there _ ih=>obtain⟨F1,F2,_,_,_,h2⟩:=h1;exact ih F2 h2
theorem AD {w w':World}{el:TypeId}{sz b n c i:Nat}{a:Option Addr}{cs vs:List Value}(h:aH w el sz (some b) a n c cs)(hp:mu w w' b i vs)(hi:i+vs.length≤cs.length):aH w' el sz (some b) a n c (cs.take i++vs++cs.drop (i+vs.length)):=by
 obtain⟨h0,⟨h,_⟩|⟨b',hb,rfl,hl,⟨h,_⟩|⟨g,k,cur,h,hk,hg,h1,h2,h3,h4⟩⟩⟩:=h
 ·cases h
 ·cases h
 ·cases hb;cases h;have hlen:(cs.take i++vs++cs.drop (i+vs.length)).length=n*sz:=by
   simp only[bH,dI,ml];omega
  obtain⟨R,Su⟩:∃R,cur.toList=cs++R:=⟨cur.toList.drop (n*sz),by rw[←h4,jW]⟩
  have e:cur.toList.take i++vs++cur.toList.drop (i+vs.length)=(cs.take i++vs++cs.drop (i+vs.length))++R:=by
   rw[Su,vt ah,List.drop_append_of_le_length hi];simp
  refine⟨hlen, .inr ⟨b,rfl,rfl,hlen, .inr ⟨b,c,_,rfl,hk,hp.here _ _ _ hg,h1,h2,?_,?_⟩⟩⟩
  ·have h5:=congrArg List.length e;have h6:=congrArg List.length Su;simp only[bH,Array.length_toList] at h5 h6;simp only[xu,bH];simp only[bH] at hlen;omega
  ·show(cur.toList.take i++vs++cur.toList.drop (i+vs.length)).take (n*sz)=_;rw[e,←hlen,vx]
theorem FH {w:World}{el:TypeId}{sz b n c j m:Nat}{a:Option Addr}{cs:List Value}(h:aH w el sz (some b) a n c cs)(hj:j+m≤cs.length):Wr w b j m:=by
 obtain⟨cur,hg,h1,h2,h3,h4⟩:=rm h;refine⟨cur,el,(0,0),hg,?_,fun k _=>by simp⟩;rw[←h4,dI] at hj;simp at hj;omega
theorem GX.vm [Fr]{t:TypeId}{agg:Bool}{Ge:Nat}{x y:Operand}{el:TypeId}{sz len cap o:Nat}{v:Value}{cs vs cs':List Value}(hH:SH og w l:=by assumption)
  (ho:ops[i]?=some ⟨none, .store t x y,ty,pos,an,g⟩:=by rfl) (hf:aC P t agg Ge:=by infer_instance) (hw:aI ops e ⟨none, .store t x y,ty,pos,an,g⟩=some true:=by rfl) (hx:ev e x=some (.pointer (some ⟨b,o,none⟩)):=by rfl) (hy:ev e y=some v:=by rfl)
  (hv:Cl v vs:=by first|exact Cl.agg|exact Cl.one rfl) (hl:vs.length=Ge:=by rfl) (h1:(vs.all fun u=>u.oneCell')=true:=by rfl) (hr:bA (aq el sz (some b) len cap cs) (aq el sz (some b) len cap cs') l l':=by repeat(first|exact bA.here|apply bA.there)) (hb:o+vs.length≤cs.length) (hc:cs.take o++vs++cs.drop (o+vs.length)=cs')
  (h:∀w',SH og w' l'→GX P ops Q (fun _=>True) n (bc (i+1) m) e w'):GX P ops Q (fun _=>True) n (bc i (m+1)) e w:=by
 obtain⟨_,hs,_⟩:=hr.perm;have hO:aH w el sz (some b) (aA (some b)) len cap cs:=let⟨_,_,h,_⟩:=(hH.perm hs).head;h;refine GX.aw ho (GO.store (vs:=vs) (FH hO ah) hv.eq hl (fun u hu=>sR.1 h1 u hu) hw hx hy fun w' hp=>⟨fun _ _=>trivial,h w' (hH.lG hr (fun _=>?_) (hp.mod.weaken fun k _ hk=>by rw[hk]) fun b hb => .inl hb)⟩);rw[←hc];exact AD hO hp hb
theorem GX.gU [Fr]{T:Nat→Prop}{w0:World}{t:TypeId}{agg:Bool}{Ge:Nat}{x y:Operand}{el:TypeId}{sz len cap o:Nat}{v:Value}{cs vs cs':List Value}(hH:SH og w l:=by assumption)(hT:T b∨gS ops i=true:=by exact .inr ai)
  (ho:ops[i]?=some ⟨none, .store t x y,ty,pos,an,g⟩:=by rfl) (hf:aC P t agg Ge:=by infer_instance) (hw:aI ops e ⟨none, .store t x y,ty,pos,an,g⟩=some true:=by rfl) (hx:ev e x=some (.pointer (some ⟨b,o,none⟩)):=by rfl) (hy:ev e y=some v:=by rfl)
  (hv:Cl v vs:=by first|exact Cl.agg|exact Cl.one rfl) (hl:vs.length=Ge:=by rfl) (h1:(vs.all fun u=>u.oneCell')=true:=by rfl) (hr:bA (aq el sz (some b) len cap cs) (aq el sz (some b) len cap cs') l l':=by repeat(first|exact bA.here|apply bA.there)) (hb:o+vs.length≤cs.length) (hc:cs.take o++vs++cs.drop (o+vs.length)=cs')
  (h:∀w',SH og w' l'→GX P ops Q (Mod T w0) n p e w'):GX P ops Q (Mod T w0) n (.aw i p) e w:=by
 obtain⟨_,hs,_⟩:=hr.perm;have hO:aH w el sz (some b) (aA (some b)) len cap cs:=let⟨_,_,h,_⟩:=(hH.perm hs).head;h;refine GX.aw ho (GO.store (vs:=vs) (FH hO ah) hv.eq hl (fun u hu=>sR.1 h1 u hu) hw hx hy fun w' hp=>⟨(fun lz hS=>by
  rcases hT with hT|hT
  ·exact hS.trans (hp.mod.weaken fun k _ hk=>by subst hk;exact hT)
  ·rw[hT] at lz;cases lz),h w' (hH.lG hr (fun _=>?_) (hp.mod.weaken fun k _ hk=>by rw[hk]) fun b hb => .inl hb)⟩)
 rw[←hc];exact AD hO hp hb
theorem GX.pS [Fr]{T:Nat→Prop}{w0:World}{p:b6}{x:Operand}{args:Array Operand}{ts:Array TypeId}{f:FuncId}{fs cs:Array Value}{vs:List Value}{V:Value}{al:List Value}(hc:aj P f al.toArray w fun v w'=>v=V∧w'=w)
  (ho:ops[i]?=some ⟨dst, .call ⟨.value x,args,ts⟩,ty,pos,an,g⟩:=by rfl) (hw:aI ops e ⟨dst, .call ⟨.value x,args,ts⟩,ty,pos,an,g⟩=some true:=by rfl) (hx:ev e x=some (.func (.func f) fs cs):=by rfl) (hy:kO e args.toList=some vs:=by rfl) (hd:fits n dst=true:=by rfl)
  (cj:fs.toList++vs++cs.toList=al:=by rfl) [hf:ax P f]
  (h:GX P ops Q (Mod T w0) n p (e.put dst V) w):GX P ops Q (Mod T w0) n (.aw i p) e w:=
 GX.aw ho (GO.rL hw hx hy hd cj hc fun v w' ⟨h1,h2⟩=>by subst h1;rw[h2];exact⟨fun _ h=>h,h⟩)
theorem aln (k:Bs):((⟨k.toArray⟩:ByteArray)=⟨#[]⟩)↔k=[]:=by
 constructor
 ·intro h;have:=congrArg (fun b:ByteArray=>b.data.toList) h;simpa using this
 ·rintro rfl;rfl
variable [DecidableEq κ]
theorem GX.mN [Fr]{t kt el:TypeId}{x y:Operand}{ok:Bool}{a:κ}{Z V:Value}(hH:SH og w l:=by assumption)
  (ho:ops[i]?=some ⟨dst, .lookup t x y ok,ty,pos,an,g⟩:=by rfl) (hu:bI P t (.map kt el):=by infer_instance) (hw:aI ops e ⟨dst, .lookup t x y ok,ty,pos,an,g⟩=some true:=by rfl) (hx:ev e x=some (.map (some b)):=by rfl) (he:Ms b kv vv M l:=by repeat(first|exact Ms.own|exact Ms.fz|apply Ms.there)) (hy:ev e y=some (kv a):=by rfl) (hd:fits n dst=true:=by rfl)
  (hk:kE P kv kt:=by infer_instance) (hz:mv P el Z:=by infer_instance) (hV:jA vv Z ok (ay M a)=V)
  (h:GX P ops Q S n (bc (i+1) m) (e.put dst V) w):GX P ops Q S n (bc i (m+1)) e w:=by
 subst hV;exact GX.lookup (hH.ms he) hk hz.out ho hw hx hy hd h
theorem GX.agp [Fr]{t kt el:TypeId}{x:Operand}(hH:SH og w l:=by assumption)
  (ho:ops[i]?=some ⟨dst, .call ⟨.builtin .len,#[x],#[t]⟩,ty,pos,an,g⟩:=by rfl) (hu:bI P t (.map kt el):=by infer_instance) (hw:aI ops e ⟨dst, .call ⟨.builtin .len,#[x],#[t]⟩,ty,pos,an,g⟩=some true:=by rfl) (hx:ev e x=some (.map (some b)):=by rfl) (he:Ms b kv vv M l:=by repeat(first|exact Ms.own|exact Ms.fz|apply Ms.there)) (hd:fits n dst=true:=by rfl)
  (h:GX P ops Q S n (bc (i+1) m) (e.put dst (.int .i64 M.length)) w):GX P ops Q S n (bc i (m+1)) e w:=
 GX.NU (hH.ms he) ho hw hx hd h
theorem GX.As [Fr]{T:Nat→Prop}{w0:World}{t kt el:TypeId}{x y z:Operand}{a:κ}{v:ν}(hH:SH og w l:=by assumption)(hT:T b∨gS ops i=true:=by exact .inr ai)
  (ho:ops[i]?=some ⟨none, .mapUpdate t x y z,ty,pos,an,g⟩:=by rfl) (hu:bI P t (.map kt el):=by infer_instance) (hw:aI ops e ⟨none, .mapUpdate t x y z,ty,pos,an,g⟩=some true:=by rfl) (hx:ev e x=some (.map (some b)):=by rfl) (hr:bA (aS b kv vv M) (aS b kv vv (bC M a v)) l l':=by repeat(first|exact bA.here|apply bA.there)) (hk:kE P kv kt:=by infer_instance) (hy:ev e y=some (kv a):=by rfl) (hv:ev e z=some (vv v):=by rfl)
  (h:∀w',SH og w' l'→GX P ops Q (Mod T w0) n p e w'):GX P ops Q (Mod T w0) n (.aw i p) e w:=by
 obtain⟨_,hs,_⟩:=hr.perm;have hM:dY w b kv vv M:=let⟨_,_,h,_⟩:=(hH.perm hs).head;h;obtain⟨w1,h1,h2,h3⟩:=O1 hM hu.out hk a v;refine GX.aw ho (GO.run (R:=fun _ w'=>w'=w1) hw rfl (fun ac ha=>⟨.skip,undef,_,by simp[execOp,bE ha hx,bE ha hy,bE ha hv,h1], .inr ⟨rfl,rfl⟩,rfl⟩) ?_);rintro _ _ rfl;refine⟨fun lz hS=>?_,h _ (hH.vi hr h2 h3)⟩
 rcases hT with hT|hT
 ·exact hS.trans (h3.weaken fun k _ hk=>by subst hk;exact hT)
 ·rw[hT] at lz;cases lz
theorem GX.Fx [Fr]{t kt el:TypeId}{x y z:Operand}{a:κ}{v:ν}(hH:SH og w l:=by assumption)
  (ho:ops[i]?=some ⟨none, .insert t x y z,ty,pos,an,g⟩:=by rfl) (hu:bI P t (.map kt el):=by infer_instance) (hw:aI ops e ⟨none, .insert t x y z,ty,pos,an,g⟩=some true:=by rfl) (hx:ev e x=some (.map (some b)):=by rfl) (hr:bA (aS b kv vv M) (aS b kv vv (bC M a v)) l l':=by repeat(first|exact bA.here|apply bA.there)) (hk:kE P kv kt:=by infer_instance) (hy:ev e y=some (kv a):=by rfl) (hv:ev e z=some (vv v):=by rfl)
  (h:∀w',SH og w' l'→GX P ops Q (fun _=>True) n (bc (i+1) m) e w'):GX P ops Q (fun _=>True) n (bc i (m+1)) e w:=by
 obtain⟨_,hs,_⟩:=hr.perm;have hM:dY w b kv vv M:=let⟨_,_,h,_⟩:=(hH.perm hs).head;h;exact GX.mapInsert hM hk ho hw hx hy hv fun w' uw hm=>h w' (hH.vi hr uw hm)
end
end
section
attribute [local irreducible] GO GX aB fz aF aS aq star
variable {o:Og}{w:World}
abbrev eE:=List (Int×(Int×Int))
def yC (x:Int×Int):Value := .agg #[iV x.1,iV x.2]
def pf (r:Nat)(M:eE):It:=star fun b:Nat=>[aB r [.map (some b)],aS b iV yC M]
instance {r:Nat}{M:eE}:Zf (pf r M):=Zf.star fun _=>inferInstance
def eI (M:eE)(k:Int):Int×Int:=(ay M k).getD (0,0)
def mM (M:eE)(a b:Int):eE:=let M1:=bC M a ((eI M a).1,b);bC M1 b (a,(eI M1 b).2)
theorem Fw (M:eE)(k:Int):jA yC (.agg #[iV 0,iV 0]) false (ay M k)=yC (eI M k):=by
 unfold jA eI;cases ay M k<;>rfl
theorem Fu {l t:List It}{r b:Nat}{M:eE}(h:SH o w l)(hp:Pk l [aB r [.map (some b)],aS b iV yC M] t:=by repeat(first|exact Pk.nil|(apply Pk.cons;repeat(first|exact az.here|apply az.there)))):SH o w (pf r M::t):=SH.fold b h hp
theorem FR {r:Nat}{M:eE}(hs:Start o w [fz (pf r M)]):aj prog 223 [ak r].toArray w (Po o (.bool false) []):=by
 have hH:=hs.sh;obtain⟨b,hH⟩:=SH.dV hH;replace hH:=SH.ed hH;refine aj.enter func223 rfl ntmps223 rfl (gh ?_);refine GX.next rfl (GO.N7 rfl rfl rfl rfl rfl (gh ?_));exact⟨rfl,hH.to⟩
theorem OW {r:Nat}{M:eE}(x y:Int)(hs:Start o w [pf r M]):aj prog 283 [ak r,iV x,iV y].toArray w (Po o (.tuple #[]) [pf r (mM M x y)]):=by
 have hH:=hs.sh;obtain⟨b,hH⟩:=SH.un hH;replace hH:=SH.ap hH;refine aj.enter func283 rfl ntmps283 rfl (gh ?_);refine GX.mN (hV:=Fw M x) (h:=gh ?_);refine GX.cA (h:=fun c w hH=>gh ?_);refine GX.bt (h:=fun w hH=>gh ?_);refine GX.dC (h:=fun w hH=>gh ?_);refine GC.br (pl:=(bg [0,3,6,12,10,16,20])) (T:=fun _=>False) (hm:=mixed) (h:=fun w hE hH=>gh ?_);refine GX.As (v:=((eI M x).1,y)) (h:=fun w hH=>gh ?_);refine GX.mN (hV:=Fw _ y) (h:=gh ?_);refine GX.cA (h:=fun d w hH=>gh ?_);refine GX.bt (h:=fun w hH=>gh ?_);refine GX.dC (h:=fun w hH=>gh ?_);refine GC.br (pl:=(bg [0,3,6,12,10,16,20])) (T:=fun _=>False) (hm:=mixed) (h:=fun w hE hH=>gh ?_);refine GX.As (v:=(x,(eI (bC M x ((eI M x).1,y)) y).2)) (h:=fun w hH=>gh ?_);exact⟨rfl,(Fu (M:=mM M x y) hH).to⟩
theorem W4 {r:Nat}{M:eE}(x:Int)(hs:Start o w [fz (pf r M)]):aj prog 340 [ak r,iV x].toArray w (Po o (.bool (decide (x≠-1∧(ay M x).isSome=true))) []):=by
 have hH:=hs.sh;refine aj.enter func340 rfl ntmps340 rfl (gh ?_);refine GX.aM (hc:=fun _ hs=>FR hs) (h:=fun w hE hH=>gh ?_);refine ifs (fun h1=>?_) (fun h1=>?_)<;>refine gh ?_
 ·exact⟨xr fun h=>h.1 h1,hH.to⟩
 obtain⟨b,hH⟩:=SH.dV hH;replace hH:=SH.ed hH;refine gh ?_;refine GX.mN (hV:=show _ = .tuple #[yC (eI M x), .bool (ay M x).isSome] by unfold jA eI;cases ay M x<;>rfl) (h:=gh ?_);refine GX.cA (h:=fun c w hH=>gh ?_);refine GX.bt (h:=fun w hH=>gh ?_);refine⟨?_,hH.to⟩;cases h:(ay M x).isSome<;>simp[h1]
theorem aiP {r:Nat}{M:eE}(hl:M.length<2^40)(hs:Start o w [fz (pf r M)]):aj prog 322 [ak r].toArray w (Po o (iV ((M.length:Int) - 1)) []):=by
 have hH:=hs.sh;refine aj.enter func322 rfl ntmps322 rfl (gh ?_);refine GX.aM (hc:=fun _ hs=>FR hs) (h:=fun w hE hH=>gh ?_);obtain⟨b,hH⟩:=SH.dV hH;replace hH:=SH.ed hH;refine gh ?_;refine GX.agp (h:=gh ?_);exact⟨rfl,hH.to⟩
def tP (M:eE)(x:Int)(t:Bool):Int:=if x<0∨1048576≤x then 2 else if t=true∧(ay M x).isSome=false then 9 else if t=false∧(ay M x).isSome=true then 11 else 0
theorem WU {r:Nat}{M:eE}(x:Int)(t:Bool)(hs:Start o w [fz (pf r M)]):aj prog 282 [ak r,iV x, .bool t].toArray w (Po o (iV (tP M x t)) []):=by
 have hH:=hs.sh;refine aj.enter func282 rfl ntmps282 rfl (gh ?_);refine GX.aM (hc:=fun _ hs=>FR hs) (h:=fun w hE hH=>gh ?_);refine ifs (fun h1=>?_) (fun h1=>?_)<;>refine gh ?_
 ·exact⟨by rw[tP,if_pos (.inl h1)],hH.to⟩
 refine ifs (fun h2=>?_) (fun h2=>?_)<;>refine gh ?_
 ·exact⟨by rw[tP,if_pos (.inr h2)],hH.to⟩
 have h3:¬(x<0∨1048576≤x):=by omega
 have h4:decide (x≠-1∧(ay M x).isSome=true)=(ay M x).isSome:=by
  cases h:(ay M x).isSome
  ·simp
  ·simp;omega
 cases t with
 |true=>
  refine gh ?_;refine GX.aM (hc:=fun _ hs=>h4▸W4 x hs) (h:=fun w hE hH=>gh ?_);cases h:(ay M x).isSome
  ·refine gh ?_;exact⟨by rw[tP,if_neg h3,if_pos ⟨rfl,h⟩],hH.to⟩
  ·refine gh ?_;exact⟨by rw[tP,if_neg h3,if_neg (by simp[h]),if_neg (by simp)],hH.to⟩
 |false=>
  refine gh ?_;refine GX.aM (hc:=fun _ hs=>h4▸W4 x hs) (h:=fun w hE hH=>gh ?_);cases h:(ay M x).isSome
  ·refine gh ?_;exact⟨by rw[tP,if_neg h3,if_neg (by simp),if_neg (by simp[h])],hH.to⟩
  ·refine gh ?_;exact⟨by rw[tP,if_neg h3,if_neg (by simp),if_pos ⟨rfl,h⟩],hH.to⟩
theorem aip {r:Nat}{M:eE}(x:Nat)(hx:x<1048576)(hn:ay M x=none)(hs:Start o w [pf r M]):aj prog 255 [ak r,iV x].toArray w (Po o (iV 0) [pf r (mM (mM (bC M x (0,0)) (eI M (-1)).1 x) x (-1))]):=by
 have hH:=hs.sh;refine aj.enter func255 rfl ntmps255 rfl (gh ?_);refine GX.aM (hc:=fun _ hs=>WU x false hs) (h:=fun w hE hH=>gh ?_);have e:tP M x false=0:=by rw[tP,if_neg ah,if_neg (by simp),if_neg (by simp[hn])]
 rw[e];refine ifs (fun h1=>?_) (fun h1=>?_)<;>refine gh ?_
 ·obtain⟨b,hH⟩:=SH.un hH;replace hH:=SH.ap hH;refine gh ?_;refine GX.mN (hV:=Fw M (-1)) (h:=gh ?_);refine GX.Fy (v:=((0,0):Int×Int)) (h:=fun w hH=>gh ?_);replace hH:=Fu (r:=r) (b:=b) hH;refine GX.bF (hc:=fun _ hs=>OW _ _ hs) (h:=fun w hH=>gh ?_);refine GX.bF (hc:=fun _ hs=>OW _ _ hs) (h:=fun w hH=>gh ?_);exact⟨rfl,hH.to⟩
 ·exact absurd rfl h1
theorem aiW {r:Nat}{M:eE}(x:Nat)(hx:x<1048576)(hn:(ay M x).isSome=true)(hs:Start o w [pf r M]):aj prog 200 [ak r,iV x].toArray w (Po o (iV 0) [pf r (mM (bB M x) (eI M x).1 (eI M x).2)]):=by
 have hH:=hs.sh;refine aj.enter func200 rfl ntmps200 rfl (gh ?_);refine GX.aM (hc:=fun _ hs=>WU x true hs) (h:=fun w hE hH=>gh ?_);have e:tP M x true=0:=by rw[tP,if_neg ah,if_neg (by simp[hn]),if_neg (by simp)]
 rw[e];refine ifs (fun h1=>?_) (fun h1=>?_)<;>refine gh ?_
 ·obtain⟨b,hH⟩:=SH.un hH;replace hH:=SH.ap hH;refine gh ?_;refine GX.mN (hV:=Fw M x) (h:=gh ?_);refine GX.cA (h:=fun c w hH=>gh ?_);refine GX.bt (h:=fun w hH=>gh ?_);refine GX.Jt (h:=fun w hH=>gh ?_);replace hH:=Fu (r:=r) (b:=b) hH;refine GX.bF (hc:=fun _ hs=>OW _ _ hs) (h:=fun w hH=>gh ?_);exact⟨rfl,hH.to⟩
 ·exact absurd rfl h1
end
section
def fk (f:Int→Int×Int):List Int→Prop
 |x::y::r=>(f x).2=y∧(f y).1=x∧fk f (y::r)
 |_=>True
theorem fk.congr {f g:Int→Int×Int}:∀{l:List Int},fk f l→(∀x∈l.dropLast,(g x).2=(f x).2)→(∀y∈l.tail,(g y).1=(f y).1)→fk g l
 | [],_,_,_=>trivial
 | [_],_,_,_=>trivial
 |x::y::r,⟨h1,h2,h3⟩,hn,hp=>by
  refine⟨(hn x (by simp)).trans h1,(hp y (by simp)).trans h2,h3.congr (fun z hz=>hn z ?_) fun z hz=>hp z ?_⟩
  ·rw[List.dropLast_cons_of_ne_nil (by simp)];exact fP _ hz
  ·exact fP _ hz
theorem fk.left {f:Int→Int×Int}:∀{l r:List Int},fk f (l++r)→fk f l
 | [],_,_=>trivial
 | [_],_,_=>trivial
 |x::y::l,r,⟨h1,h2,h3⟩=>⟨h1,h2,fk.left (l:=y::l) h3⟩
theorem fk.right {f:Int→Int×Int}:∀{l r:List Int},fk f (l++r)→fk f r
 | [],_,h=>h
 | [_],[],_=>trivial
 | [_],_::_,⟨_,_,h⟩=>h
 |_::y::l,_,⟨_,_,h⟩=>fk.right (l:=y::l) h
theorem fk.Jv {f:Int→Int×Int}{p q:Int}:∀{l r:List Int},fk f (l++p::q::r)→(f p).2=q∧(f q).1=p:=fun {l r} h=>by
 have:=fk.right (l:=l) h;exact⟨this.1,this.2.1⟩
theorem fk.join {f:Int→Int×Int}{p q:Int}{r:List Int}(h1:(f p).2=q)(h2:(f q).1=p)(h3:fk f (q::r)):∀{l:List Int},fk f (l++[p])→fk f (l++p::q::r)
 | [],_=>⟨h1,h2,h3⟩
 | [_],⟨k1,k2,_⟩=>⟨k1,k2,h1,h2,h3⟩
 |_::y::l,⟨k1,k2,k3⟩=>⟨k1,k2,fk.join h1 h2 h3 (l:=y::l) k3⟩
def CL (L:List Nat):List Int:=-1::(L.map (fun n:Nat=>(n:Int))++[-1])
structure Ring (M:eE)(L:List Nat):Prop where
 key:∀k:Int,(ay M k).isSome=true↔k = -1∨∃n∈L,k=(n:Nat)
 nd:L.Nodup
 ch:fk (eI M) (CL L)
 len:M.length=L.length+1
 Au:(M.map (·.1)).Nodup
theorem Jp (M:eE)(k:Int)(v:Int×Int)(j:Int):eI (bC M k v) j=if j=k then v else eI M j:=by
 unfold eI;rw[kU];split<;>rfl
theorem Ul (M:eE)(a b k:Int):(eI (mM M a b) k).2=if k=a then b else(eI M k).2:=by
 simp only[mM,Jp]
 by_cases h1:k=b
 ·subst h1
  by_cases h2:k=a
  ·subst h2;simp
  ·simp[h2]
 ·by_cases h2:k=a
  ·subst h2;simp[h1]
  ·simp[h1,h2]
theorem Um (M:eE)(a b k:Int):(eI (mM M a b) k).1=if k=b then a else(eI M k).1:=by
 simp only[mM,Jp]
 by_cases h1:k=b
 ·subst h1;simp
 ·by_cases h2:k=a
  ·subst h2;simp[h1]
  ·simp[h1,h2]
theorem Ce (M:eE)(k:Int)(v:Int×Int)(j:Int):(ay (bC M k v) j).isSome=true↔j=k∨(ay M j).isSome=true:=by
 rw[kU];split<;>simp_all
theorem isSome_join (M:eE)(a b k:Int):(ay (mM M a b) k).isSome=true↔k=a∨k=b∨(ay M k).isSome=true:=by
 simp only[mM,Ce];constructor
 ·rintro(h|h|h)<;>simp[h]
 ·rintro(h|h|h)<;>simp[h]
theorem VD {M:eE}{k:Int}{v:Int×Int}(h:(ay M k).isSome=true):(bC M k v).length=M.length:=by
 have:=Jh M k v;have hk:k∈M.map (·.1):=by
  rw[←Classical.not_not (a:=k∈M.map (·.1)),←wM];intro h0;rw[h0] at h;cases h
 rw[if_pos hk] at this;simpa using congrArg List.length this
theorem ags {M:eE}{k:Int}{v:Int×Int}(h:ay M k=none):(bC M k v).length=M.length+1:=by
 have:=Jh M k v;rw[if_neg (wM.1 h)] at this;simpa using congrArg List.length this
theorem NV {M:eE}{a b:Int}(ha:(ay M a).isSome=true)(hb:(ay M b).isSome=true):(mM M a b).length=M.length:=by
 simp only[mM];rw[VD,VD ha];rw[Ce];exact .inr hb
theorem Of {M:eE}(h:(M.map (·.1)).Nodup)(a b:Int):((mM M a b).map (·.1)).Nodup:=sB (sB h _ _) _ _
def zg (M:eE)(x:Int):eE:=mM (mM (bC M x (0,0)) (eI M (-1)).1 x) x (-1)
def FN (M:eE)(x:Int):eE:=mM (bB M x) (eI M x).1 (eI M x).2
theorem tH {L:List Nat}{k:Int}:k∈L.map (fun n:Nat=>(n:Int))↔∃n∈L,k=(n:Nat):=by
 simp only[bG];constructor
 ·rintro⟨n,h,rfl⟩;exact⟨n,h,rfl⟩
 ·rintro⟨n,h,rfl⟩;exact⟨n,h,rfl⟩
theorem Oe {L:List Nat}(h:L.Nodup):(L.map fun n:Nat=>(n:Int)).Nodup:=by
 induction L with
 |nil=>simp
 |cons a l ih=>
  simp only[eQ] at h;simp only[cJ,eQ];refine⟨fun hm=>?_,ih h.2⟩;obtain⟨n,hn,e⟩:=tH.1 hm;exact h.1 (by rwa [Int.ofNat.inj e])
theorem snoc {α:Type}(x:α)(l:List α):∃P p,x::l=P++[p]:=⟨_,_,(List.dropLast_concat_getLast (List.cons_ne_nil x l)).symm⟩
theorem Ring.add {M:eE}{L:List Nat}(h:Ring M L){x:Nat}(hx:x∉L):Ring (zg M x) (L++[x]):=by
 obtain⟨P,p,hP⟩:=snoc (-1:Int) (L.map fun n:Nat=>(n:Int));have hs:CL L=P++[p,-1]:=by
  show(-1:Int)::_=_;rw[←jK,hP];simp
 have tz:fk (eI M) (P++[p,-1]):=hs▸h.ch;obtain⟨_,hp⟩:=fk.Jv (l:=P) (r:=[]) tz;have bT:(P++[p]).Nodup:=by
  rw[←hP,eQ];exact⟨fun hm=>by obtain⟨n,_,e⟩:=tH.1 hm;omega,Oe h.nd⟩
 have Nv:(x:Int)∉P++[p]:=by
  rw[←hP];intro hm
  rcases bU.1 hm with e|hm
  ·omega
  ·obtain⟨n,hn,e⟩:=tH.1 hm;exact hx (by rwa [Int.ofNat.inj e])
 have M0:p∉P:=fun hm=>by
  rw[ga] at bT;exact bT.2.2 p hm p (by simp) rfl
 have hpx:p≠x:=fun e=>Nv (by simp[e])
 have B2:(ay M p).isSome=true:=by
  rw[h.key];have:p∈(-1:Int)::L.map fun n:Nat=>(n:Int):=by rw[hP];simp
  rcases bU.1 this with e|hm
  ·exact .inl e
  ·exact .inr (tH.1 hm)
 have eS:ay M (x:Int)=none:=by
  cases hm:ay M (x:Int) with
  |none=>rfl
  |some v=>
   rcases(h.key x).1 (by rw[hm];rfl) with e|⟨n,hn,e⟩
   ·omega
   ·exact absurd (by rwa [Int.ofNat.inj e]) hx
 have zZ:∀k,(eI (zg M x) k).2=if k=(x:Int) then -1 else if k=p then(x:Int) else(eI M k).2:=fun k=>by
  simp only[zg,Ul,hp,Jp]
  by_cases h1:k=(x:Int)<;>simp[h1]
 have Ae:∀k,(eI (zg M x) k).1=if k = -1 then(x:Int) else if k=(x:Int) then p else(eI M k).1:=fun k=>by
  simp only[zg,Um,hp,Jp]
  by_cases h1:k=(x:Int)<;>simp[h1]
 have TL:∀y∈(P++[p]).tail,y≠-1∧y≠x:=fun y hy=>by
  have hm:=List.mem_of_mem_tail hy;rw[←hP] at hy;refine⟨fun e=>?_,fun e=>Nv (e▸hm)⟩;obtain⟨n,_,e'⟩:=tH.1 (show y∈L.map _ from hy);omega
 refine⟨fun k=>?_,?_,?_,?_,Of (Of (sB h.Au _ _) _ _) _ _⟩
 ·simp only[zg,isSome_join,Ce,h.key,hp,cx,jn];constructor
  ·rintro(e|e|e|e|e|e|⟨n,hn,e⟩)
   ·exact .inr ⟨x, .inr rfl,e⟩
   ·exact .inl e
   ·have:=(h.key p).1 B2
    rcases this with e'|⟨n,hn,e'⟩
    ·exact .inl (e.trans e')
    ·exact .inr ⟨n, .inl hn,e.trans e'⟩
   ·exact .inr ⟨x, .inr rfl,e⟩
   ·exact .inr ⟨x, .inr rfl,e⟩
   ·exact .inl e
   ·exact .inr ⟨n, .inl hn,e⟩
  ·rintro(e|⟨n,hn|hn,e⟩)
   ·exact .inr (.inl e)
   ·exact .inr (.inr (.inr (.inr (.inr (.inr ⟨n,hn,e⟩)))))
   ·exact .inl (hn▸e)
 ·rw[ga];exact⟨h.nd,by simp,fun a ha b hb e=>by simp at hb;subst hb;subst e;exact hx ha⟩
 ·have e:CL (L++[x])=P++p::(x:Int)::[-1]:=by
   show(-1:Int)::_=_;rw[eA,cS,←jK,hP];simp
  rw[e];refine fk.join (by rw[zZ,if_neg hpx,if_pos rfl]) (by rw[Ae,if_neg ah,if_pos rfl]) (show fk _ [(x:Int),-1] from⟨by rw[zZ,if_pos rfl],by rw[Ae,if_pos rfl],trivial⟩) ?_;have hl:fk (eI M) (P++[p]):=fk.left (r:=[-1]) (by simpa using tz);refine hl.congr (fun y hy=>?_) fun y hy=>?_
  ·rw[List.dropLast_concat] at hy;rw[zZ,if_neg (fun e=>Nv (by rw[←e];simp[hy])),if_neg (fun e=>M0 (by rw[←e];exact hy))]
  ·rw[Ae,if_neg (TL y hy).1,if_neg (TL y hy).2]
 ·have h1:(ay (bC M (x:Int) (0,0)) (x:Int)).isSome=true:=by rw[Ce];exact .inl rfl
  have h2:(ay (bC M (x:Int) (0,0)) p).isSome=true:=by rw[Ce];exact .inr B2
  rw[zg,hp,NV,NV h2 h1,ags eS,h.len]
  ·simp
  ·rw[isSome_join];exact .inr (.inl rfl)
  ·rw[isSome_join,Ce,h.key];exact .inr (.inr (.inr (.inl rfl)))
theorem agr {M:eE}{k:Int}(h:(ay M k).isSome=true):(bB M k).length+1=M.length:=by
 induction M with
 |nil=>cases h
 |cons a M ih=>
  obtain⟨a,u⟩:=a;simp only[ay] at h;simp only[bB];split
  ·simp
  ·rename_i hk
   rw[if_neg hk] at h;simpa using ih h
theorem ag5 {M:eE}(h:(M.map (·.1)).Nodup)(k:Int):((bB M k).map (·.1)).Nodup:=h.sublist ((xm M k).map _)
theorem Ring.remove {M:eE}{L1 L2:List Nat}{x:Nat}(h:Ring M (L1++x::L2)):Ring (FN M x) (L1++L2):=by
 obtain⟨P,p,hP⟩:=snoc (-1:Int) (L1.map fun n:Nat=>(n:Int));obtain⟨q,R,hR⟩:∃q R,L2.map (fun n:Nat=>(n:Int))++[-1]=q::R:=by cases L2<;>exact⟨_,_,rfl⟩
 have hs:CL (L1++x::L2)=P++p::(x:Int)::q::R:=by
  show(-1:Int)::_=_;rw[eA,cJ,cS,jK,hR,←jK,hP];simp
 have tz:fk (eI M) (P++p::(x:Int)::q::R):=hs▸h.ch;have lX:=(fk.Jv tz).2;have fh:=(fk.Jv (l:=P++[p]) (p:=(x:Int)) (q:=q) (r:=R) (by simpa using tz)).1;have bT:=h.nd;rw[ga,eQ] at bT;obtain⟨n1,⟨n2,n3⟩,n4⟩:=bT;have B3:∀y∈P++[p],y = -1∨∃n∈L1,y=(n:Nat):=fun y hy=>by
  rw[←hP] at hy
  rcases bU.1 hy with e|hm
  ·exact .inl e
  ·exact .inr (tH.1 hm)
 have B4:∀y∈q::R,y = -1∨∃n∈L2,y=(n:Nat):=fun y hy=>by
  rw[←hR] at hy
  rcases cx.1 hy with hm|e
  ·exact .inr (tH.1 hm)
  ·exact .inl (by simpa using e)
 have IL:∀y∈P++[p],y≠x:=fun y hy e=>by
  rcases B3 y hy with e'|⟨n,hn,e'⟩
  ·omega
  ·exact n4 n hn x (by simp) ah
 have IM:∀y∈q::R,y≠x:=fun y hy e=>by
  rcases B4 y hy with e'|⟨n,hn,e'⟩
  ·omega
  ·exact n2 (by rwa [show x=n by omega])
 have Tj:(P++[p]).Nodup:=by
  rw[←hP,eQ];exact⟨fun hm=>by obtain⟨n,_,e⟩:=tH.1 hm;omega,Oe n1⟩
 have adF:(q::R).Nodup:=by
  rw[←hR,ga];exact⟨Oe n3,by simp,fun a ha b hb e=>by simp at hb;obtain⟨n,_,e'⟩:=tH.1 ha;omega⟩
 have M0:p∉P:=fun hm=>by
  rw[ga] at Tj;exact Tj.2.2 p hm p (by simp) rfl
 have hqR:q∉R:=(eQ.1 adF).1
 -- inner ahy on yW left are not on yW right,and yW other way round
 have aea:∀y∈(P++[p]).tail,∃n∈L1,y=(n:Nat):=fun y hy=>by
  rw[←hP] at hy;exact tH.1 hy
 have adf:∀y∈(q::R).dropLast,∃n∈L2,y=(n:Nat):=fun y hy=>by
  rw[←hR,List.dropLast_concat] at hy;exact tH.1 hy
 have IE:∀{a b:Nat},a∈L1→b∈L2→(a:Int)≠b:=fun ha hb e=>n4 _ ha _ (fP _ hb) ah
 have B2:(ay (bB M (x:Int)) p).isSome=true:=by
  rw[iS h.Au,if_neg (IL p (by simp)),h.key]
  rcases B3 p (by simp) with e|⟨n,hn,e⟩
  ·exact .inl e
  ·exact .inr ⟨n,by simp[hn],e⟩
 have hqk:(ay (bB M (x:Int)) q).isSome=true:=by
  rw[iS h.Au,if_neg (IM q (by simp)),h.key]
  rcases B4 q (by simp) with e|⟨n,hn,e⟩
  ·exact .inl e
  ·exact .inr ⟨n,by simp[hn],e⟩
 have Ig:∀k,k≠(x:Int)→eI (bB M (x:Int)) k=eI M k:=fun k hk=>by
  unfold eI;rw[iS h.Au,if_neg hk]
 have Af:FN M x=mM (bB M (x:Int)) p q:=by rw[FN,lX,fh]
 have zZ:∀k,k≠(x:Int)→(eI (FN M x) k).2=if k=p then q else(eI M k).2:=fun k hk=>by
  rw[Af,Ul,Ig k hk]
 have Ae:∀k,k≠(x:Int)→(eI (FN M x) k).1=if k=q then p else(eI M k).1:=fun k hk=>by
  rw[Af,Um,Ig k hk]
 refine⟨fun k=>?_,?_,?_,?_,?_⟩
 ·rw[Af,isSome_join];have hk:=h.key k;constructor
  ·rintro(e|e|e)
   ·rcases B3 p (by simp) with e'|⟨n,hn,e'⟩
    ·exact .inl (e.trans e')
    ·exact .inr ⟨n,by simp[hn],e.trans e'⟩
   ·rcases B4 q (by simp) with e'|⟨n,hn,e'⟩
    ·exact .inl (e.trans e')
    ·exact .inr ⟨n,by simp[hn],e.trans e'⟩
   ·rw[iS h.Au] at e;split at e
    ·cases e
    ·rename_i np
     rcases hk.1 e with e'|⟨n,hn,e'⟩
     ·exact .inl e'
     ·refine .inr ⟨n,?_,e'⟩
      rcases cx.1 hn with hn|hn
      ·simp[hn]
      ·rcases bU.1 hn with hn|hn
       ·exact absurd (by rw[e',hn]) np
       ·simp[hn]
  ·intro e;have np:k≠(x:Int):=fun e'=>by
    rcases e with e|⟨n,hn,e⟩
    ·omega
    ·have:n=x:=by omega
     subst this
     rcases cx.1 hn with hn|hn
     ·exact n4 n hn n (by simp) rfl
     ·exact n2 hn
   refine .inr (.inr ?_);rw[iS h.Au,if_neg np,hk]
   rcases e with e|⟨n,hn,e⟩
   ·exact .inl e
   ·refine .inr ⟨n,?_,e⟩
    rcases cx.1 hn with hn|hn<;>simp[hn]
 ·rw[ga];exact⟨n1,n3,fun a ha b hb=>n4 a ha b (fP _ hb)⟩
 ·have e:CL (L1++L2)=P++p::q::R:=by
   show(-1:Int)::_=_;rw[eA,cS,hR,←jK,hP];simp
  rw[e];have hl:fk (eI M) (P++[p]):=fk.left (r:=(x:Int)::q::R) (by simpa using tz);have hr:fk (eI M) (q::R):=fk.right (l:=P++[p,(x:Int)]) (by simpa using tz);refine fk.join (by rw[zZ _ (IL p (by simp)),if_pos rfl]) (by rw[Ae _ (IM q (by simp)),if_pos rfl]) (hr.congr (fun y hy=>?_) fun y hy=>?_) (hl.congr (fun y hy=>?_) fun y hy=>?_)
  ·have hm:y∈q::R:=List.dropLast_subset _ hy;obtain⟨n,hn,e1⟩:=adf y hy;rw[zZ _ (IM y hm),if_neg];intro e2
   rcases B3 p (by simp) with e'|⟨n',o8,e'⟩
   ·omega
   ·exact IE o8 hn ah
  ·have hm:y∈q::R:=fP _ hy;rw[Ae _ (IM y hm),if_neg (fun e=>hqR (by rw[←e];exact hy))]
  ·rw[List.dropLast_concat] at hy;rw[zZ _ (IL y (by simp[hy])),if_neg (fun e=>M0 (by rw[←e];exact hy))]
  ·have hm:=List.mem_of_mem_tail hy;obtain⟨n,hn,e1⟩:=aea y hy;rw[Ae _ (IL y hm),if_neg];intro e2
   rcases B4 q (by simp) with e'|⟨n',o8,e'⟩
   ·omega
   ·exact IE hn o8 ah
 ·have eS:(ay M (x:Int)).isSome=true:=(h.key x).2 (.inr ⟨x,by simp,rfl⟩);have:=agr eS;have hl:=h.len;rw[Af,NV B2 hqk];simp only[bH,ek] at hl ⊢;omega
 ·rw[Af];exact Of (ag5 h.Au _) _ _
theorem Ring.first {M:eE}{x:Nat}{L:List Nat}(h:Ring M (x::L)):(eI M (-1)).2=x:=by
 have:=h.ch;exact this.1
end
end Go.Proofs.YtoloaehmppcjoaaGreat.V.M
