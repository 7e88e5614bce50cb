/- 13 texts, one behind the other. -/
import Derived.Test.YtdjfeninmbpflaaGreatV1
set_option linter.unusedVariables false
set_option linter.unusedSimpArgs false
set_option maxRecDepth 100000
section
namespace Go.Rx
open Go Go.Wk Go.Wl
structure CR (N:Uni) where
 ob:List Prop
 hy:List Prop
 r:SV N
 its:List (Item N)
def o8 (N:Uni) (ρ:n9) (id:Nat):Item N->List Nat
 | .fz _ _=>[]
 | .ob _ fid _=>(match ρ fid with | some L=>L.bs | none=>[])
 | _=>match ρ id with | some L=>L.bs | none=>[]
def holds (N:Uni) (T:N3) (ρ:n9) (id:Nat) (Z:Nat->Prop) (w:World):Item N->Prop
 | .own Ty cells=>∃ L cs,ρ id=some L/\L.bs=[L.b]/\Own w L.b Ty cs/\i7 N T ρ Z w cs cells
 | .ac t l=>∃ L,ρ id=some L/\L.n=l.length/\l.length<=9223372036854775807/\Ac (N.tb t).r Z w (.slice L.A L.n L.cap) l L.bs
 | .fz t l=>∃ L,ρ id=some L/\L.n=l.length/\(v8 (N.tb t).r).rd Z w [.slice L.A L.n L.cap] l
 | .ob k fid x=>∃ L Lf,ρ id=some L/\ρ fid=some Lf/\((N.oj k).ob L.b).is Z w x Lf.bs
 | .rw t n cells=>∃ L F,ρ id=some L/\L.n=n/\n<=1000000/\(0<n->L.A=some ⟨L.b,0,none⟩)/\S6 (N.tb t).r.sz w (.slice L.A n L.cap) n F L.bs/\i7 N T ρ Z w F cells
def z6 (N:Uni) (T:N3) (ρ:n9) (B0:List Nat) (id:Nat) (i:Item N):It:=⟨o8 N ρ id i,B0,fun Z w=>holds N T ρ id Z w i⟩
def o0 (N:Uni) (T:N3) (ρ:n9) (B0:List Nat) (l:i6 N):List It:=l.map fun p=>z6 N T ρ B0 p.1 p.2
def number {β:Type}:Nat->List β->List (Nat×β)
 | _,[]=>[]
 | n,x::r=>(n,x)::number (n+1) r
def q6:List Prop->Prop
 | []=>True
 | p::ps=>p/\q6 ps
structure Y2 where
 is:(Nat->Prop)->World->Prop
 stab:∀ {Z Z':Nat->Prop} {B:List Nat} {w w':World},is Z w->Ext B w w'->(∀ b∈B,Z b->w.heap.size<=b)->(∀ b,Z b->b<w.heap.size->Z' b)->is Z' w'
structure E2 (P:Program) (N:Uni) (T:N3) (G:Y2) (K:Nat) (args:List (SV N)) (nx:Nat) (c:CR N):Prop where
 run:∀ (ρ:n9) (Z:Nat->Prop) (w:World) (vs:List Value),(∀ i,nx<=i->ρ i=none)->(∀ b,Z b->b<w.heap.size)->G.is Z w->Rep N T ρ Z w (.tuple vs.toArray) (.tup args) ->
  D4 P K vs w (fun v w'=>∃ (ρ':n9) (Z':Nat->Prop),(∀ i L,ρ i=some L->ρ' i=some L)/\(∀ i,nx+c.its.length<=i->ρ' i=none)/\(∀ b,Z b->Z' b)/\(∀ b,Z' b->Z b ∨ w.heap.size<=b)/\Rep N T ρ' Z' w' v c.r/\Sep [] w Z' w' (o0 N T ρ' [] (number nx c.its))/\q6 c.hy)
structure OR (N:Uni) (k:Nat) where
 ob:List Prop
 hy:List Prop
 r:SV N
 x:N.O k
structure OC (N:Uni) where
 k:Nat
 C:N.O k->List (SV N)->Option (OR N k)
structure WR (N:Uni) where
 ob:List Prop
 hy:List Prop
 r:SV N
 x:Int
structure WC (N:Uni) where
 T:Nat
 S:Nat
 C:SV N->Int->Option (WR N)
structure Env where
 P:Program
 N:Uni
 T:N3
 ty:∀ t,Option (TyI N T t)
 zob:Nat->Option ((k:Nat)×N.O k)
 con:Nat->Option (List (SV N)->Nat->Option (CR N))
 lend:Nat->Bool
 obc:Nat->Option (OC N)
 inl:Nat->Option Func
 G:Y2
 wrc:Nat->Option (WC N)
 rws:Nat->Bool:=fun _=>false
 fnc:Nat->Option (FC N):=fun _=>none
 roc:Nat->Option (List (SV N)->i6 N->Option (Q1 N)):=fun _=>none
 yl:Option (OC N):=none
variable (E:Env)
abbrev Env.SV (E:Env):=Go.Rx.SV E.N
abbrev Env.St (E:Env):=Go.Rx.St E.N
def Env.sliceOf (t:Nat):Option Nat:=match E.P.underlying t with | some (.slice e)=>some e | _=>none
def Env.isStr (t:Nat):Bool:=match E.P.underlying t with | some .string=>true | _=>false
def Env.isBool (t:Nat):Bool:=match E.P.underlying t with | some .bool=>true | _=>false
def Env.isPtr (t:Nat):Bool:=match E.P.underlying t with | some (.pointer _)=>true | _=>false
def Env.isIface (t:Nat):Bool:=match E.P.underlying t with | some (.interface _)=>true | _=>false
def Env.intOf (t:Nat):Option IntKind:=match E.P.underlying t with | some (.int k)=>some k | _=>none
def Env.aggOf (t:Nat):Option Bool:=match E.P.underlying t with | some (.struct _)=>some true | some (.array _ _)=>some true | some _=>some false | none=>none
def Env.size (t:Nat):Option Nat:=(E.P.info? t).map (·.size)
def Env.bytes (t:Nat):Option Nat:=(E.P.info? t).map (·.bytes)
def Env.szOk (e t:Nat):Bool:=match E.size e with | some s=>Nat.beq s (E.N.tb t).r.sz | none=>false
def Env.fld (t i:Nat):Option (Nat×Nat):=match E.P.underlying t with | some (.struct fs)=>(match fs[i]? with | some f=>(match E.size f.type with | some s=>some (f.offset,s) | none=>none) | none=>none) | _=>none
def Env.flds (t:Nat):Option (List (Nat×Nat)):=match E.P.underlying t with | some (.struct fs)=>fs.toList.mapM (fun f=>(E.size f.type).map fun s=>(f.offset,s)) | _=>none
def Env.zeroV (t:Nat):Option Value:=(E.P.info? t).bind (·.zero)
def Env.zero (t:Nat):Option E.SV:=(E.zeroV t).map cst
variable {E:Env}
def O5 {N:Uni} {t t':Nat} (h:t=t') (l:List (N.U t)):List (N.U t'):=h ▸ l
def bytesOf (E:Env) (t:Nat) (l:List (E.N.U t)):Option Str:=match E.ty t with
 | some y=>match y.by8 with | some h=>some (cast (by rw [Uni.U,h.down]) l) | none=>none
 | none=>none
def ofBytes (E:Env) (t:Nat) (s:Str):Option (List (E.N.U t)):=match E.ty t with
 | some y=>match y.by8 with | some h=>some (cast (by rw [Uni.U,h.down]) s) | none=>none
 | none=>none
def asL (E:Env) (t:Nat):E.SV->Option (List (E.N.U t))
 | .nils=>some []
 | .sl t' l=>if h:t'=t then some (O5 h l) else none
 | _=>none
def nrm (its:i6 E.N):E.SV->E.SV
 | .acc id=>match lk its id with | some (.fz t l)=>.sl t l | _=>.acc id
 | v=>v
def part (E:Env) (ls:List E.SV) (off T:Nat):Option E.SV:=match E.aggOf T with
 | some true=>(match E.size T with | some n=>bif Nat.ble (off+n) ls.length then some (.agg ((ls.drop off).take n)) else none | none=>none)
 | some false=>ls[off]?
 | none=>none
def c1k (its:i6 E.N):E.SV->Option Int
 | .sl _ l=>some l.length
 | .nils=>some 0
 | .acc id=>match lk its id with | some (.ac _ l)=>some l.length | some (.rw _ n _)=>some (n:Int) | _=>none
 | .sub id _ _ n=>match lk its id with | some (.ac _ _)=>some n | _=>none
 | _=>none
def lenOf (its:i6 E.N) (T:Nat) (v:E.SV):Option Int:=bif E.isStr T then (match v with | .str s=>some s.length | _=>none) else bif (E.sliceOf T).isSome then c1k its v else none
def flat:E.SV->Bool
 | .un=>false
 | .undef=>false
 | .tup _=>false
 | _=>true
def setLeaves (E:Env):List E.SV->Nat->List E.SV->List E.SV
 | ls,_,[]=>ls
 | ls,o,v::r=>setLeaves E (ls.set o v) (o+1) r
def a9y (E:Env) (fs:List (Nat×Nat)) (f:Operand->E.SV):List (Nat×Operand)->List E.SV->Option (List E.SV)
 | [],ls=>some ls
 | p::r,ls=>match fs[p.1]? with
  | some (o,n)=>bif flat (f p.2) && Nat.beq (leaves (f p.2)).length n && Nat.ble (o+n) ls.length then a9y E fs f r (setLeaves E ls o (leaves (f p.2))) else none
  | none=>none
def isC:Operand->Bool
 | .const _=>true
 | _=>false
def a71 (E:Env) (t:Nat) (a b:E.SV):Option ((p:Prop) ×' Decidable p):=match a with
 | .int k x=>(match b with | .int k' y=>(match E.intOf t with | some _=>if k=k' then some ⟨x=y,inferInstance⟩ else none | none=>none) | _=>none)
 | .str s=>(match b with | .str u=>bif E.isStr t then some ⟨s=u,inferInstance⟩ else none | _=>none)
 | _=>none
def d6p (E:Env) (op:BinOp) (T:Nat) (ls ms:List E.SV):Option (Q1 E.N):=match E.P.underlying T with
 | some (.struct fs)=>(match fs.toList,ls,ms with
  | [f0,f1],[a0,a1],[b0,b1]=>bif !E.P.stoodInHeld T && !E.P.eqGuardType E.P.depth T && f0.name != "_" && f1.name != "_" && Nat.beq f0.offset 0 && Nat.beq f1.offset 1 then (match a71 E f0.type a0 b0,a71 E f1.type a1 b1 with
   | some ⟨p,_⟩,some ⟨q,_⟩=>(match op with | .eql=>bln (p/\q) | .neq=>bln (¬ (p/\q)) | _=>none)
   | _,_=>none) else none
  | _,_,_=>none)
 | _=>none
abbrev PD:=(p:Prop) ×' Decidable p
def b84 (E:Env) (t:Nat) (a b:E.SV):Option PD:=match a71 E t a b with
 | some r=>some r
 | none=>bif E.isBool t then (match Y7 a,Y7 b with | some ⟨p,_⟩,some ⟨q,_⟩=>some ⟨p↔q,inferInstance⟩ | _,_=>none) else none
def d07 (E:Env) (rec:Nat->E.SV->E.SV->Option PD) (ls ms:List E.SV):List Field->Option PD
 | []=>some ⟨True,inferInstance⟩
 | f::r=>bif f.name != "_" then (match part E ls f.offset f.type,part E ms f.offset f.type with
  | some a,some b=>(match rec f.type a b,d07 E rec ls ms r with
   | some ⟨p,_⟩,some ⟨q,_⟩=>some ⟨p/\q,inferInstance⟩
   | _,_=>none)
  | _,_=>none) else none
def b85 (E:Env):Nat->Nat->E.SV->E.SV->Option PD
 | 0,_,_,_=>none
 | n+1,T,a,b=>(match a,b with
  | .agg ls,.agg ms=>(match E.P.underlying T with
   | some (.struct fs)=>bif E.P.stoodInHeld T then none else d07 E (b85 E n) ls ms fs.toList
   | _=>none)
  | a,b=>b84 E T a b)
def d3v (E:Env) (op:BinOp) (T:Nat) (ls ms:List E.SV):Option (Q1 E.N):=match d6p E op T ls ms with
 | some q=>some q
 | none=>bif E.P.eqGuardType E.P.depth T then none else (match b85 E 4 T (.agg ls) (.agg ms) with
  | some ⟨p,_⟩=>(match op with | .eql=>bln p | .neq=>bln (¬ p) | _=>none)
  | none=>none)
def S4 (op:BinOp) (ob:List Prop) (z:Bool):Option (Q1 E.N) :=
 match op with
 | .eql=>some ⟨ob,[],bif z then .tt else .ff⟩
 | .neq=>some ⟨ob,[],bif z then .ff else .tt⟩
 | _=>none
def d6v (E:Env) (op:BinOp) (T:Nat) (cy:Bool) (x y:E.SV):Option (Q1 E.N) :=
 match x with
 | .int k a=>(match y with | .int k' b=>b4u op k k' a b | _=>none)
 | .byte a=>(match y with | .byte b=>I1 op a b | _=>none)
 | .str a=>(match y with | .str b=>a3h op a b | _=>none)
 | .err a=>(match y with | .err b=>(match b with | .nil=>bif cy && E.isIface T then b0j op a else none | _=>none) | _=>none)
 | .ref _ _=>(match y with | .con v=>(match v with | .pointer a=>(match a with | none=>bif E.isPtr T then a01 op false else none | _=>none) | _=>none) | _=>none)
 | .con u=>(match y with | .con v=>(match u,v with | .pointer a,.pointer b=>(match a,b with | none,none=>bif E.isPtr T then a01 op true else none | _,_=>none) | _,_=>none) | _=>none)
 | .agg ls=>(match y with | .agg ms=>d3v E op T ls ms | _=>none)
 | .nils=>(match y with | .nils=>bif (E.sliceOf T).isSome then S4 op [] true else none | _=>none)
 | .sl _ l=>(match y with | .nils=>bif (E.sliceOf T).isSome then S4 op [l≠[]] false else none | _=>none)
 | x=>bif E.isBool T then (match Y7 x,Y7 y with
  | some ⟨p,d⟩,some ⟨q,e⟩=>a23 op p q d e
  | _,_=>none) else none
def qUn (op:UnOp):E.SV->Option (Q1 E.N)
 | .tt=>match op with | .not=>q0 .ff | _=>none
 | .ff=>match op with | .not=>q0 .tt | _=>none
 | .bl p _=>match op with | .not=>bln (¬ p) | _=>none
 | .int k a=>match op,k with | .neg,.i64=>some ⟨[b9 (0-a)],[],.int .i64 (0-a)⟩ | .xor,k=>q0 (.int k (k.wrap (BitVec.ofInt k.bits (if k.signed then -1 else k.max) ^^^ BitVec.ofInt k.bits a).toNat)) | _,_=>none
 | _=>none
def a54 (i:Nat):E.SV->Option (Q1 E.N)
 | .tup vs=>match vs[i]? with | some v=>q0 v | none=>none
 | _=>none
def b6n (E:Env) (T fi:Nat):E.SV->Option (Q1 E.N)
 | .agg ls=>match E.P.underlying T with
  | some (.struct fs)=>(match fs[fi]? with | some fd=>(match part E ls fd.offset fd.type with | some v=>q0 v | none=>none) | none=>none)
  | _=>none
 | _=>none
def a1a (E:Env) (its:i6 E.N) (T:Nat) (i x:E.SV):Option (Q1 E.N):=match E.sliceOf T with
 | some e=>(match x with
  | .sl t l=>(match i with | .int _ a=>bif E.szOk e t then some ⟨[0<=a,a<l.length],[],.fel t l a 0⟩ else none | _=>none)
  | .acc id=>(match i,lk its id with | .int _ a,some (.ac t l)=>bif E.szOk e t then some ⟨[0<=a,a<l.length],[],.el id t a 0⟩ else none | .int _ a,some (.rw t n _)=>bif E.szOk e t then some ⟨[0<=a,a<(n:Int)],[],.ref id (a.toNat * (E.N.tb t).r.sz)⟩ else none | _,_=>none)
  | .sub id t lo n=>(match i,lk its id with | .int _ a,some (.ac _ _)=>bif E.szOk e t then some ⟨[0<=a,a<n],[],.el id t (lo+a) 0⟩ else none | _,_=>none)
  | _=>none)
 | none=>none
def a17 (o:Nat):E.SV->Option (Q1 E.N)
 | .ref id off=>q0 (.ref id (off+o))
 | .fel t l i off=>q0 (.fel t l i (off+o))
 | .el id t i off=>q0 (.el id t i (off+o))
 | _=>none
def qEl (E:Env) (t:Nat) (l:List (E.N.U t)) (i:Int) (off T:Nat):Option (Q1 E.N):=match E.ty t with
 | some y=>match part E (leaves (y.sv (ix l i))) off T with | some v=>some ⟨[],y.hy (ix l i),v⟩ | none=>none
 | none=>none
def b8z (its:i6 E.N) (T:Nat):E.SV->Option (Q1 E.N)
 | .ref id off=>match lk its id with
  | some (.own _ cells)=>match part E cells off T with | some v=>q0 v | none=>none
  | some (.rw _ n cells)=>bif Nat.blt 0 n then (match part E cells off T with | some v=>q0 v | none=>none) else none
  | _=>none
 | .fel t l i off=>qEl E t l i off T
 | .el id t' i off=>match lk its id with
  | some (.ac t l)=>bif Nat.beq t t' then qEl E t l i off T else none
  | _=>none
 | _=>none
def d3b:E.SV->Option (Q1 E.N)
 | .ref id off=>q0 (.ref id off)
 | .fel t l i off=>q0 (.fel t l i off)
 | _=>none
def b5w (E:Env) (T:Nat) (i:E.SV):E.SV->Option (Q1 E.N)
 | .str s=>match i with | .int _ a=>bif E.isStr T then some ⟨[0<=a,a<s.length],[],.byte (ix s a)⟩ else none | _=>none
 | _=>none
def c99 (n:Int):Option Int->Option Int->List Prop
 | none,none=>[]
 | some a,none=>[0<=a,a<=n]
 | none,some b=>[0<=b,b<=n]
 | some a,some b=>[0<=a,a<=b,b<=n]
def J6 {α:Type} (l:List α):Option Int->Option Int->List α
 | none,none=>l
 | some a,none=>l.drop a.toNat
 | none,some b=>l.take b.toNat
 | some a,some b=>(l.take b.toNat).drop a.toNat
def asI:E.SV->Option Int
 | .int k a=>match k with | .i64=>some a | _=>none
 | _=>none
def b16 (e:Operand->E.SV):Option Operand->Option (Option Int)
 | none=>some none
 | some o=>(asI (e o)).map some
def b5m (E:Env) (its:i6 E.N) (T:Nat) (lo hi:Option Int):E.SV->Option (Q1 E.N)
 | .str s=>bif E.isStr T then some ⟨c99 s.length lo hi,[],.str (J6 s lo hi)⟩ else none
 | .sl t l=>(match E.sliceOf T with | some e=>bif E.szOk e t then some ⟨c99 l.length lo hi,[],.sl t (J6 l lo hi)⟩ else none | none=>none)
 | .acc id=>(match E.sliceOf T,lk its id with | some e,some (.ac t l)=>bif E.szOk e t then some ⟨c99 l.length lo hi,[],.sub id t (lo.getD 0) (hi.getD l.length-lo.getD 0)⟩ else none | _,_=>none)
 | _=>none
def c54 (E:Env) (T:Nat) (vs:List E.SV):Option Err:=match E.T.wr T with
 | none=>none
 | some k=>match k,vs with
  | 0,[.str s,.int .i64 n]=>some (.w T s (.no n))
  | 1,[.int .i64 n]=>some (.w T [] (.no n))
  | 2,[.err (.no n)]=>some (.w T [] (.no n))
  | k+3,[]=>if k<1000 then some (.w T [] (.no k)) else none
  | _,_=>none
def a65 (E:Env) (T:Nat):E.SV->Option (Q1 E.N)
 | .agg vs=>(match E.aggOf T with
  | some true=>(match c54 E T vs with | some e=>q0 (.err e) | none=>none)
  | _=>none)
 | .int k a=>match k with | .i64=>bif Nat.beq T E.T.no && (E.intOf T).isSome then q0 (.err (.no a)) else none | _=>none
 | .ref id off=>bif E.isPtr T && (!Nat.beq T E.T.fp && (E.T.wp T).isNone) then q0 (.ifc T (.ref id off)) else none
 | _=>none
def b6v (E:Env) (e:Operand->E.SV) (T:Nat) (ps:List (Nat×Operand)):Option (Q1 E.N):=match E.zero T,E.flds T with
 | some (.agg ls),some fs=>match a9y E fs e ps ls with | some ls=>q0 (.agg ls) | none=>none
 | _,_=>none
def a5q (E:Env) (S:Nat) (t:Nat) (l:List (E.N.U t)):Option (Q1 E.N):=match E.sliceOf S with
 | some e=>(match E.intOf e with
  | some .u8=>(match bytesOf E t l with | some s=>q0 (.str s) | none=>none)
  | _=>none)
 | none=>none
def O2 (E:Env) (its:i6 E.N) (S D:Nat):E.SV->Option (Q1 E.N)
 | .byte c=>(match E.intOf S,E.intOf D with | some _,some k=>(match k with | .u8=>q0 (.byte c) | .i8=>none | k=>q0 (.int k c.toNat)) | _,_=>none)
 | .int _ a=>(match E.intOf S,E.intOf D with | some _,some k=>(match k with | .u8=>q0 (.byte (UInt8.ofInt a)) | k=>q0 (.int k (k.wrap a))) | _,_=>none)
 | .sl t l=>bif E.isStr D then a5q E S t l else none
 | .acc id=>match lk its id with
  | some (.ac t l)=>bif E.isStr D then a5q E S t l else none
  | _=>none
 | .sub id t2 lo n=>match lk its id with
  | some (.ac t l)=>bif Nat.beq t2 t && E.isStr D then a5q E S t ((l.take (lo.toNat+n.toNat)).drop lo.toNat) else none
  | _=>none
 | _=>none
def qMM (mx:Bool) (x y:E.SV):Option (Q1 E.N):=match x,y with
 | .int k a,.int k' b=>if k=k' then q0 (.int k (bif mx then max a b else min a b)) else none
 | _,_=>none
def b35 (E:Env) (its:i6 E.N) (e:Operand->E.SV) (b:Builtin) (xs:List Operand) (Ts:List Nat):Option (Q1 E.N) :=
 match b with
 | .len=>match xs,Ts with | [x],[T]=>(match lenOf its T (e x) with | some n=>q0 (.int .i64 n) | none=>none) | _,_=>none
 | .min=>match xs with | [x,y]=>qMM false (e x) (e y) | _=>none
 | .max=>match xs with | [x,y]=>qMM true (e x) (e y) | _=>none
 | _=>none
def c68 (E:Env) (its:i6 E.N) (e:Operand->E.SV) (c:Call):Option (Q1 E.N):=match c.callee with
 | .builtin b=>b35 E its e b c.args.toList c.argTypes.toList
 | _=>none
def d0z (e:Operand->E.SV) (a b:Operand):E.SV->Option (Q1 E.N)
 | .tt=>q0 (e a)
 | .ff=>q0 (e b)
 | _=>none
def d2c:E.SV->Bool
 | .ref _ _=>true
 | _=>false
def c5y (E:Env) (its:i6 E.N) (e:Operand->E.SV) (op:Op):Option (Q1 E.N):=match op with
 | .move x=>q0 (e x)
 | .assign x=>q0 (e x)
 | .pick c a b=>d0z e a b (e c)
 | .binOp op T x y _=>d6v E op T (isC y) (e x) (e y)
 | .unOp op _ x=>qUn op (e x)
 | .extract x i=>a54 i (e x)
 | .indexAddr T x i=>a1a E its T (e i) (e x)
 | .fieldAddr T x fi=>(match E.fld T fi with | some (o,n)=>bif Nat.blt 0 n then a17 o (e x) else none | none=>none)
 | .field T x fi=>b6n E T fi (e x)
 | .load T x=>b8z its T (e x)
 | .nilCheck x=>d3b (e x)
 | .index T x i=>b5w E T (e i) (e x)
 | .slice T x lo hi m=>(match m,b16 e lo,b16 e hi with | none,some a,some b=>b5m E its T a b (e x) | _,_,_=>none)
 | .makeInterface T x=>a65 E T (e x)
 | .build T ps=>b6v E e T ps.toList
 | .convert S D x=>O2 E its S D (e x)
 | .makeFunc f first caps=>(match f with | .func K=>bif Nat.beq first.size 0 && (caps.toList.map e).all d2c then q0 (.clo K (caps.toList.map e)) else none | _=>none)
 | .call c=>c68 E its e c
 | _=>none
structure S1 (N:Uni) where
 ob:List Prop
 hy:List Prop
 v:SV N
 items:i6 N
 nx:Nat
def a1g (its:i6 E.N):List E.SV->Option (List E.SV×i6 E.N)
 | []=>some ([],its)
 | v::r=>match v with
  | .acc id=>match lk its id with
   | some (.ac t l)=>match a1g (Z4 its id (.fz t l)) r with | some (r',its')=>some (.sl t l::r',its') | none=>none
   | some (.fz t l)=>match a1g its r with | some (r',its')=>some (.sl t l::r',its') | none=>none
   | _=>none
  | .ref _ _=>none
  | .el _ _ _ _=>none
  | .sub _ _ _ _=>none
  | .clo _ _=>none
  | .yld _=>none
  | .agg _=>none
  | .tup _=>none
  | v=>match a1g its r with | some (r',its')=>some (v::r',its') | none=>none
def c1j (its:i6 E.N) (v:E.SV):Option (E.SV×i6 E.N):=match v with
 | .agg vs=>match a1g its vs with | some (vs',its')=>some (.agg vs',its') | none=>none
 | v=>match a1g its [v] with | some ([v'],its')=>some (v',its') | _=>none
def frz (its:i6 E.N):List E.SV->Option (List E.SV×i6 E.N)
 | []=>some ([],its)
 | v::r=>match c1j its v with
  | some (v',its1)=>(match frz its1 r with | some (r',its2)=>some (v'::r',its2) | none=>none)
  | none=>none
def d5v (E:Env) (its:i6 E.N) (t:Nat):E.SV->Option (List (E.N.U t))
 | .acc id=>match lk its id with | some (.ac t' l)=>if h:t'=t then some (O5 h l) else none | _=>none
 | v=>asL E t v
def c65 (E:Env) {t:Nat} (y:TyI E.N E.T t) (f:Operand->E.SV):i6 E.N->List (Nat×Operand)->Option (List (E.N.U t)×i6 E.N)
 | its,[]=>some ([],its)
 | its,p::r=>match c1j its (f p.2) with
  | some (v,its1)=>bif flat v then (match y.bk v,c65 E y f its1 r with
   | some x,some (xs,its2)=>some (x::xs,its2)
   | _,_=>none) else none
  | none=>none
def b7d (its:i6 E.N) (nx T:Nat):Option (S1 E.N):=match E.zob T with
 | some ⟨k,x⟩=>some ⟨[],[],.ref nx 0,(nx,.ob k nx x)::its,nx+1⟩
 | none=>(match E.zero T with | some z=>bif flat z then some ⟨[],[],.ref nx 0,(nx,.own T (leaves z))::its,nx+1⟩ else none | none=>none)
def b79 (its:i6 E.N) (nx T:Nat):E.SV->Option (S1 E.N)
 | .ref id off=>match lk its id with
  | some (.own S cells)=>(match E.T.wp T with
   | some S'=>bif Nat.beq off 0 && Nat.beq S S' && E.isPtr T then (match cells with | [.str s,.err e]=>some ⟨[e=.no e.n0],[],.err (.p T s e.n0),rmv its id,nx⟩ | _=>none) else none
   | none=>bif Nat.beq off 0 && Nat.beq T E.T.fp && Nat.beq S E.T.fs && (E.isPtr T && !Nat.beq T 0) then (match cells with | [.int .i64 a,.int .i64 n]=>some ⟨[],[],.err (.fault a n),rmv its id,nx⟩ | _=>none) else none)
  | _=>none
 | _=>none
def d1u:List E.SV->E.SV
 | [x]=>x
 | xs=>.agg xs
def a78 (its:i6 E.N) (nx T id t:Nat) (i:Int) (off:Nat) (x:E.SV):Option (S1 E.N):=match c1j its x with
 | some (v,its')=>(match lk its' id with
  | some (.ac t' l)=>if h:t'=t then (match E.ty t with
   | some y=>bif Nat.ble (off+(E.size T).getD 0) (leaves (y.sv (ix (O5 h l) i))).length && flat v && (E.size T).isSome && Nat.beq (leaves v).length ((E.size T).getD 0) && E.szOk t t then
     (match y.bk (d1u (setLeaves E (leaves (y.sv (ix (O5 h l) i))) off (leaves v))) with
     | some x'=>some ⟨[],[],.un,Z4 its' id (.ac t ((O5 h l).set i.toNat x')),nx⟩
     | none=>none) else none
   | none=>none) else none
  | _=>none)
 | none=>none
def c45 (its:i6 E.N) (nx T:Nat) (x:E.SV):E.SV->Option (S1 E.N)
 | .ref id off=>match lk its id with
  | some (.own S cells)=>bif Nat.ble (off+(E.size T).getD 0) cells.length && flat x && (E.size T).isSome && Nat.beq (leaves x).length ((E.size T).getD 0) then some ⟨[],[],.un,Z4 its id (.own S (setLeaves E cells off (leaves x))),nx⟩ else none
  | some (.rw t n cells)=>bif Nat.blt 0 n && Nat.ble (off+(E.size T).getD 0) cells.length && flat x && (E.size T).isSome && Nat.beq (leaves x).length ((E.size T).getD 0) then some ⟨[],[],.un,Z4 its id (.rw t n (setLeaves E cells off (leaves x))),nx⟩ else none
  | _=>none
 | .el id t i off=>a78 its nx T id t i off x
 | _=>none
def a7s (E:Env) (t:Nat):Bool:=E.szOk t t && Nat.blt 0 (E.N.tb t).r.sz && (match E.bytes t with | some b=>Nat.blt 0 b | none=>false) && (match E.zeroV t with | some z=>Nat.beq z.cells.size (E.N.tb t).r.sz | none=>false)
def a2j (E:Env) (its:i6 E.N) (nx t:Nat) (xs:List (E.N.U t)):E.SV->Option (S1 E.N)
 | .nils=>bif a7s E t then some ⟨[xs.length * (E.bytes t).getD 0<=140737488355328],[],.acc nx,(nx,.ac t xs)::its,nx+1⟩ else none
 | .acc id=>match lk its id with
  | some (.ac t' l)=>if h:t'=t then (bif a7s E t then some ⟨[(l.length+xs.length) * (E.bytes t).getD 0<=140737488355328],[],.acc nx,(nx,.ac t (O5 h l++xs))::rmv its id,nx+1⟩ else none) else none
  | _=>none
 | _=>none
def c7o (E:Env) (its:i6 E.N) (nx t:Nat) (sx:E.SV):E.SV->Option (S1 E.N)
 | .str s=>match ofBytes E t s with | some xs=>a2j E its nx t xs sx | none=>none
 | _=>none
def c3j (E:Env) (its:i6 E.N) (nx t:Nat) (sy:E.SV):E.SV->Option (S1 E.N)
 | .acc id=>match lk its id with
  | some (.ac t' l)=>bif Nat.beq t' t && E.szOk t' t' then (match sy with
   | .str s=>(match ofBytes E t' s with
    | some xs=>some ⟨[],[],.int .i64 (min (xs.length:Int) l.length),Z4 its id (.ac t' (xs.take l.length++l.drop xs.length)),nx⟩
    | none=>none)
   | _=>none) else none
  | _=>none
 | _=>none
def a5k (E:Env) (its:i6 E.N) (nx:Nat) (e:Operand->E.SV) (c:Call) (ty:Nat):Option (S1 E.N):=match c.callee with
 | .builtin b=>(match b with
  | .append=>(match c.args.toList,c.argTypes.toList with
   | [x,y],[S,S']=>bif Nat.beq S S' && Nat.beq S ty then (match E.sliceOf S with
    | some t=>(match d5v E its t (e y) with | some xs=>a2j E its nx t xs (e x) | none=>none)
    | none=>none) else (bif Nat.beq S ty && E.isStr S' then (match E.sliceOf S with
    | some t=>c7o E its nx t (e x) (e y)
    | none=>none) else none)
   | _,_=>none)
  | .copy=>(match c.args.toList,c.argTypes.toList with
   | [x,y],[S,S']=>bif E.isStr S' then (match E.sliceOf S with
    | some t=>c3j E its nx t (e y) (e x)
    | none=>none) else none
   | _,_=>none)
  | _=>none)
 | _=>none
def b1c {α:Type}:Nat->List (Nat×α)->Bool
 | _,[]=>true
 | i,p::r=>Nat.beq p.1 i && b1c (i+1) r
def c97 (E:Env) (its:i6 E.N) (nx:Nat) (e:Operand->E.SV) (T len:Nat) (ps:List (Nat×Operand)):Option (S1 E.N):=match E.sliceOf T with
 | some t=>(match E.ty t with
  | some y=>bif a7s E t && b1c 0 ps && Nat.beq ps.length len && Nat.ble (len * (E.N.tb t).r.sz) 16777216 then (match c65 E y e its ps with
   | some (xs,its')=>some ⟨[],[],.acc nx,(nx,.ac t xs)::its',nx+1⟩
   | none=>none) else none
  | none=>none)
 | none=>none
def c6i (E:Env) (its:i6 E.N) (nx T:Nat) (x y:E.SV):Option (S1 E.N):=match E.sliceOf T,asI x,asI y with
 | some t,some a,some b=>(match E.ty t with
  | some y=>bif a7s E t then (match (E.zero t).bind (fun z=>bif flat z then y.bk z else none) with
   | some z=>some ⟨[0<=a,a=b,(E.bytes t).getD 0 * a<=140737488355328],[],.acc nx,(nx,.ac t (List.replicate a.toNat z))::its,nx+1⟩
   | none=>none) else none
  | none=>none)
 | _,_,_=>none
def b77 (E:Env) (its:i6 E.N) (nx S D:Nat):E.SV->Option (S1 E.N)
 | .str s=>(match E.sliceOf D with
  | some e=>bif E.isStr S then (match E.intOf e with
   | some .u8=>(match ofBytes E e s with | some l=>some ⟨[],[],.acc nx,(nx,.ac e l)::its,nx+1⟩ | none=>none)
   | _=>none) else none
  | none=>none)
 | _=>none
def c7w (e:Operand->E.SV) (sz:Nat):List (Nat×Operand)->Option (List E.SV)
 | []=>some []
 | p::r=>bif flat (e p.2) && Nat.beq (leaves (e p.2)).length sz then (match c7w e sz r with | some ls=>some (leaves (e p.2)++ls) | none=>none) else none
def b20 (E:Env) (its:i6 E.N) (nx:Nat) (e:Operand->E.SV) (T len:Nat) (ps:List (Nat×Operand)):Option (S1 E.N):=match E.sliceOf T with
 | some t=>bif E.rws t && a7s E t && b1c 0 ps && Nat.beq ps.length len && Nat.ble (len * (E.N.tb t).r.sz) 16777216 && Nat.ble len 1000000 && Nat.blt 0 len then (match c7w e (E.N.tb t).r.sz ps with
  | some ls=>some ⟨[],[],.acc nx,(nx,.rw t len ls)::its,nx+1⟩
  | none=>none) else none
 | none=>none
def b29 (E:Env) {t:Nat} (y:TyI E.N E.T t):Nat->List E.SV->i6 E.N->Option (List (E.N.U t)×i6 E.N)
 | 0,_,its=>some ([],its)
 | m+1,ls,its=>match a1g its (ls.take (E.N.tb t).r.sz) with
  | some (vs,its1)=>(match y.bk (.agg vs),b29 E y m (ls.drop (E.N.tb t).r.sz) its1 with
   | some x,some (xs,its2)=>some (x::xs,its2)
   | _,_=>none)
  | none=>none
def a5y (E:Env) (its:i6 E.N) (t id:Nat):Option (i6 E.N):=match lk its id with
 | some (.rw t' m ls)=>bif Nat.beq t' t then (match E.ty t with
  | some y=>(match b29 E y m ls its with
   | some (xs,its')=>(match lk its' id with
    | some (.rw t2 m2 _)=>bif Nat.beq t2 t && Nat.beq m2 m then some (Z4 its' id (.ac t xs)) else none
    | _=>none)
   | none=>none)
  | none=>none) else none
 | _=>none
def b7b (E:Env) (its:i6 E.N) (nx t id id2:Nat):Option (S1 E.N):=match lk its id,lk its id2 with
 | some (.rw t1 n c1),some (.rw t2 m c2)=>bif Nat.beq t1 t && Nat.beq t2 t && !Nat.beq id id2 && a7s E t && Nat.ble (n+m) 1000000 && Nat.blt 0 m then
   some ⟨[(n+m) * (E.bytes t).getD 0<=140737488355328],[],.acc nx,(nx,.rw t (n+m) (c1++c2))::rmv its id,nx+1⟩ else none
 | _,_=>none
def e0h (c:Call) (ty:Nat):Option (Operand×Operand×Nat):=match c.callee with
 | .builtin b=>(match b with
  | .append=>(match c.args.toList,c.argTypes.toList with
   | [x,y],[S,S']=>bif Nat.beq S S' && Nat.beq S ty then some (x,y,S) else none
   | _,_=>none)
  | _=>none)
 | _=>none
def b3i (E:Env) (its:i6 E.N) (nx:Nat) (e:Operand->E.SV) (c:Call) (ty:Nat):Option (S1 E.N):=match e0h c ty with
 | some (x,y,S)=>(match E.sliceOf S with
  | some t=>(match e y with
   | .acc id2=>(match lk its id2 with
    | some (.rw _ _ _)=>(match e x with
     | .acc id=>(match lk its id with
      | some (.rw _ _ _)=>b7b E its nx t id id2
      | _=>(match a5y E its t id2 with | some its'=>a5k E its' nx e c ty | none=>none))
     | _=>(match a5y E its t id2 with | some its'=>a5k E its' nx e c ty | none=>none))
    | _=>none)
   | _=>none)
  | none=>none)
 | none=>none
def a9s (E:Env) (its:i6 E.N) (nx T:Nat) (k:Int):E.SV->Option (S1 E.N)
 | .acc id=>(match E.sliceOf T,lk its id with
  | some e,some (.rw t n cells)=>bif E.szOk e t && Nat.blt 0 n then some ⟨[0<=k,k<=(n:Int)],[],.acc nx,(nx,.rw t k.toNat (cells.take (k.toNat * (E.N.tb t).r.sz)))::rmv its id,nx+1⟩ else none
  | _,_=>none)
 | _=>none
def c04 (E:Env) (its:i6 E.N) (nx:Nat) (e:Operand->E.SV) (op:Op) (ty:Nat):Option (S1 E.N):=match op with
 | .alloc T=>b7d its nx T
 | .box T x=>bif flat (e x) then some ⟨[],[],.ref nx 0,(nx,.own T (leaves (e x)))::its,nx+1⟩ else none
 | .makeInterface T x=>b79 its nx T (e x)
 | .store T a x=>c45 its nx T (e x) (e a)
 | .call c=>(match b3i E its nx e c ty with | some s=>some s | none=>a5k E its nx e c ty)
 | .buildSlice T n ps=>(match b20 E its nx e T n ps.toList with | some s=>some s | none=>c97 E its nx e T n ps.toList)
 | .slice T x lo hi m=>(match m,lo,b16 e hi with | none,none,some (some k)=>a9s E its nx T k (e x) | _,_,_=>none)
 | .makeSlice T x y=>c6i E its nx T (e x) (e y)
 | .convert S D x=>b77 E its nx S D (e x)
 | _=>none
end Go.Rx
end
section
universe u
namespace Go.Rx
open Go Go.Wk Go.Wl
def fV {N:Uni} {α:Sort u} (v:SV N) (k:SV N->α):α:=match v with
 | .un=>k .un
 | .undef=>k .undef
 | .int a b=>k (.int a b)
 | .byte a=>k (.byte a)
 | .tt=>k .tt
 | .ff=>k .ff
 | .bl p d=>k (.bl p d)
 | .str a=>k (.str a)
 | .con a=>k (.con a)
 | .nils=>k .nils
 | .sl a b=>k (.sl a b)
 | .ref a b=>k (.ref a b)
 | .acc a=>k (.acc a)
 | .el a b c d=>k (.el a b c d)
 | .fel a b c d=>k (.fel a b c d)
 | .sub a b c d=>k (.sub a b c d)
 | .agg a=>k (.agg a)
 | .tup a=>k (.tup a)
 | .err a=>k (.err a)
 | .ifc a b=>k (.ifc a b)
 | .fn a=>k (.fn a)
 | .clo a b=>k (.clo a b)
 | .yld a=>k (.yld a)
theorem b3b {N:Uni} {α:Sort u} (v:SV N) (k:SV N->α):fV v k=k v:=by cases v <;> rfl
def fVs {N:Uni} {α:Sort u}:List (SV N)->(List (SV N)->α)->α
 | [],k=>k []
 | v::r,k=>fV v fun v=>fVs r fun r=>k (v::r)
theorem c69 {N:Uni} {α:Sort u}:∀ (l:List (SV N)) (k:List (SV N)->α),fVs l k=k l
 | [],_=>rfl
 | v::r,k=>by unfold fVs; rw [b3b,c69 r]
def fN {α:Sort u} (n:Nat) (k:Nat->α):α:=match n with | 0=>k 0 | m+1=>k (m+1)
theorem b1w {α:Sort u} (n:Nat) (k:Nat->α):fN n k=k n:=by cases n <;> rfl
def fI {N:Uni} {α:Sort u} (i:Item N) (k:Item N->α):α:=match i with
 | .own T c=>fVs c fun c=>k (.own T c)
 | .ac t l=>k (.ac t l)
 | .fz t l=>k (.fz t l)
 | .ob a b c=>k (.ob a b c)
 | .rw t n c=>fVs c fun c=>k (.rw t n c)
theorem d9v {N:Uni} {α:Sort u} (i:Item N) (k:Item N->α):fI i k=k i:=by cases i <;> simp only [fI,c69]
def fIs {N:Uni} {α:Sort u}:i6 N->(i6 N->α)->α
 | [],k=>k []
 | p::r,k=>match p with | (a,i)=>fN a fun a=>fI i fun i=>fIs r fun r=>k ((a,i)::r)
theorem b5o {N:Uni} {α:Sort u}:∀ (l:i6 N) (k:i6 N->α),fIs l k=k l
 | [],_=>rfl
 | p::r,k=>by unfold fIs; simp only [b1w,d9v]; rw [b5o r]
def fS1 {N:Uni} {α:Sort u} (l:m6 N) (k:m6 N->α):α:=match l with
 | []=>k []
 | p::r=>match p with | (a,v)=>fV v fun v=>k ((a,v)::r)
theorem d3s {N:Uni} {α:Sort u} (l:m6 N) (k:m6 N->α):fS1 l k=k l:=by
 cases l with
 | nil=>rfl
 | cons p r=>unfold fS1; simp only [b3b]
def fG1 {N:Uni} {α:Sort u} (l:List (Nat×Nat×Bool×SV N)) (k:List (Nat×Nat×Bool×SV N)->α):α:=match l with
 | []=>k []
 | p::r=>match p with | (a,b,c,v)=>fV v fun v=>k ((a,b,c,v)::r)
theorem d3q {N:Uni} {α:Sort u} (l:List (Nat×Nat×Bool×SV N)) (k:List (Nat×Nat×Bool×SV N)->α):fG1 l k=k l:=by
 cases l with
 | nil=>rfl
 | cons p r=>unfold fG1; simp only [b3b]
def fSt {E:Env} {α:Sort u} (st:E.St) (k:E.St->α):α:=match st with
 | ⟨a,b,c,d⟩=>fS1 a fun a=>fG1 b fun b=>fIs c fun c=>fN d fun d=>k ⟨a,b,c,d⟩
theorem c4y {E:Env} {α:Sort u} (st:E.St) (k:E.St->α):fSt st k=k st:=by
 unfold fSt; simp only [d3s,d3q,b5o,b1w]
def nn {α:Type} (_:Nat):Option α:=none
structure e0r where
 keep:List Nat
 vars:List LV
structure Ann where
 n:Nat
 loop:Nat->Option e0r
 join:Nat->Option e0r
variable {E:Env}
def VK.den (N:Uni):VK->Type
 | .int _=>Int
 | .byte=>UInt8
 | .bool=>Bool
 | .str=>Str
 | .err=>Err
 | .sl t=>List (N.U t)
 | .acc t=>List (N.U t)
 | .val t=>N.U t
 | .nilp=>Unit
def D0 (N:Uni) (α:Type):List VK->Type
 | []=>α
 | k::r=>k.den N->D0 N α r
def chD (N:Uni) (α:Type) (ks:List VK):Nat->Type
 | 0=>α
 | n+1=>D0 N (chD N α ks n) ks
def a6x (ks:List VK):Nat->List VK
 | 0=>[]
 | n+1=>ks++a6x ks n
def tcD (N:Uni) (α:Type):List TK->Type
 | []=>α
 | .v k::r=>k.den N->tcD N α r
 | .to _::r=>tcD N α r
 | .nilp::r=>tcD N α r
def tpD (N:Uni) (α:Type):List TP->Type
 | []=>α
 | .own _ _ ks::r=>tcD N (tpD N α r) ks
 | .ob _ k::r=>N.O k->tpD N α r
def Cur (N:Uni) (α:Type):List LV->Type
 | []=>α
 | .slot _ k::r=>k.den N->Cur N α r
 | .own _ ks::r=>D0 N (Cur N α r) ks
 | .ob _ k::r=>N.O k->Cur N α r
 | .cont _ t::r=>List (N.U t)->Cur N α r
 | .chain _ n _ ks::r=>chD N (Cur N α r) ks n
 | .rows _ n _ ks::r=>D0 N (Cur N α r) (a6x ks n)
 | .tree _ ps::r=>tpD N (Cur N α r) ps
 | .alt::r=>Cur N α r
 | .unr _::r=>Cur N α r
def b3c {N:Uni}:SV N->Option Nat
 | .acc id=>some id
 | .sub id _ _ _=>some id
 | _=>none
def obN {N:Uni}:SV N->Option Nat
 | .ref id _=>some id
 | .yld id=>some id
 | _=>none
def rb1 (E:Env) (its:i6 E.N):(k:VK)->E.SV->Option (k.den E.N)
 | .int k,v=>match v with | .int k' x=>if k'=k then some x else none | _=>none
 | .byte,v=>match v with | .byte x=>some x | _=>none
 | .bool,v=>match v with | .tt=>some true | .ff=>some false | .bl p d=>some (@decide p d) | _=>none
 | .str,v=>match v with | .str x=>some x | _=>none
 | .err,v=>match v with | .err x=>some x | _=>none
 | .sl t,v=>asL E t (nrm its v)
 | .acc t,v=>match v with
  | .nils=>some []
  | .acc id=>match lk its id with | some (.ac t' l)=>if h:t'=t then some (O5 h l) else none | _=>none
  | .sub id t2 lo n=>(match lo with
   | .ofNat 0=>(match lk its id with | some (.ac t' l)=>if h:t'=t then (bif Nat.beq t2 t && a7s E t then some ((O5 h l).take n.toNat) else none) else none | _=>none)
   | _=>none)
  | _=>none
 | .val t,v=>match v with | .agg vs=>(match E.ty t with | some y=>y.bk (.agg vs) | none=>none) | _=>none
 | .nilp,v=>match v with | .con u=>(match u with | .pointer a=>(match a with | none=>some () | _=>none) | _=>none) | _=>none
def blB {N:Uni} (x:Bool):SV N:=.bl (x=true) inferInstance
def fl1 (E:Env) (nx:Nat):(k:VK)->k.den E.N->E.SV×i6 E.N×Nat
 | .int k,x=>(.int k x,[],nx)
 | .byte,x=>(.byte x,[],nx)
 | .bool,x=>(blB x,[],nx)
 | .str,x=>(.str x,[],nx)
 | .err,x=>(.err x,[],nx)
 | .sl t,x=>(.sl t x,[],nx)
 | .acc t,x=>(.acc nx,[(nx,.ac t x)],nx+1)
 | .val t,x=>(match E.ty t with | some y=>(match y.sv x with | .agg ls=>.agg ls | _=>.un) | none=>.un,[],nx)
 | .nilp,_=>(.con (.pointer none),[],nx)
def B5 (E:Env) (its:i6 E.N) {α:Type}:(ks:List VK)->List E.SV->D0 E.N α ks->Option α
 | [],[],f=>some f
 | k::r,v::vs,f=>match rb1 E its k v with | some x=>B5 E its r vs (f x) | none=>none
 | _,_,_=>none
def a8o {N:Uni}:List (SV N)->SV N
 | []=>.un
 | [v]=>v
 | _::r=>a8o r
def c7i (E:Env) (its:i6 E.N) (T:Nat) (ks:List VK) {α:Type}:(n:Nat)->E.SV->chD E.N α ks n->Option α
 | 0,v,f=>match v with | .con u=>(match u with | .pointer a=>(match a with | none=>some f | _=>none) | _=>none) | _=>none
 | n+1,v,f=>match v with
  | .ref id off=>bif Nat.beq off 0 then (match lk its id with
   | some (.own T' cells)=>bif Nat.beq T' T && Nat.beq cells.length (ks.length+1) then (match B5 E its ks (cells.take ks.length) f with
    | some g=>c7i E its T ks n (a8o cells) g
    | none=>none) else none
   | _=>none) else none
  | _=>none
def p5 (fx:m6 E.N) (st:E.St) (s:Nat):E.SV:=match lk st.slots s with | some v=>v | none=>(match lk fx s with | some v=>v | none=>.un)
def d04 {N:Uni}:SV N->Option Nat
 | .ref id _=>some id
 | _=>none
def ownN (fx:m6 E.N) (st:E.St) (s:Nat):Option Nat:=bif Nat.blt s 1000000 then d04 (p5 fx st s) else (match p5 fx st (s % 1000000) with
 | .clo _ vs=>(match vs[s / 1000000-1]? with | some v=>d04 v | none=>none)
 | _=>none)
def a0x (ids:List Nat) (j id:Nat):Bool:=match ids[j]? with | some i=>Nat.beq i id | none=>false
def c5z {N:Uni}:SV N->Bool
 | .con u=>(match u with | .pointer a=>a.isNone | _=>false)
 | _=>false
def e1m (a:List (Option Nat)) (j id:Nat):List (Option Nat):=match a[j]? with | some none=>a.set j (some id) | _=>a
def d1x {N:Uni}:List TK->List (SV N)->List (Option Nat)->List (Option Nat)
 | k::r,v::vs,a=>d1x r vs (match k,v with | .to j,.ref id _=>e1m a j id | _,_=>a)
 | _,_,a=>a
def d1g {N:Uni} (its:i6 N):List TP->Nat->List (Option Nat)->List (Option Nat)
 | [],_,a=>a
 | p::r,i,a=>d1g its r (i+1) (match p,a[i]? with
  | .own _ _ ks,some (some id)=>(match lk its id with | some (.own _ cells)=>d1x ks cells a | _=>a)
  | _,_=>a)
def d1j (fx:m6 E.N) (st:E.St):List (Nat×Nat)->List (Option Nat)->List (Option Nat)
 | [],a=>a
 | p::r,a=>d1j fx st r (match p5 fx st p.1 with | .ref id _=>e1m a p.2 id | _=>a)
def a7c:List TP->Nat->List (Nat×Nat)
 | [],_=>[]
 | p::r,i=>match p.kept with | some s=>(s,i)::a7c r (i+1) | none=>a7c r (i+1)
def V2 (fx:m6 E.N) (st:E.St) (ss:List (Nat×Nat)) (ps:List TP):List Nat:=(d1g st.items ps 0 (d1j fx st (a7c ps 0++ss) (List.replicate ps.length none))).filterMap id
def b1j (E:Env) (its:i6 E.N) (ids:List Nat) {α:Type}:(ks:List TK)->List E.SV->tcD E.N α ks->Option α
 | [],[],f=>some f
 | .v k::r,v::vs,f=>match rb1 E its k v with | some x=>b1j E its ids r vs (f x) | none=>none
 | .to j::r,v::vs,f=>match v with
  | .ref id off=>bif Nat.beq off 0 && a0x ids j id then b1j E its ids r vs f else none
  | _=>none
 | .nilp::r,v::vs,f=>bif c5z v then b1j E its ids r vs f else none
 | _,_,_=>none
def a4c (E:Env) (its:i6 E.N) (ids:List Nat) {α:Type}:(ps:List TP)->List Nat->tpD E.N α ps->Option α
 | [],[],f=>some f
 | .own _ T ks::r,id::rest,f=>match lk its id with
  | some (.own T' cells)=>bif Nat.beq T' T then (match b1j E its ids ks cells f with | some g=>a4c E its ids r rest g | none=>none) else none
  | _=>none
 | .ob _ k::r,id::rest,f=>match lk its id with
  | some (.ob k' _ x)=>if h:k'=k then a4c E its ids r rest (f (h ▸ x)) else none
  | _=>none
 | _,_,_=>none
def S7 (fx:m6 E.N) (st:E.St) (ids:List Nat):List (Nat×Nat)->Bool
 | []=>true
 | p::r=>(match p5 fx st p.1 with | .ref id off=>Nat.beq off 0 && a0x ids p.2 id | _=>false) && S7 fx st ids r
def K5 (E:Env) (fx:m6 E.N) (st:E.St) {α:Type}:(vs:List LV)->Cur E.N α vs->Option α
 | [],f=>some f
 | .slot s k::r,f=>match rb1 E st.items k (p5 fx st s) with | some x=>K5 E fx st r (f x) | none=>none
 | .own s ks::r,f=>match ownN fx st s with
  | some id=>(match lk st.items id with
   | some (.own _ cells)=>(match B5 E st.items ks cells f with | some g=>K5 E fx st r g | none=>none)
   | _=>none)
  | none=>none
 | .ob s k::r,f=>match obN (p5 fx st s) with
  | some id=>(match lk st.items id with
   | some (.ob k' _ x)=>if h:k'=k then K5 E fx st r (f (h ▸ x)) else none
   | _=>none)
  | none=>none
 | .cont s t::r,f=>match b3c (p5 fx st s) with
  | some id=>(match lk st.items id with
   | some (.ac t' l)=>if h:t'=t then K5 E fx st r (f (O5 h l)) else none
   | _=>none)
  | none=>none
 | .chain s n T ks::r,f=>match c7i E st.items T ks n (p5 fx st s) f with | some g=>K5 E fx st r g | none=>none
 | .rows s n t ks::r,f=>match p5 fx st s with
  | .acc id=>(match lk st.items id with
   | some (.rw t' n' cells)=>bif Nat.beq t' t && Nat.beq n' n then (match B5 E st.items (a6x ks n) cells f with | some g=>K5 E fx st r g | none=>none) else none
   | _=>none)
  | _=>none
 | .tree ss ps::r,f=>bif S7 fx st (V2 fx st ss ps) (a7c ps 0++ss) then (match a4c E st.items (V2 fx st ss ps) ps (V2 fx st ss ps) f with | some g=>K5 E fx st r g | none=>none) else none
 | .alt::_,_=>none
 | .unr _::_,_=>none
def T8 (E:Env) {α:Type}:(ks:List VK)->Nat->i6 E.N->List E.SV->D0 E.N α ks->(α->Nat->i6 E.N->List E.SV->Prop)->Prop
 | [],nx,its,acc,f,K=>K f nx its acc
 | k::r,nx,its,acc,f,K=>∀ x:k.den E.N,T8 E r (fl1 E nx k x).2.2 ((fl1 E nx k x).2.1++its) (acc++[(fl1 E nx k x).1]) (f x) K
def c51 (E:Env) (T:Nat) (ks:List VK) {α:Type}:(n:Nat)->Nat->i6 E.N->chD E.N α ks n->(α->Nat->i6 E.N->E.SV->Prop)->Prop
 | 0,nx,its,f,K=>K f nx its (.con (.pointer none))
 | n+1,nx,its,f,K=>T8 E ks (nx+1) its [] f (fun g nx1 its1 cs=>c51 E T ks n nx1 its1 g (fun a nx2 its2 link=>K a nx2 ((nx,.own T (cs++[link]))::its2) (.ref nx 0)))
def b1f (fx:m6 E.N) (st:E.St) (p:TP):Nat:=match p.kept with
 | none=>0
 | some s=>(match p5 fx st s with | .ref id _=>id+1 | _=>0)
def U2 (fx:m6 E.N) (st:E.St) (ps:List TP):List Nat:=ps.map (b1f fx st)
def tnm (b:Nat):Nat->List Nat->List Nat
 | _,[]=>[]
 | i,r::l=>(bif Nat.beq r 0 then b+i else r-1)::tnm b (i+1) l
def a3x (E:Env) (nm:List Nat) {α:Type}:(ks:List TK)->Nat->i6 E.N->List E.SV->tcD E.N α ks->(α->Nat->i6 E.N->List E.SV->Prop)->Prop
 | [],nx,its,acc,f,K=>K f nx its acc
 | .v k::r,nx,its,acc,f,K=>∀ x:k.den E.N,a3x E nm r (fl1 E nx k x).2.2 ((fl1 E nx k x).2.1++its) (acc++[(fl1 E nx k x).1]) (f x) K
 | .to j::r,nx,its,acc,f,K=>a3x E nm r nx its (acc++[.ref (nm.getD j 0) 0]) f K
 | .nilp::r,nx,its,acc,f,K=>a3x E nm r nx its (acc++[.con (.pointer none)]) f K
def a7i (E:Env) (nm:List Nat) {α:Type}:(ps:List TP)->Nat->Nat->i6 E.N->tpD E.N α ps->(α->Nat->i6 E.N->Prop)->Prop
 | [],_,nx,its,f,K=>K f nx its
 | .own _ T ks::r,i,nx,its,f,K=>a3x E nm ks nx its [] f (fun g nx1 its1 cs=>a7i E nm r (i+1) nx1 ((nm.getD i 0,.own T cs)::its1) g K)
 | .ob _ k::r,i,nx,its,f,K=>∀ x:E.N.O k,a7i E nm r (i+1) (nx+1) ((nm.getD i 0,.ob k nx x)::its) (f x) K
def H8 (E:Env) (fx:m6 E.N) (st:E.St) {α:Type}:(vs:List LV)->Cur E.N α vs->E.St->(α->E.St->Prop)->Prop
 | [],f,new,K=>K f new
 | .slot s k::r,f,new,K=>∀ x:k.den E.N,H8 E fx st r (f x) ⟨(s,(fl1 E new.nx k x).1)::new.slots,[],(fl1 E new.nx k x).2.1++new.items,(fl1 E new.nx k x).2.2⟩ K
 | .own s ks::r,f,new,K=>match ownN fx st s with
  | some id=>(match lk st.items id with
   | some (.own T _)=>T8 E ks new.nx new.items [] f (fun g nx its cs=>H8 E fx st r g ⟨new.slots,[],(id,.own T cs)::its,nx⟩ K)
   | _=>False)
  | none=>False
 | .ob s k::r,f,new,K=>match obN (p5 fx st s) with
  | some id=>∀ x:E.N.O k,H8 E fx st r (f x) ⟨new.slots,[],(id,.ob k new.nx x)::new.items,new.nx+1⟩ K
  | none=>False
 | .cont s t::r,f,new,K=>match b3c (p5 fx st s) with
  | some id=>∀ x:List (E.N.U t),H8 E fx st r (f x) ⟨new.slots,[],(id,.ac t x)::new.items,new.nx⟩ K
  | none=>False
 | .chain s n T ks::r,f,new,K=>c51 E T ks n new.nx new.items f (fun g nx its v=>H8 E fx st r g ⟨(s,v)::new.slots,[],its,nx⟩ K)
 | .rows s n t ks::r,f,new,K=>bif Nat.ble n 1000000 then T8 E (a6x ks n) (new.nx+1) new.items [] f (fun g nx its cs=>H8 E fx st r g ⟨(s,.acc new.nx)::new.slots,[],(new.nx,.rw t n cs)::its,nx⟩ K) else False
 | .tree ss ps::r,f,new,K=>a7i E (tnm new.nx 0 (U2 fx st ps)) ps 0 (new.nx+ps.length) new.items f (fun g nx its=>H8 E fx st r g ⟨(ss.map fun p=>(p.1,.ref ((tnm new.nx 0 (U2 fx st ps)).getD p.2 0) 0))++new.slots,[],its,nx⟩ K)
 | .alt::_,_,_,_=>False
 | .unr _::_,_,_,_=>False
def K7 {N:Uni} (k:VK) (v:SV N):List Nat:=match k,v with
 | .acc _,.acc id=>[id]
 | .acc _,.sub id _ _ _=>[id]
 | _,_=>[]
def F8 {N:Uni}:VK×SV N->Option Nat
 | (.acc _,.acc id)=>some id
 | (.acc _,.sub id _ _ _)=>some id
 | _=>none
def a55 {N:Uni} (its:i6 N) (ks:List VK):Nat->SV N->List Nat
 | 0,_=>[]
 | n+1,v=>match v with
  | .ref id _=>id::(match lk its id with
   | some (.own _ cells)=>(ks.zip (cells.take ks.length)).filterMap F8++a55 its ks n (a8o cells)
   | _=>[])
  | _=>[]
def a3y {N:Uni}:List TK->List (SV N)->List Nat
 | .v k::r,v::vs=>K7 k v++a3y r vs
 | .to _::r,_::vs=>a3y r vs
 | .nilp::r,_::vs=>a3y r vs
 | _,_=>[]
def a45 {N:Uni} (its:i6 N):List TP->List Nat->List Nat
 | .own _ _ ks::r,id::rest=>(id::(match lk its id with | some (.own _ cells)=>a3y ks cells | _=>[]))++a45 its r rest
 | .ob _ _::r,id::rest=>id::a45 its r rest
 | _,_=>[]
def a1b (E:Env) (fx:m6 E.N) (st:E.St):LV->List Nat
 | .slot s k=>K7 k (p5 fx st s)
 | .own s ks=>match ownN fx st s with
  | some id=>id::(match lk st.items id with
   | some (.own _ cells)=>(ks.zip cells).filterMap F8
   | _=>[])
  | none=>[]
 | .ob s _=>match obN (p5 fx st s) with | some id=>[id] | none=>[]
 | .cont s _=>match b3c (p5 fx st s) with | some id=>[id] | none=>[]
 | .chain s n _ ks=>a55 st.items ks n (p5 fx st s)
 | .rows s n _ ks=>match p5 fx st s with
  | .acc id=>id::(match lk st.items id with
   | some (.rw _ _ cells)=>((a6x ks n).zip cells).filterMap F8
   | _=>[])
  | _=>[]
 | .tree ss ps=>a45 st.items ps (V2 fx st ss ps)
 | .alt=>[]
 | .unr _=>[]
def s8 (E:Env) (fx:m6 E.N) (st:E.St) (vs:List LV):List Nat:=vs.flatMap (a1b E fx st)
def J8 (E:Env) (fx:m6 E.N) (st:E.St):LV->List Nat
 | .slot _ _=>[]
 | .own s _=>match ownN fx st s with
  | some id=>(match lk st.items id with | some (.own T _)=>[id,T] | _=>[id])
  | none=>[]
 | .ob s _=>match obN (p5 fx st s) with | some id=>[id] | none=>[]
 | .cont s _=>match b3c (p5 fx st s) with | some id=>[id] | none=>[]
 | .chain _ _ _ _=>[]
 | .rows _ _ _ _=>[]
 | .tree _ ps=>U2 fx st ps
 | .alt=>[]
 | .unr _=>[]
def A4 (E:Env) (fx:m6 E.N) (st:E.St) (vs:List LV):List Nat:=vs.flatMap (J8 E fx st)
def eqL:List Nat->List Nat->Bool
 | [],[]=>true
 | a::r,b::s=>Nat.beq a b && eqL r s
 | _,_=>false
def a1w {N:Uni} {α β γ:Type} (g:α->β->γ):(ks:List VK)->D0 N α ks->D0 N β ks->D0 N γ ks
 | [],a,b=>g a b
 | _::r,a,b=>fun x=>a1w g r (a x) (b x)
def d0q {N:Uni} {α β γ:Type} (g:α->β->γ) (ks:List VK):(n:Nat)->chD N α ks n->chD N β ks n->chD N γ ks n
 | 0,a,b=>g a b
 | n+1,a,b=>a1w (d0q g ks n) ks a b
def b9b {N:Uni} {α β γ:Type} (g:α->β->γ):(ks:List TK)->tcD N α ks->tcD N β ks->tcD N γ ks
 | [],a,b=>g a b
 | .v _::r,a,b=>fun x=>b9b g r (a x) (b x)
 | .to _::r,a,b=>b9b g r a b
 | .nilp::r,a,b=>b9b g r a b
def c6o {N:Uni} {α β γ:Type} (g:α->β->γ):(ps:List TP)->tpD N α ps->tpD N β ps->tpD N γ ps
 | [],a,b=>g a b
 | .own _ _ ks::r,a,b=>b9b (c6o g r) ks a b
 | .ob _ _::r,a,b=>fun x=>c6o g r (a x) (b x)
def W9 {N:Uni} {α β:Type}:(vs:List LV)->Cur N α vs->Cur N β vs->Cur N (α×β) vs
 | [],a,b=>(a,b)
 | .slot _ _::r,a,b=>fun x=>W9 r (a x) (b x)
 | .own _ ks::r,a,b=>a1w (W9 r) ks a b
 | .ob _ _::r,a,b=>fun x=>W9 r (a x) (b x)
 | .cont _ _::r,a,b=>fun x=>W9 r (a x) (b x)
 | .chain _ n _ ks::r,a,b=>d0q (W9 r) ks n a b
 | .rows _ n _ ks::r,a,b=>a1w (W9 r) (a6x ks n) a b
 | .tree _ ps::r,a,b=>c6o (W9 r) ps a b
 | .alt::r,a,b=>W9 r a b
 | .unr _::r,a,b=>W9 r a b
def distinct:List Nat->Bool
 | []=>true
 | i::r=>!r.elem i && distinct r
structure Ks (E:Env) where
 n:E.St->Prop
 r:E.St->Prop
 e:List (Nat×(E.St->Prop))
def n8 (fx:m6 E.N) (st:E.St) (ks:List Nat):m6 E.N:=ks.map fun s=>(s,p5 fx st s)
def back (ks:m6 E.N) (is:i6 E.N) (k:E.St->Prop):E.St->Prop:=fun st=>k ⟨st.slots++ks,[],st.items++is,st.nx⟩
def Z6 (ks:m6 E.N) (is:i6 E.N) (K:Ks E) (n:E.St->Prop):Ks E:=⟨n,back ks is K.r,K.e.map fun p=>(p.1,back ks is p.2)⟩
def l6 (its:i6 E.N) (ids:List Nat):i6 E.N:=its.filter fun p=>!ids.elem p.1
def within (its:i6 E.N) (ids:List Nat):i6 E.N:=its.filter fun p=>ids.elem p.1
def chain (gs:List (Nat×Nat×Bool×E.SV)):Nat->Nat->Bool->List (Nat×Bool)
 | 0,_,_=>[]
 | n+1,j,w=>(j,w)::(match lk gs j with | some (j',w',_)=>chain gs n j' w' | none=>[])
def c78 (ch:List (Nat×Bool)) (j:Nat) (w:Bool):Bool:=ch.any fun p=>Nat.beq p.1 j && (p.2 == w)
def evS (fx:m6 E.N) (lkd:i6 E.N) (st:E.St) (ch:List (Nat×Bool)):Operand->E.SV
 | .tmp t=>match lk st.gs t with
  | some (j,w,v)=>bif c78 ch j w then nrm (st.items++lkd) v else .un
  | none=>nrm (st.items++lkd) (p5 fx st t)
 | .const v=>cst v
 | .global g=>.con (.pointer (some ⟨g,0,none⟩))
 | .func K=>.fn K
def b1k (fx:m6 E.N) (st:E.St):Nat->Nat->Bool->Option ((p:Prop) ×' Decidable p)
 | 0,_,_=>none
 | n+1,j,w=>match lk st.gs j with
  | some (j',w',v)=>(match Y7 v,b1k fx st n j' w' with
   | some ⟨p,d⟩,some ⟨q,e⟩=>bif w then some ⟨q/\p,inferInstance⟩ else some ⟨q/\¬ p,inferInstance⟩
   | _,_=>none)
  | none=>(match Y7 (p5 fx st j) with
   | some ⟨p,d⟩=>bif w then some ⟨p,d⟩ else some ⟨¬ p,inferInstance⟩
   | none=>none)
def put (st:E.St) (d:Option Nat) (v:E.SV):E.St:=match d with | some d=>⟨(d,v)::st.slots,st.gs,st.items,st.nx⟩ | none=>st
def free (n:Nat) (fx:m6 E.N) (st:E.St):Option Nat->Bool
 | none=>true
 | some d=>Nat.blt d n && (lk fx d).isNone && (lk st.gs d).isNone && st.gs.all fun p=>!Nat.beq p.2.1 d
def N5 (fx:m6 E.N) (lkd:i6 E.N) (st:E.St) (ch:List (Nat×Bool)) (c a b:Operand):Option E.SV :=
 match c with
 | .tmp j=>match Y7 (evS fx lkd st ch c) with
  | some ⟨p,d⟩=>(match a,b with
   | .tmp t,.const (.bool false)=>(match lk st.gs t with
    | some (j',w,v)=>bif Nat.beq j j' && w then (match Y7 v with | some ⟨q,e⟩=>some (.bl (p/\q) inferInstance) | none=>none) else none
    | none=>none)
   | .const (.bool true),.tmp t=>(match lk st.gs t with
    | some (j',w,v)=>bif Nat.beq j j' && !w then (match Y7 v with | some ⟨q,e⟩=>some (.bl (p ∨ q) inferInstance) | none=>none) else none
    | none=>none)
   | _,_=>none)
  | none=>none
 | _=>none
def d9e (fx:m6 E.N) (lkd:i6 E.N) (st:E.St) (ch:List (Nat×Bool)):Op->Option E.SV
 | .pick c a b=>N5 fx lkd st ch c a b
 | _=>none
def stepG (fx:m6 E.N) (lkd:i6 E.N) (st:E.St) (ch:List (Nat×Bool)) (op:Op):Option (Q1 E.N) :=
 match d9e fx lkd st ch op with
 | some v=>q0 v
 | none=>c5y E (st.items++lkd) (evS fx lkd st ch) op
def callee (e:Operand->E.SV) (c:Call):Option (Nat×List E.SV) :=
 match c.callee with
 | .value f=>(match e f with
  | .fn K=>some (K,c.args.toList.map e)
  | .clo K cs=>some (K,c.args.toList.map e++cs)
  | _=>none)
 | _=>none
def b15 (e:Operand->E.SV) (c:Call):Option (Nat×List E.SV) :=
 match c.callee with
 | .value f=>(match e f with
  | .yld id=>some (id,c.args.toList.map e)
  | _=>none)
 | _=>none
def a7x (its:i6 E.N):E.SV->E.SV
 | .acc id=>match lk its id with | some (.ac t l)=>.sl t l | _=>.acc id
 | .sub id t lo n=>match lk its id with | some (.ac t' l)=>bif Nat.beq t t' then .sl t' ((l.take (lo.toNat+n.toNat)).drop lo.toNat) else .sub id t lo n | _=>.sub id t lo n
 | v=>v
def V3 (its:i6 E.N):E.SV->E.SV
 | .agg vs=>.agg (vs.map (a7x its))
 | v=>a7x its v
def B3 {N:Uni}:SV N->Bool
 | .int _ _=>true
 | .byte _=>true
 | .tt=>true
 | .ff=>true
 | .bl _ _=>true
 | .str _=>true
 | .con _=>true
 | .nils=>true
 | .sl _ _=>true
 | .err _=>true
 | .fn _=>true
 | .fel _ _ _ _=>true
 | .agg vs=>vs.all fun v=>match v with
  | .int _ _=>true
  | .byte _=>true
  | .tt=>true
  | .ff=>true
  | .bl _ _=>true
  | .str _=>true
  | .con _=>true
  | .nils=>true
  | .sl _ _=>true
  | .err _=>true
  | _=>false
 | _=>false
def inn (st:E.St) (ids:List Nat):E.St:=⟨st.slots,[],within st.items ids,st.nx⟩
def b4d (E:Env) (fx:m6 E.N) (st:E.St) (fx':m6 E.N) (st':E.St) (vs:List LV):Bool:=distinct (s8 E fx' st' vs) && eqL (A4 E fx' st' vs) (A4 E fx st vs)
def X1 {N:Uni} {α:Type} (a:α):(ks:List VK)->D0 N α ks
 | []=>a
 | _::r=>fun _=>X1 a r
def b9z {N:Uni} {α:Type} (a:α) (ks:List VK):(n:Nat)->chD N α ks n
 | 0=>a
 | n+1=>X1 (b9z a ks n) ks
def a4g {N:Uni} {α:Type} (a:α):(ks:List TK)->tcD N α ks
 | []=>a
 | .v _::r=>fun _=>a4g a r
 | .to _::r=>a4g a r
 | .nilp::r=>a4g a r
def a9x {N:Uni} {α:Type} (a:α):(ps:List TP)->tpD N α ps
 | []=>a
 | .own _ _ ks::r=>a4g (a9x a r) ks
 | .ob _ _::r=>fun _=>a9x a r
def P6 {N:Uni} {α:Type} (a:α):(vs:List LV)->Cur N α vs
 | []=>a
 | .slot _ _::r=>fun _=>P6 a r
 | .own _ ks::r=>X1 (P6 a r) ks
 | .ob _ _::r=>fun _=>P6 a r
 | .cont _ _::r=>fun _=>P6 a r
 | .chain _ n _ ks::r=>b9z (P6 a r) ks n
 | .rows _ n _ ks::r=>X1 (P6 a r) (a6x ks n)
 | .tree _ ps::r=>a9x (P6 a r) ps
 | .alt::r=>P6 a r
 | .unr _::r=>P6 a r
def b2k (E:Env) (nm:List Nat) {α:Type}:(ks:List TK)->Nat->i6 E.N->List E.SV->(Nat->i6 E.N->List E.SV->α)->tcD E.N α ks
 | [],nx,its,acc,K=>K nx its acc
 | .v k::r,nx,its,acc,K=>fun x=>b2k E nm r (fl1 E nx k x).2.2 ((fl1 E nx k x).2.1++its) (acc++[(fl1 E nx k x).1]) K
 | .to j::r,nx,its,acc,K=>b2k E nm r nx its (acc++[.ref (nm.getD j 0) 0]) K
 | .nilp::r,nx,its,acc,K=>b2k E nm r nx its (acc++[.con (.pointer none)]) K
def b8r (E:Env) (nm:List Nat) {α:Type}:(ps:List TP)->Nat->Nat->i6 E.N->(Nat->i6 E.N->α)->tpD E.N α ps
 | [],_,nx,its,K=>K nx its
 | .own _ T ks::r,i,nx,its,K=>b2k E nm ks nx its [] (fun nx1 its1 cs=>b8r E nm r (i+1) nx1 ((nm.getD i 0,.own T cs)::its1) K)
 | .ob _ k::r,i,nx,its,K=>fun x=>b8r E nm r (i+1) (nx+1) ((nm.getD i 0,.ob k nx x)::its) K
def c5s (E:Env) (fx:m6 E.N) (st:E.St) {α:Type}:(vs:List LV)->E.St->(E.St->α)->Cur E.N α vs
 | [],new,K=>K new
 | .slot s k::r,new,K=>fun x=>c5s E fx st r ⟨(s,(fl1 E new.nx k x).1)::new.slots,[],(fl1 E new.nx k x).2.1++new.items,(fl1 E new.nx k x).2.2⟩ K
 | .tree ss ps::r,new,K=>b8r E (tnm new.nx 0 (U2 fx st ps)) ps 0 (new.nx+ps.length) new.items (fun nx its=>c5s E fx st r ⟨(ss.map fun p=>(p.1,.ref ((tnm new.nx 0 (U2 fx st ps)).getD p.2 0) 0))++new.slots,[],its,nx⟩ K)
 | v::r,new,K=>P6 (K new) (v::r)
def a7n:List LV->Bool
 | []=>true
 | .slot _ _::r=>a7n r
 | .tree _ _::r=>a7n r
 | _=>false
def R8 (E:Env) (st:E.St):Nat->Nat->List E.SV
 | 0,_=>[]
 | n+1,i=>p5 [] st i::R8 E st n (i+1)
def b2r (E:Env) (st:E.St):List (List LV)->Option E.St
 | []=>none
 | vs::r=>bif a7n vs && b4d E [] st [] (inn st (s8 E [] st vs)) vs then (match K5 E [] (inn st (s8 E [] st vs)) vs (c5s E [] st vs ⟨[],[],[],st.nx⟩ id) with
  | some new=>some ⟨new.slots,[],new.items++l6 st.items (s8 E [] st vs),new.nx⟩
  | none=>b2r E st r) else b2r E st r
def b37 (its:i6 E.N):List Nat->List E.SV->Option (List E.SV×i6 E.N)
 | [],args=>some (args,its)
 | i::r,args=>match args[i]? with
  | some v=>(match c1j its v with | some (v',its')=>b37 its' r (args.set i v') | none=>none)
  | none=>none
def a98 (o:FC E.N) (args:List E.SV) (its:i6 E.N) (nx:Nat):Option (List E.SV×i6 E.N×Nat):=match b37 its o.fz args with
 | some (a,i)=>bif o.ss.isEmpty then some (a,i,nx) else (match b2r E ⟨number 0 a,[],i,nx⟩ o.ss with | some new=>some (R8 E new a.length 0,new.items,new.nx) | none=>none)
 | none=>none
def d1p (C:List E.SV->i6 E.N->Option (FR E.N)) (args:List E.SV) (its:i6 E.N) (nx:Nat) (ids:List Nat):Option (S1 E.N):=bif distinct ids then
  (match a7h (X0 (B6 its ids) 0) args,c19 its (X0 (B6 its ids) 0) 0 ids with
  | some a',some i'=>(match C a' i' with
   | some r=>(match c2t (a44 (B6 its ids) nx) r.v,a82 (a44 (B6 its ids) nx) r.its with
    | some v,some it=>some ⟨r.ob,r.hy,v,it++l6 its ids,nx+(r.n-(B6 its ids).length)⟩
    | _,_=>none)
   | none=>none)
  | _,_=>none) else none
def b8w (o:FC E.N) (args:List E.SV) (its:i6 E.N) (nx:Nat):Option (S1 E.N):=match a98 o args its nx with
 | some (a,i,m)=>d1p o.C a i m (reach i 60 (a.flatMap a63) [])
 | none=>none
abbrev Inl (E:Env):=Nat->List E.SV->i6 E.N->i6 E.N->Nat->(E.SV->i6 E.N->Nat->Prop)->Prop
def c7n (K:Nat) (st:E.St) (args:List E.SV) (its:i6 E.N) (d:Option Nat) (k:E.St->Prop):Prop :=
 match E.con K with
 | some C=>(match C args st.nx with
  | some r=>bif args.all B3 then cj r.ob (im r.hy (k (put ⟨st.slots,st.gs,number st.nx r.its++its,st.nx+r.its.length⟩ d r.r))) else False
  | none=>False)
 | none=>False
def c6t (K:Nat) (st:E.St) (args:List E.SV) (d:Option Nat) (k:E.St->Prop):Prop :=
 match E.con K with
 | some C=>(match C args st.nx with
  | some r=>bif r.its.isEmpty && args.all B3 then cj r.ob (im r.hy (k (put st d r.r))) else False
  | none=>False)
 | none=>False
def c64 (o:OC E.N) (its:i6 E.N) (st:E.St) (d:Option Nat) (k:E.St->Prop):List E.SV->Prop
 | v::args=>(match v with
  | .ref id off=>bif Nat.beq off 0 && (args.map (V3 its)).all B3 then (match lk st.items id with
   | some (.ob k' _ x)=>if h:k'=o.k then (match o.C (h ▸ x) (args.map (V3 its)) with
    | some r=>cj r.ob (im r.hy (k (put ⟨st.slots,st.gs,Z4 st.items id (.ob o.k st.nx r.x),st.nx+1⟩ d r.r)))
    | none=>False) else False
   | _=>False) else False
  | _=>False)
 | []=>False
def d1t (o:WC E.N) (its:i6 E.N) (st:E.St) (d:Option Nat) (k:E.St->Prop):List E.SV->Prop
 | [v0,.ifc T (.ref id off)]=>bif Nat.beq off 0 && Nat.beq T o.T && B3 (V3 its v0) then (match lk st.items id with
  | some (.own S [.int .i64 x])=>bif Nat.beq S o.S then (match o.C (V3 its v0) x with
   | some r=>cj r.ob (im r.hy (k (put ⟨st.slots,st.gs,Z4 st.items id (.own S [.int .i64 r.x]),st.nx⟩ d r.r)))
   | none=>False) else False
  | _=>False) else False
 | _=>False
def d2g (o:OC E.N) (its:i6 E.N) (st:E.St) (d:Option Nat) (k:E.St->Prop) (id:Nat) (args:List E.SV):Prop :=
 bif d.isSome && (args.map (V3 its)).all B3 then (match lk st.items id with
   | some (.ob k' _ x)=>if h:k'=o.k then (match o.C (h ▸ x) (args.map (V3 its)) with
    | some r=>cj r.ob (im r.hy (k (put ⟨st.slots,st.gs,Z4 st.items id (.ob o.k st.nx r.x),st.nx+1⟩ d r.r)))
    | none=>False) else False
   | _=>False) else False
def a5b (inl:Inl E) (fx:m6 E.N) (lkd:i6 E.N) (st:E.St) (ch:List (Nat×Bool)) (d:Option Nat) (c:Call) (k:E.St->Prop):Prop :=
 match callee (evS fx lkd st ch) c with
 | none=>(match b15 (evS fx lkd st ch) c,E.yl with
  | some (id,args),some o=>d2g o (st.items++lkd) st d k id args
  | _,_=>False)
 | some (K,args)=>match E.con K with
  | some _=>bif E.lend K then c6t K st (args.map (V3 (st.items++lkd))) d k
     else (match frz st.items args with | some (args',its)=>c7n K st args' its d k | none=>False)
  | none=>(match E.obc K with
   | some o=>c64 o (st.items++lkd) st d k args
   | none=>(match E.wrc K with
   | some o=>d1t o (st.items++lkd) st d k args
   | none=>(match (E.fnc K).bind (fun o=>b8w o args st.items st.nx) with
   | some s=>cj s.ob (im s.hy (k (put ⟨st.slots,st.gs,s.items,s.nx⟩ d s.v)))
   | none=>inl K args st.items lkd st.nx (fun v its nx=>k (put ⟨st.slots,st.gs,its,nx⟩ d v)))))
def a1h:Op->Option Call
 | .call c=>some c
 | _=>none
def okD:Op->Option Nat->Bool
 | .store _ _ _,d=>d.isNone
 | _,d=>d.isSome
def c74 (lkd:i6 E.N) (st:E.St) (K:Nat) (args:List E.SV):Option (Q1 E.N) :=
 bif E.lend K then (match E.con K with
  | some C=>(match C (args.map (V3 (st.items++lkd))) st.nx with
   | some r=>bif r.its.isEmpty && (args.map (V3 (st.items++lkd))).all B3 then some ⟨r.ob,r.hy,r.r⟩ else none
   | none=>none)
  | none=>none) else none
def b54 (lkd:i6 E.N) (st:E.St) (K:Nat) (args:List E.SV):Option (Q1 E.N) :=
 match c74 lkd st K args with
 | some a=>some a
 | none=>(match E.roc K with
  | some C=>C args (st.items++lkd)
  | none=>none)
def a8f (fx:m6 E.N) (lkd:i6 E.N) (st:E.St) (ch:List (Nat×Bool)) (c:Call):Option (Q1 E.N) :=
 match callee (evS fx lkd st ch) c with
 | some (K,args)=>b54 lkd st K args
 | none=>none
def b5g (q:Bool) (inl:Inl E) (fx:m6 E.N) (lkd:i6 E.N) (st:E.St) (d:Option Nat) (op:Op) (ty:Nat) (k:E.St->Prop):Prop :=
 match stepG fx lkd st [] op with
 | some a=>bif d.isSome then cj a.ob (im a.hy (k (put st d a.v))) else False
 | none=>bif q then False else (match c04 E st.items st.nx (evS fx lkd st []) op ty with
  | some s=>bif okD op d then cj s.ob (im s.hy (k (put ⟨st.slots,st.gs,s.items,s.nx⟩ d s.v))) else False
  | none=>(match a1h op with
   | some c=>(match (bif d.isSome then a8f fx lkd st [] c else none) with
    | some a=>cj a.ob (im a.hy (k (put st d a.v)))
    | none=>a5b inl fx lkd st [] d c k)
   | none=>False))
def gOp (q:Bool) (fx:m6 E.N) (lkd:i6 E.N) (st:E.St) (ch:List (Nat×Bool)) (op:Op):Option (Q1 E.N) :=
 match stepG fx lkd st ch op with
 | some a=>some a
 | none=>bif q then none else (match a1h op with | some c=>a8f fx lkd st ch c | none=>none)
def imp (p:Prop) (l:List Prop):List Prop:=l.map fun x=>p->x
def b3n (q:Bool) (fx:m6 E.N) (lkd:i6 E.N) (st:E.St) (dj:Nat) (w:Bool) (d:Option Nat) (op:Op):Option (Prop×Q1 E.N×Nat) :=
 match b1k fx st 8 dj w,gOp q fx lkd st (chain st.gs 8 dj w) op,d with
 | some ⟨p,_⟩,some a,some d=>bif Nat.beq d dj then none else some (p,a,d)
 | _,_,_=>none
def settle (st:E.St) (dj:Nat) (b:Bool):E.St :=
 ⟨(st.gs.filterMap fun p=>match lk st.gs p.1 with | some (j,w,v)=>bif Nat.beq j dj then some (p.1,bif w == b then v else .undef) else none | none=>none)++st.slots,
  st.gs.filter (fun p=>match lk st.gs p.1 with | some (j,_,_)=>!Nat.beq j dj | none=>false),st.items,st.nx⟩
def e32 (E:Env) (o:Oper):Bool:=match o.op with
 | .call c=>(match c.callee with | .value (.func K)=>!E.lend K | _=>false)
 | _=>false
def leads (ops:List Oper) (j:Nat):Nat->Nat->Bool
 | 0,_=>false
 | n+1,j'=>Nat.beq j' j || (match ops[j']? with | some o=>(match o.guard with | some (j2,_)=>leads ops j n j2 | none=>false) | none=>false)
def early (E:Env) (ops:List Oper) (j:Nat) (l:List Oper):Bool:=l.any fun o=>(match o.guard with | some (j',_)=>leads ops j 8 j' | none=>false) && e32 E o
def b17 (n:Nat) (e:Bool) (q:Bool) (inl:Inl E) (fx:m6 E.N) (lkd:i6 E.N) (st:E.St) (dj:Nat) (w:Bool) (d:Option Nat) (op:Op) (ty:Nat) (k:E.St->Prop):Prop :=
 match (bif e then none else b3n q fx lkd st dj w d op) with
 | some (p,a,d)=>cj (imp p a.ob) (im (imp p a.hy) (k ⟨(d,.un)::st.slots,(d,dj,w,a.v)::st.gs,st.items,st.nx⟩))
 | none=>bif (lk st.gs dj).isNone && !q then (match Y7 (p5 fx st dj) with
  | some ⟨p,_⟩ => 
     (p->bif w then b5g q inl fx lkd (put (settle st dj true) (some dj) .tt) d op ty k else k (put (put (settle st dj true) (some dj) .tt) d .undef)) /\
     (¬ p->bif w then k (put (put (settle st dj false) (some dj) .ff) d .undef) else b5g q inl fx lkd (put (settle st dj false) (some dj) .ff) d op ty k)
  | none=>False) else False
def X9 (n:Nat) (q:Bool) (inl:Inl E) (fx:m6 E.N) (lkd:i6 E.N) (ops:List Oper):List Oper->E.St->(E.St->Prop)->Prop
 | [],st,K=>K ⟨st.slots,[],st.items,st.nx⟩
 | o::rest,st,K=>fSt st fun st=>bif free n fx st o.dst && (!q || o.dst.isSome) then (match o.guard with
  | none=>b5g q inl fx lkd st o.dst o.op o.type (fun st=>X9 n q inl fx lkd ops rest st K)
  | some (j,w)=>(match o5 ops j with
   | none=>False
   | some dj=>bif Nat.blt dj n then (match (bif (lk st.gs dj).isNone then p5 fx st dj else .un) with
    | .tt=>bif w then b5g q inl fx lkd st o.dst o.op o.type (fun st=>X9 n q inl fx lkd ops rest st K) else X9 n q inl fx lkd ops rest (put st o.dst .undef) K
    | .ff=>bif w then X9 n q inl fx lkd ops rest (put st o.dst .undef) K else b5g q inl fx lkd st o.dst o.op o.type (fun st=>X9 n q inl fx lkd ops rest st K)
    | .undef=>X9 n q inl fx lkd ops rest (put st o.dst .undef) K
    | _=>b17 n (early E ops j (o::rest)) q inl fx lkd st dj w o.dst o.op o.type (fun st=>X9 n q inl fx lkd ops rest st K)) else False)) else False
def d7p (K:Nat) (st:E.St) (args:List E.SV) (its:i6 E.N):Option (S1 E.N) :=
 match E.con K with
 | some C=>(match C args st.nx with
  | some r=>bif args.all B3 then some ⟨r.ob,r.hy,r.r,number st.nx r.its++its,st.nx+r.its.length⟩ else none
  | none=>none)
 | none=>none
def e0z (o:OC E.N) (its:i6 E.N) (st:E.St):List E.SV->Option (S1 E.N)
 | v::args=>(match v with
  | .ref id off=>bif Nat.beq off 0 && (args.map (V3 its)).all B3 then (match lk st.items id with
   | some (.ob k' _ x)=>if h:k'=o.k then (match o.C (h ▸ x) (args.map (V3 its)) with
    | some r=>some ⟨r.ob,r.hy,r.r,Z4 st.items id (.ob o.k st.nx r.x),st.nx+1⟩
    | none=>none) else none
   | _=>none) else none
  | _=>none)
 | []=>none
def c71 (fx:m6 E.N) (lkd:i6 E.N) (st:E.St) (ch:List (Nat×Bool)) (c:Call):Option (S1 E.N) :=
 match callee (evS fx lkd st ch) c with
 | none=>none
 | some (K,args)=>match E.con K with
  | some _=>bif E.lend K then none
     else (match frz st.items args with | some (args',its)=>d7p K st args' its | none=>none)
  | none=>(match E.obc K with
   | some o=>e0z o (st.items++lkd) st args
   | none=>(match E.wrc K with
   | some _=>none
   | none=>(E.fnc K).bind (fun o=>b8w o args st.items st.nx)))
def b62 (fx:m6 E.N) (lkd:i6 E.N) (st:E.St) (ch:List (Nat×Bool)) (d:Option Nat) (op:Op) (ty:Nat):Option (S1 E.N) :=
 match c04 E st.items st.nx (evS fx lkd st ch) op ty with
 | some s=>bif okD op d then some s else none
 | none=>(match a1h op with | some c=>c71 fx lkd st ch c | none=>none)
abbrev K6:=List (Nat×List Nat)
def a5s {N:Uni}:SV N->List Nat
 | .ref id _=>[id]
 | .acc id=>[id]
 | .el id _ _ _=>[id]
 | .sub id _ _ _=>[id]
 | .clo _ vs=>vs.flatMap fun v=>match v with | .ref id _=>[id] | _=>[]
 | .agg vs=>vs.flatMap fun v=>match v with | .acc id=>[id] | .ref id _=>[id] | .el id _ _ _=>[id] | _=>[]
 | _=>[]
def c79 {N:Uni} (e:Operand->SV N):Op->List Nat
 | .store _ a x=>a5s (e a)++a5s (e x)
 | .makeInterface _ x=>a5s (e x)
 | .buildSlice _ _ ps=>ps.toList.flatMap fun p=>a5s (e p.2)
 | .call c=>(match c.callee with | .value f=>a5s (e f) | _=>[])++c.args.toList.flatMap fun x=>a5s (e x)
 | _=>[]
def c6g {N:Uni} (its:i6 N) (l:List Nat):List Nat:=l++l.flatMap fun id=>match lk its id with | some (.rw _ _ cells)=>cells.flatMap a5s | _=>[]
def b9e {N:Uni} (its:i6 N) (e:Operand->SV N) (op:Op):List Nat:=match op with
 | .call c=>(match c.callee with | .value _=>reach its 60 (c79 e op) [] | _=>c6g its (c79 e op))
 | _=>c6g its (c79 e op)
def c02 {N:Uni} (v:SV N) (b:Bool):Bool:=match v with
 | .tt=>!b
 | .ff=>b
 | _=>false
def d0o (fx:m6 E.N) (st:E.St) (dj:Nat) (b:Bool):Bool:=match lk st.gs dj with
 | some (_,_,v)=>c02 v b
 | none=>(match p5 fx st dj with | .undef=>true | v=>c02 v b)
def d3n (H:K6) (i:Nat):Option Bool:=bif (lk H (1000000+2 * i+1)).isSome then some true else (bif (lk H (1000000+2 * i)).isSome then some false else none)
def frc (b:Option Bool) (q:Option (Q1 E.N)):Option (Q1 E.N):=match b with
 | none=>q
 | some b=>(match q with
  | some q=>(match Y7 q.v with
   | some ⟨p,_⟩=>some ⟨q.ob++[bif b then p else ¬ p],q.hy,bif b then .tt else .ff⟩
   | none=>none)
  | none=>none)
def a0o (fx:m6 E.N) (lkd:i6 E.N) (l:List Oper):Nat->List Oper->E.St->K6->K6
 | _,[],_,H=>H
 | i,o::r,st,H=>fSt st fun st=>match o.guard with
  | none=>(match frc (d3n H i) (gOp false fx lkd st [] o.op) with
   | some a=>a0o fx lkd l (i+1) r (put st o.dst a.v) H
   | none=>(match b62 fx lkd st [] o.dst o.op o.type with
    | some s=>a0o fx lkd l (i+1) r (put ⟨st.slots,st.gs,s.items,s.nx⟩ o.dst s.v) (H++[(i,b9e st.items (evS fx lkd st []) o.op)])
    | none=>[]))
  | some (j,b)=>(match o5 l j with
   | some dj=>bif d0o fx st dj b then a0o fx lkd l (i+1) r (put st o.dst .undef) H else (match b3n false fx lkd st dj b o.dst o.op with
    | some (_,a,d)=>a0o fx lkd l (i+1) r ⟨(d,.un)::st.slots,(d,dj,b,a.v)::st.gs,st.items,st.nx⟩ H
    | none=>(match b62 fx lkd st (chain st.gs 8 dj b) o.dst o.op o.type with
     | some s=>a0o fx lkd l (i+1) r (put ⟨st.slots,st.gs,s.items,s.nx⟩ o.dst s.v) (H++[(i,b9e st.items (evS fx lkd st (chain st.gs 8 dj b)) o.op)])
     | none=>[]))
   | none=>[])
structure Ent (N:Uni) where
 dst:Option Nat
 g:Option (Nat×Nat×Bool)
 sv:SV N
 hy:List Prop
structure DA (N:Uni) where
 ents:List (Ent N)
 effs:List Nat
 mems:List (i6 N×Nat)
def fEs {N:Uni} {α:Sort u}:List (Ent N)->(List (Ent N)->α)->α
 | [],k=>k []
 | e::r,k=>match e with | ⟨a,b,c,d⟩=>fV c fun c=>fEs r fun r=>k (⟨a,b,c,d⟩::r)
theorem c3l {N:Uni} {α:Sort u}:∀ (l:List (Ent N)) (k:List (Ent N)->α),fEs l k=k l
 | [],_=>rfl
 | e::r,k=>by unfold fEs; simp only [b3b]; rw [c3l r]
def fNs {α:Sort u}:List Nat->(List Nat->α)->α
 | [],k=>k []
 | n::r,k=>fN n fun n=>fNs r fun r=>k (n::r)
theorem a9z {α:Sort u}:∀ (l:List Nat) (k:List Nat->α),fNs l k=k l
 | [],_=>rfl
 | n::r,k=>by unfold fNs; rw [b1w,a9z r]
def fMs {N:Uni} {α:Sort u}:List (i6 N×Nat)->(List (i6 N×Nat)->α)->α
 | [],k=>k []
 | p::r,k=>match p with | (a,b)=>fIs a fun a=>fN b fun b=>fMs r fun r=>k ((a,b)::r)
theorem c4z {N:Uni} {α:Sort u}:∀ (l:List (i6 N×Nat)) (k:List (i6 N×Nat)->α),fMs l k=k l
 | [],_=>rfl
 | p::r,k=>by unfold fMs; simp only [b5o,b1w]; rw [c4z r]
def fDA {N:Uni} {α:Sort u} (a:DA N) (k:DA N->α):α:=match a with
 | ⟨x,y,z⟩=>fEs x fun x=>fNs y fun y=>fMs z fun z=>k ⟨x,y,z⟩
theorem d6o {N:Uni} {α:Sort u} (a:DA N) (k:DA N->α):fDA a k=k a:=by unfold fDA; simp only [c3l,a9z,c4z]
def fHs {α:Sort u}:K6->(K6->α)->α
 | [],k=>k []
 | p::r,k=>match p with | (a,b)=>fN a fun a=>fNs b fun b=>fHs r fun r=>k ((a,b)::r)
theorem c5e {α:Sort u}:∀ (l:K6) (k:K6->α),fHs l k=k l
 | [],_=>rfl
 | p::r,k=>by unfold fHs; simp only [b1w,a9z]; rw [c5e r]
def bit (ms:List Nat) (i j:Nat):Bool:=(ms.getD i 0).testBit j
def Ent.now {N:Uni} (e:Ent N):SV N:=match e.g with | none=>e.sv | some _=>.un
def T0 {N:Uni} (p:Nat->Bool):Nat->List (Ent N)->m6 N
 | _,[]=>[]
 | j,e::r=>bif p j then (match e.dst with | some d=>(d,e.now)::T0 p (j+1) r | none=>T0 p (j+1) r) else T0 p (j+1) r
def dGs {N:Uni} (p:Nat->Bool):Nat->List (Ent N)->List (Nat×Nat×Bool×SV N)
 | _,[]=>[]
 | j,e::r=>bif p j then (match e.dst,e.g with | some d,some (jj,dj,b)=>(bif p jj then (d,dj,b,e.sv)::dGs p (j+1) r else dGs p (j+1) r) | _,_=>dGs p (j+1) r) else dGs p (j+1) r
def dHy {N:Uni} (p:Nat->Bool):Nat->List (Ent N)->List Prop
 | _,[]=>[]
 | j,e::r=>bif p j then e.hy++dHy p (j+1) r else dHy p (j+1) r
def shut (ms:List Nat) (H:K6) (i:Nat) (pre:List Nat):List Nat:=H.flatMap fun p=>bif pre.elem p.1 || bit ms p.1 i then [] else p.2
def Q2 (ms:List Nat) (i:Nat):List Nat->Nat
 | []=>0
 | e::r=>bif bit ms i e then Q2 ms i r+1 else 0
def NX:Nat:=1000000
def cjl:List Prop->Prop
 | []=>True
 | [p]=>p
 | p::q::r=>p/\cjl (q::r)
section
variable (n:Nat) (fx:m6 E.N) (lkd:i6 E.N) (l:List Oper) (ms:List Nat) (H:K6) (st0:E.St)
def dSt (i:Nat) (a:DA E.N) (its:i6 E.N) (nx:Nat):E.St:=⟨T0 (bit ms i) 0 a.ents++st0.slots.filter (fun p=>P0 ms i p.1 l 0),dGs (bit ms i) 0 a.ents,its,nx⟩
def a6j (i:Nat) (o:Oper) (a:DA E.N):Option (List Prop×Ent E.N) :=
 match a.mems[Q2 ms i a.effs]? with
 | none=>none
 | some m=>bif free n fx (dSt l ms st0 i a (l6 m.1 (shut ms H i (a.effs.take (Q2 ms i a.effs)))) NX) o.dst then (match o.guard with
  | none=>(match frc (d3n H i) (gOp false fx lkd (dSt l ms st0 i a (l6 m.1 (shut ms H i (a.effs.take (Q2 ms i a.effs)))) NX) [] o.op),o.dst with
   | some q,some d=>some (q.ob,⟨some d,none,q.v,q.hy⟩)
   | _,_=>none)
  | some (j,b)=>(match o5 l j with
   | some dj=>bif bit ms i j && Nat.blt dj n then (match b3n false fx lkd (dSt l ms st0 i a (l6 m.1 (shut ms H i (a.effs.take (Q2 ms i a.effs)))) NX) dj b o.dst o.op with
    | some (p,q,d)=>some (imp p q.ob,⟨some d,some (j,dj,b),q.v,imp p q.hy⟩)
    | none=>none) else none
   | none=>none)) else none
def dG (i:Nat) (o:Oper) (st:E.St):Option (List Prop×List (Nat×Bool)):=match o.guard with
 | none=>some ([],[])
 | some (j,b)=>(match o5 l j with
  | some dj=>bif bit ms i j && Nat.blt dj n && o.dst.isSome then (match b1k fx st 8 dj b with | some ⟨p,_⟩=>some ([p],chain st.gs 8 dj b) | none=>none) else none
  | none=>none)
def c47 (i:Nat) (o:Oper) (a:DA E.N) (T:List Nat):Option (List Prop×Ent E.N×(i6 E.N×Nat)) :=
 match a.mems[a.effs.length]? with
 | some m=>bif free n fx (dSt l ms st0 i a (within m.1 T) m.2) o.dst && a.effs.all (bit ms i) then
  (match dG n fx l ms i o (dSt l ms st0 i a (within m.1 T) m.2) with
  | some (g,ch)=>(match b62 fx (l6 m.1 T++lkd) (dSt l ms st0 i a (within m.1 T) m.2) ch o.dst o.op o.type with
   | some s=>bif Nat.ble s.nx NX then some (g++s.ob,⟨o.dst,none,bif o.dst.isSome then s.v else .un,s.hy⟩,(s.items++l6 m.1 T,s.nx)) else none
   | none=>none)
  | none=>none) else none
 | none=>none
def e02 {N:Uni} (e:Ent N) (b:Bool):Bool:=match e.sv with
 | .undef=>e.g.isNone
 | v=>c02 v b
def b25 (n:Nat) (l:List Oper) (ms:List Nat) (i:Nat) (o:Oper) (a:DA E.N):Option (Ent E.N):=match o.guard,o.dst with
 | some (j,b),some d=>(match o5 l j,a.ents[j]? with
  | some dj,some e=>bif bit ms i j && Nat.blt dj n && Nat.blt d n && e02 e b then some ⟨some d,none,.undef,[]⟩ else none
  | _,_=>none)
 | _,_=>none
def d7b (i:Nat) (o:Oper) (a:DA E.N):Option (List Prop×DA E.N) :=
 match lk H i with
 | none=>(match b25 n l ms i o a with
  | some e=>some ([],⟨a.ents++[e],a.effs,a.mems⟩)
  | none=>(match a6j n fx lkd l ms H st0 i o a with | some (ob,e)=>some (ob,⟨a.ents++[e],a.effs,a.mems⟩) | none=>none))
 | some T=>(match c47 n fx lkd l ms st0 i o a T with | some (ob,e,m)=>some (ob,⟨a.ents++[e],a.effs++[i],a.mems++[m]⟩) | none=>none)
def dGo (K:DA E.N->Prop):Nat->List Oper->DA E.N->Prop
 | _,[],a=>K a
 | i,o::r,a=>fDA a fun a=>match d7b n fx lkd l ms H st0 i o a with
  | some (ob,a')=>bif ob.isEmpty then dGo K (i+1) r a' else im (dHy (bit ms i) 0 a.ents) (cjl ob)/\dGo K (i+1) r a'
  | none=>False
end
def a9t (l:List Oper):List Nat:=l.filterMap fun o=>o.dst
def d8l (l:List Oper) (st0:E.St) (a:DA E.N):Option E.St :=
 match a.mems[a.effs.length]? with
 | some m=>some ⟨T0 (fun _=>true) 0 a.ents++st0.slots.filter (fun p=>!(a9t l).elem p.1),[],m.1,m.2⟩
 | none=>none
def V4 (fx:m6 E.N) (l:List Oper):Bool:=l.all fun o=>match o.dst with | some d=>(lk fx d).isNone | none=>true
def a3p (fx:m6 E.N) (lkd:i6 E.N) (l:List Oper) (t:Nat) (H:K6):Nat->List Oper->E.St->Option Prop
 | _,[],_=>none
 | i,o::r,st=>fSt st fun st=>match o.guard with
  | none=>(match frc (d3n H i) (gOp false fx lkd st [] o.op) with
   | some a=>bif Nat.beq i t then (match a.v with | .bl p _=>some p | _=>none) else a3p fx lkd l t H (i+1) r (put st o.dst a.v)
   | none=>(match b62 fx lkd st [] o.dst o.op o.type with
    | some s=>a3p fx lkd l t H (i+1) r (put ⟨st.slots,st.gs,s.items,s.nx⟩ o.dst s.v)
    | none=>none))
  | some (j,b)=>(match o5 l j with
   | some dj=>bif d0o fx st dj b then a3p fx lkd l t H (i+1) r (put st o.dst .undef) else (match b3n false fx lkd st dj b o.dst o.op with
    | some (_,a,d)=>a3p fx lkd l t H (i+1) r ⟨(d,.un)::st.slots,(d,dj,b,a.v)::st.gs,st.items,st.nx⟩
    | none=>(match b62 fx lkd st (chain st.gs 8 dj b) o.dst o.op o.type with
     | some s=>a3p fx lkd l t H (i+1) r (put ⟨st.slots,st.gs,s.items,s.nx⟩ o.dst s.v)
     | none=>none))
   | none=>none)
def b5j (n:Nat) (fx:m6 E.N) (lkd:i6 E.N) (l:List Oper) (st0:E.St) (H0:K6) (K:E.St->Prop):Prop :=
 bif H3 l && a5h l [] && a8w (a9t l) n l && V4 fx l && Nat.ble st0.nx NX then
  fSt st0 fun st0=>fNs (a8p l) fun ms=>fHs (a0o fx lkd l 0 l st0 H0) fun H=>dGo n fx lkd l ms H st0 (fun a=>match d8l l st0 a with | some st=>im (dHy (fun _=>true) 0 a.ents) (K st) | none=>False) 0 l ⟨[],[],[(st0.items,st0.nx)]⟩
 else False
def a0q (n:Nat) (fx:m6 E.N) (lkd:i6 E.N) (l:List Oper) (st0:E.St) (K:E.St->Prop):List Nat->K6->Prop
 | [],H=>b5j n fx lkd l st0 H K
 | i::r,H=>match a3p fx lkd l i H 0 l st0 with
  | some p=>(p->a0q n fx lkd l st0 K r (H++[(1000000+2 * i+1,[])]))/\(¬ p->a0q n fx lkd l st0 K r (H++[(1000000+2 * i,[])]))
  | none=>a0q n fx lkd l st0 K r H
def hasE (e:Array Edge) (j:Nat):Bool:=e.toList.any fun x=>Nat.beq x.on j && Region.binds .any x
def b86 (E:Env) (T:Nat):Bool:=(match E.zeroV T with | some (.bool false)=>true | _=>false) && (match E.size T with | some s=>Nat.beq s 1 | none=>false) && (match E.aggOf T with | some b=>!b | none=>false)
def c3t (E:Env) (n:Nat) (fx:m6 E.N) (l:List Oper):Option (Nat×Nat):=match l with
 | [⟨some a,.alloc T,_,_,_,none⟩,⟨none,.store T1 (.tmp a1) (.const (.bool true)),_,_,e1,none⟩,⟨none,.store T2 (.tmp a2) (.const (.bool false)),_,_,e2,none⟩,⟨some b,.load T3 (.tmp a3),_,_,e3,none⟩] =>
  bif H3 l && Nat.beq T T1 && Nat.beq T T2 && Nat.beq T T3 && Nat.beq a a1 && Nat.beq a a2 && Nat.beq a a3 && !Nat.beq a b && (Nat.blt a n && (lk fx a).isNone) && (Nat.blt b n && (lk fx b).isNone) && hasE e1 0 && hasE e2 0 && hasE e3 0 && b86 E T then some (a,b) else none
 | _=>none
def d4q:Op->Bool
 | .alloc _=>false
 | .box _ _=>false
 | .store _ _ _=>false
 | .buildSlice _ _ _=>false
 | .makeSlice _ _ _=>false
 | .makeInterface _ _=>false
 | .call c=>(match c.callee with | .builtin .append=>false | .builtin .copy=>false | .builtin _=>true | _=>false)
 | _=>true
def b7s (l:List Oper):Bool:=a9e l && l.all fun o=>d4q o.op
def first:Code->Option Nat
 | .region id _ _=>some id
 | .seq a b=>(match first a with | some i=>some i | none=>first b)
 | .block _ c=>first c
 | .loop c=>first c
 | .scope c=>first c
 | .cond _ a b=>(match first a with | some i=>some i | none=>first b)
 | _=>none
def rbP (E:Env) (fx:m6 E.N) (st:E.St) (fx':m6 E.N) (st':E.St) (vs:List LV) {α:Type} (f:Cur E.N α vs) (K:α->Prop):Prop :=
 bif b4d E fx st fx' st' vs then (match K5 E fx' st' vs f with | some a=>K a | none=>False) else False
def b5v:List LV->List (List LV)
 | []=>[[]]
 | v::r=>match v with
  | .alt=>[]::b5v r
  | v=>(match b5v r with | []=>[[v]] | a::s=>(v::a)::s)
def ShP (N:Uni):List (List LV)->Type
 | []=>Unit
 | vs::r=>(Cur N Prop vs×Cur N Nat vs)×ShP N r
def exS (N:Uni):(ss:List (List LV))->(ShP N ss->Prop)->Prop
 | [],k=>k ()
 | vs::r,k=>∃ (I:Cur N Prop vs) (m:Cur N Nat vs),exS N r (fun p=>k ((I,m),p))
def fits (E:Env) (fx:m6 E.N) (st:E.St) (fx':m6 E.N) (st':E.St) (vs:List LV):Bool:=b4d E fx st fx' st' vs && (K5 E fx' st' vs (P6 () vs)).isSome
def rbS (E:Env) (fx:m6 E.N) (st:E.St) (fx':m6 E.N) (st':E.St):(ss:List (List LV))->ShP E.N ss->(Prop×Nat->Prop)->Prop
 | [],_,_=>False
 | vs::r,p,K=>bif fits E fx st fx' st' vs then rbP E fx st fx' st' vs (W9 vs p.1.1 p.1.2) K else rbS E fx st fx' st' r p.2 K
def allS (E:Env) (fx:m6 E.N) (st:E.St):(ss:List (List LV))->ShP E.N ss->(Prop×Nat->E.St->Prop)->Prop
 | [],_,_=>True
 | vs::r,p,G=>H8 E fx st vs (W9 vs p.1.1 p.1.2) ⟨[],[],[],st.nx⟩ G/\allS E fx st r p.2 G
def b28 (E:Env) (fx:m6 E.N) (st:E.St):List (List LV)->List Nat
 | []=>[]
 | vs::r=>bif fits E fx st fx st vs then s8 E fx st vs else b28 E fx st r
def vcU {S:Type} (b:S->(S->Prop)->Prop):Nat->S->Prop
 | 0,_=>False
 | n+1,st=>b st (vcU b n)
inductive LK
 | one
 | many (ss:List (List LV))
 | unr (n:Nat)
def d1a (vs:List LV):LK:=match vs with
 | [.unr n]=>.unr n
 | vs=>bif vs.any (fun v=>match v with | .alt=>true | _=>false) then .many (b5v vs) else .one
def c0i {α:Sort u} (fx:m6 E.N) (st:E.St):List Nat->(m6 E.N->α)->α
 | [],k=>k []
 | s::r,k=>fV (p5 fx st s) fun v=>c0i fx st r fun l=>k ((s,v)::l)
theorem b2d {α:Sort u} {fx:m6 E.N} {st:E.St}:∀ (ks:List Nat) (k:m6 E.N->α),c0i fx st ks k=k (n8 fx st ks)
 | [],_=>rfl
 | s::r,k=>by unfold c0i; rw [b3b,b2d r]; rfl
def c58 (ks:List Nat) (fx:m6 E.N) (st:E.St) (k:E.St->Prop):Prop:=bif ks.isEmpty then k st else c0i fx st ks fun l=>k ⟨l,[],st.items,st.nx⟩
def d0v {N:Uni}:SV N->SV N
 | .bl p d=>bif @decide p d then .tt else .ff
 | v=>v
def b8q:List Nat->E.St->E.St
 | [],st=>st
 | s::r,st=>b8q r (match lk st.slots s with | some v=>⟨(s,d0v v)::st.slots,st.gs,st.items,st.nx⟩ | none=>st)
def behind (an:Ann) (id:Nat) (k:E.St->Prop):E.St->Prop:=match an.join (2000000+id) with | some a=>fun st=>k (b8q a.keep st) | none=>k
def c3b:List Oper->Nat->List Nat
 | [],_=>[]
 | _::r,i=>i::c3b r (i+1)
def c1i (l:List Oper) (done:List Nat):Bool:=(c3b l 0).all fun i=>done.elem i
def rdy (l:List Oper) (done:List Nat) (i:Nat):Bool:=match l[i]? with
 | some o=>!done.elem i && o.after.toList.all fun e=>!Region.binds .any e || done.elem e.on
 | none=>false
def cjF (f:Nat->Prop):List Nat->Prop
 | []=>True
 | [i]=>f i
 | i::j::r=>f i/\cjF f (j::r)
def a77 (n:Nat) (inl:Inl E) (fx:m6 E.N) (lkd:i6 E.N) (l:List Oper) (K:E.St->Prop):Nat->List Nat->E.St->Prop
 | 0,done,st=>bif c1i l done then K st else False
 | k+1,done,st=>bif c1i l done then K st else cjF (fun i=>match l[i]? with
  | some o=>X9 n false inl fx lkd l [o] st (fun st=>a77 n inl fx lkd l K k (i::done) st)
  | none=>False) ((c3b l 0).filter (rdy l done))
def vc (inl:Inl E) (an:Ann):Code->m6 E.N->i6 E.N->E.St->Ks E->Prop
 | .skip,_,_,st,K=>K.n st
 | .ret,_,_,st,K=>K.r st
 | .exit i,_,_,st,K=>(match lk K.e i with | some k=>k st | none=>False)
 | .seq a b,fx,lkd,st,K=>(match (first b).bind an.join with
  | none=>vc inl an a fx lkd st ⟨fun st=>vc inl an b fx lkd st K,K.r,K.e⟩
  | some j=>match d1a j.vars with
   | .unr s=>vc inl an a fx lkd st ⟨fun st=>(match Y7 (p5 fx st s) with
    | some ⟨p,_⟩=>(p->vc inl an b fx lkd ⟨(s,.tt)::st.slots,[],st.items,st.nx⟩ K)/\(¬ p->vc inl an b fx lkd ⟨(s,.ff)::st.slots,[],st.items,st.nx⟩ K)
    | none=>False),K.r,K.e⟩
   | _=>∃ J:Cur E.N Prop j.vars,
    vc inl an a (n8 fx st j.keep++fx) (l6 st.items (s8 E fx st j.vars)++lkd) (inn st (s8 E fx st j.vars))
     (Z6 (n8 fx st j.keep) (l6 st.items (s8 E fx st j.vars)) K (fun st'=>rbP E fx st (n8 fx st j.keep++fx) st' j.vars J id)) /\
    H8 E fx st j.vars J ⟨[],[],[],st.nx⟩ (fun x new=>x->vc inl an b fx lkd ⟨new.slots++n8 fx st j.keep,[],new.items++l6 st.items (s8 E fx st j.vars),new.nx⟩ K))
 | .block i c,fx,lkd,st,K=>vc inl an c fx lkd st ⟨K.n,K.r,(i,K.n)::K.e⟩
 | .cond o a b,fx,lkd,st,K=>(match evS fx lkd st [] o with
  | .tt=>vc inl an a fx lkd st K
  | .ff=>vc inl an b fx lkd st K
  | .bl p _=>(p->vc inl an a fx lkd st K)/\(¬ p->vc inl an b fx lkd st K)
  | _=>False)
 | .region id ops dr,fx,lkd,st,K=>bif !dr || b7s ops.toList then X9 an.n dr inl fx lkd ops.toList ops.toList ⟨st.slots,[],st.items,st.nx⟩ (behind an id K.n) else (match c3t E an.n fx ops.toList with
  | some (a,b)=>(behind an id K.n) ⟨(b,.tt)::(a,.un)::st.slots,[],st.items,st.nx⟩/\(behind an id K.n) ⟨(b,.ff)::(a,.un)::st.slots,[],st.items,st.nx⟩
  | none=>(match an.join (3000000+id) with
   | some _=>bif H3 ops.toList then a77 an.n inl fx lkd ops.toList (behind an id K.n) ops.toList.length [] ⟨st.slots,[],st.items,st.nx⟩ else False
   | none=>a0q an.n fx lkd ops.toList ⟨st.slots,[],st.items,st.nx⟩ (behind an id K.n) (match an.join (1000000+id) with | some a=>a.keep | none=>[]) []))
 | .loop c,fx,lkd,st,K=>(match (first c).bind an.loop with
  | none=>False
  | some a=>match d1a a.vars with
   | .unr n=>vcU (fun st n'=>c58 a.keep fx st fun st=>vc inl an c fx lkd st ⟨n',K.r,K.e⟩) n ⟨st.slots,[],st.items,st.nx⟩
   | .many ss=>exS E.N ss (fun P =>
    rbS E fx st (n8 fx st a.keep++fx) (inn st (b28 E fx st ss)) ss P (fun im=>im.1) /\
    allS E fx st ss P (fun im new=>im.1 ->
     vc inl an c (n8 fx st a.keep++fx) (l6 st.items (b28 E fx st ss)++lkd) new
      (Z6 (n8 fx st a.keep) (l6 st.items (b28 E fx st ss)) K (fun st'=>rbS E fx st (n8 fx st a.keep++fx) st' ss P (fun im'=>im'.1/\im'.2<im.2)))))
   | .one=>∃ (I:Cur E.N Prop a.vars) (m:Cur E.N Nat a.vars),
    rbP E fx st (n8 fx st a.keep++fx) (inn st (s8 E fx st a.vars)) a.vars (W9 a.vars I m) (fun im=>im.1) /\
    H8 E fx st a.vars (W9 a.vars I m) ⟨[],[],[],st.nx⟩ (fun im new=>im.1 ->
     vc inl an c (n8 fx st a.keep++fx) (l6 st.items (s8 E fx st a.vars)++lkd) new
      (Z6 (n8 fx st a.keep) (l6 st.items (s8 E fx st a.vars)) K (fun st'=>rbP E fx st (n8 fx st a.keep++fx) st' a.vars (W9 a.vars I m) (fun im'=>im'.1/\im'.2<im.2)))))
 | _,_,_,_,_=>False
end Go.Rx
end
section
namespace Go.Rx
open Go Go.Wk Go.Wl
section
variable {N:Uni} {T:N3} {ρ:n9} {Z:Nat->Prop} {w:World} {cs:List Value} {s:SV N}
def J7:SV N->Option Int
 | .int k x=>match k with | .i64=>some x | _=>none
 | _=>none
def asB:SV N->Option Bool
 | .tt=>some true
 | .ff=>some false
 | .bl p d=>some (@decide p d)
 | _=>none
theorem i7.one {v:Value} (h:Rep N T ρ Z w v s) (hp:w5 v=true):i7 N T ρ Z w [v] [s]:=Rep.agg1 h hp Rep.agg0
theorem i7.cons {v:Value} {ss:List (SV N)} (h:Rep N T ρ Z w v s) (hp:w5 v=true) (r:i7 N T ρ Z w cs ss):i7 N T ρ Z w (v::cs) (s::ss):=Rep.agg1 h hp r
theorem e2n {x:Int} (h:InI x):Rep N T ρ Z w (.int .i64 x) (.int .i64 x):=.int (fun _=>h)
theorem K3 {x:Int} (h:B4.rd Z w cs x):i7 N T ρ Z w cs [.int .i64 x]:=by
 obtain ⟨rfl,h⟩:=h; exact i7.one (e2n h) rfl
theorem b0a {x:Bool} (h:a2h.rd Z w cs x):i7 N T ρ Z w cs [blB x]:=by
 obtain rfl:cs=_:=h
 have e:Value.bool x=.bool (@decide (x=true) inferInstance):=by cases x <;> rfl
 rw [e]; exact i7.one .bl rfl
theorem i7.one_inv (h:i7 N T ρ Z w cs [s]):∃ v,cs=[v]/\Rep N T ρ Z w v s/\w5 v=true:=by
 obtain ⟨v,r,rfl,h1,hp,h2⟩:=i7.cons_inv h
 obtain rfl:=i7.nil_inv h2
 simp_all
theorem b49 {v:Value} {x:Int} (h:Rep N T ρ Z w v s) (e:J7 s=some x):v=.int .i64 x/\InI x:=by
 cases h with
 | @int k y h=>cases k <;> simp [J7] at e; simp_all
 | _=>simp [J7] at e
theorem c4u {v:Value} {x:Bool} (h:Rep N T ρ Z w v s) (e:asB s=some x):v=.bool x:=by
 cases h with
 | tt=>simp [asB] at e; subst e; rfl
 | ff=>simp [asB] at e; subst e; rfl
 | bl=>simp [asB] at e; subst e; rfl
 | _=>simp [asB] at e
theorem c3z {α:Type} {f:SV N->Option α} {r:Rd α} {x:α} (hf:∀ vs,f (.agg vs)=none) (hr:∀ v,Rep N T ρ Z w v s->f s=some x->r.rd Z w [v] x) (h:i7 N T ρ Z w cs (leaves s)) (e:f s=some x):r.rd Z w cs x:=by
 cases s with
 | agg vs=>simp_all
 | _=>obtain ⟨v,rfl,h1,_⟩:=i7.one_inv h; simp_all
theorem d4z {x:Int} (h:i7 N T ρ Z w cs (leaves s)) (e:J7 s=some x):B4.rd Z w cs x:=c3z (fun _=>rfl) (fun v h e=>by have ⟨a,b⟩:=b49 h e; rw [a]; exact ⟨rfl,b⟩) h e
theorem c9r {x:Bool} (h:i7 N T ρ Z w cs (leaves s)) (e:asB s=some x):a2h.rd Z w cs x:=c3z (r:=a2h) (fun _=>rfl) (fun v h e=>by obtain rfl:=c4u h e; rfl) h e
end
section
variable {E:Env} {ρ:n9} {Z:Nat->Prop} {w:World} {v:Value} {s:E.SV} {t:Nat}
theorem c2y {l:List (E.N.U t)} (h:Rep E.N E.T ρ Z w v s) (e:asL E t s=some l):(v8 (E.N.tb t).r).rd Z w [v] l:=by
 cases h with
 | nils=>simp [asL] at e; subst e; exact W5
 | sl h =>
  simp only [asL] at e
  split at e
  . rename_i ht; subst ht; simp [O5] at e; simp_all
  . cases e
 | _=>simp [asL] at e
end
end Go.Rx
end
section
namespace Go.Rx
open Go Go.Wk Go.Wl
variable {E:Env}
def a3n (st:E.St):ResultVar->Option E.SV
 | .tmp t=>lk st.slots t
 | .cell a T=>(match lk st.slots a with
  | some (.ref id off)=>(match lk st.items id with
   | some (.own _ cells)=>(match E.aggOf T,E.size T with
    | some true,some n=>bif Nat.beq off 0 && Nat.beq n cells.length then some (.agg cells) else none
    | _,_=>none)
   | _=>none)
  | _=>none)
def c9o (fn:Func) (st:E.St):Option E.SV:=match fn.results.toList with
 | []=>some (.tup [])
 | [r]=>a3n st r
 | [r,s]=>(match a3n st r,a3n st s with | some a,some b=>some (.tup [a,b]) | _,_=>none)
 | [r,s,t]=>(match a3n st r,a3n st s,a3n st t with | some a,some b,some c=>some (.tup [a,b,c]) | _,_,_=>none)
 | [r,s,t,u]=>(match a3n st r,a3n st s,a3n st t,a3n st u with | some a,some b,some c,some d=>some (.tup [a,b,c,d]) | _,_,_,_=>none)
 | _=>none
def m7 (inl:Inl E) (an:Ann) (fn:Func) (args:List E.SV) (its lkd:i6 E.N) (nx:Nat) (k:E.SV->i6 E.N->Nat->Prop):Prop:=match fn.body with
 | some c=>bif Nat.ble args.length fn.ntmps then vc inl ⟨fn.ntmps,an.loop,an.join⟩ c [] lkd ⟨number 0 args,[],its,nx⟩ ⟨fun st=>(match c9o fn st with | some v=>k v st.items st.nx | none=>False),fun st=>(match c9o fn st with | some v=>k v st.items st.nx | none=>False),[]⟩ else False
 | none=>False
def parts (ks:List VK) (v:E.SV):List E.SV:=match ks with
 | [_]=>[v]
 | _=>(match v with | .tup vs=>vs | v=>[v])
def a2o (E:Env) (ks:List VK) (Q:D0 E.N Prop ks):E.SV->i6 E.N->Nat->Prop:=fun v its _ =>
 match B5 E its ks (parts ks v) Q with
 | some p=>p
 | none=>False
end Go.Rx
end
section
namespace Go.Rx
open Go Go.Wk Go.Wl
structure Ctx where
 ρ0:n9
 Z0:Nat->Prop
 w0:World
 B0:List Nat
 w1:World
structure Mem (E:Env) (C:Ctx) (ρ:n9) (Z:Nat->Prop) (w:World) (its:i6 E.N) (nx:Nat):Prop where
 sep:Sep C.B0 C.w0 Z w (o0 E.N E.T ρ C.B0 its)
 fr:∀ i,nx<=i->ρ i=none
 ge:∀ i L,C.ρ0 i=some L->ρ i=some L
 zge:∀ b,C.Z0 b->Z b
 zle:∀ b,Z b->C.Z0 b ∨ b∈C.B0 ∨ C.w0.heap.size<=b
section
variable {P:Program} {T:TypeId} {d:TypeDesc} {w:World}
theorem G4 (h:P.underlying T=some d) (w:World):(underlying T).run P w=.ok d w:=by
 show (match P.underlying T with | some d=>pure d | none=>stuck "no such type" : Sem TypeDesc).run P w=_
 rw [h]; rfl
theorem a7b {i:TypeInfo} (h:P.info? T=some i) (w:World):(typeInfo T).run P w=.ok i w:=by
 show (match P.info? T with | some i=>pure i | none=>stuck "no such type" : Sem TypeInfo).run P w=_
 rw [h]; rfl
theorem H1 {n:Nat} (h:(P.info? T).map (·.size)=some n) (w:World):(sizeOf T).run P w=.ok n w:=by
 cases hi:P.info? T with
 | none=>simp_all
 | some i=>rw [hi] at h; simp at h; subst h; unfold sizeOf; rw [Sem.run_bind,a7b hi]; rfl
theorem a08 {v:Value} (h:(P.info? T).bind (·.zero)=some v) (w:World):(zeroValue T).run P w=.ok v w:=by
 cases hi:P.info? T with
 | none=>simp_all
 | some i=>rw [hi] at h; simp at h; unfold zeroValue; rw [Sem.run_bind,a7b hi,Result.andThen_ok,h]; rfl
theorem b0u {b:Bool} (h:(match P.underlying T with | some (.struct _)=>some true | some (.array _ _)=>some true | some _=>some false | none=>none)=some b) (w:World):(isAgg T).run P w=.ok b w:=by
 cases hu:P.underlying T with
 | none=>simp_all
 | some d =>
  rw [hu] at h
  have:=G4 hu w
  unfold isAgg
  rw [Sem.run_bind,this,Result.andThen_ok]
  cases d <;> simp_all
end
end Go.Rx
end
section
namespace Go.Rx
open Go Go.Wk Go.Wl
section
variable {E:Env} {m:Bool} {n:Nat} {ops:List Oper} {Q:Exit->Fr->World->Prop} {rest:List Oper} {f:Fr} {w:World} {d:Nat}
variable {ty T T':TypeId} {pos:String} {after:Array Edge} {x y z:Operand} {k k':IntKind} {a b:Int} {ρ:n9} {Z:Nat->Prop}
theorem wrap64 {a:Int} (h:b9 a):IntKind.i64.wrap a=a:=U3 h
theorem wrap64_in (a:Int):InI (IntKind.i64.wrap a):=by
 unfold IntKind.wrap InI
 simp only [IntKind.bits,IntKind.signed,Bool.true_and]
 grind
theorem a13 {k:IntKind} (a:Int):k=.i64->InI (k.wrap a):=fun e=>by subst e; exact wrap64_in a
theorem d0j {a b:Int} (h:InI a):InI (a.tmod b):=by
 unfold InI at *
 rcases Int.le_total 0 a with h0 | h0
 . have h1:=Int.tmod_nonneg b h0
   have h2:a.tmod b<=a:=by
    have:=Int.natAbs_tmod a b
    have:=Nat.mod_le a.natAbs b.natAbs
    omega
   omega
 . have h1:(-a).tmod b=-(a.tmod b):=Int.neg_tmod a b
   have h3:=Int.tmod_nonneg b (a:=-a) (by omega)
   have h2:(-a).tmod b<=-a:=by
    have:=Int.natAbs_tmod (-a) b
    have:=Nat.mod_le (-a).natAbs b.natAbs
    omega
   omega
theorem c9k {a:Int} {p:Nat} (h:InI a):InI (a.fdiv (2 ^ p)):=by
 unfold InI at *
 have hp:(0:Int)<2 ^ p:=Int.pow_pos (by omega)
 rw [Int.fdiv_eq_ediv_of_nonneg _ (by omega)]
 constructor
 . rw [Int.le_ediv_iff_mul_le hp]
   omega
 . rcases Int.lt_or_le a 0 with h0 | h0
   . have:=Int.ediv_neg_of_neg_of_pos h0 hp; omega
   . have:=Int.ediv_le_self (2 ^ p) h0; omega
abbrev KQ (E:Env) (m:Bool) (n:Nat) (ops:List Oper) (Q:Exit->Fr->World->Prop) (rest:List Oper) (f:Fr) (w:World) (d:Nat) (ρ:n9) (Z:Nat->Prop) (q:Q1 E.N):Prop :=
 ∀ v,Rep E.N E.T ρ Z w v q.v->q6 q.hy->WL E.P m n ops Q rest (upd f d v) w
theorem KQ.bln {p:Prop} [dc:Decidable p] {q:Q1 E.N} (K:KQ E m n ops Q rest f w d ρ Z q) (h:bln p=some q):WL E.P m n ops Q rest (upd f d (.bool (decide p))) w:=by
 cases h; exact K _ .bl trivial
theorem KQ.q0 {s:E.SV} {q:Q1 E.N} (K:KQ E m n ops Q rest f w d ρ Z q) (h:q0 s=some q) {v:Value} (hv:Rep E.N E.T ρ Z w v s):WL E.P m n ops Q rest (upd f d v) w:=by
 cases h; exact K _ hv trivial
theorem a81 {op:BinOp} {q:Q1 E.N} (hx:ev f x=.int k a) (hy:ev f y=.int k' b) (ha:k=.i64->InI a) (hk:b05 op=false->k=k') (h:C6 op k a b=some q) (ho:q6 q.ob) (hn:Nat.blt d n=true) (K:KQ E m n ops Q rest f w d ρ Z q) :
  WL E.P m n ops Q (⟨some d,.binOp op T x y T',ty,pos,after,none⟩::rest) f w:=by
 cases op with
 | add =>
  obtain rfl:=hk rfl
  cases k <;> first | (simp only [C6] at h; exact c49 hx hy hn (K.q0 h (.int (a13 _)))) | (simp only [C6,Option.some.injEq] at h; subst h; exact d7s hx hy ho.1 hn (K _ (.int fun _=>ho.1) trivial))
 | sub =>
  obtain rfl:=hk rfl
  cases k <;> first | (simp only [C6] at h; exact c3k hx hy hn (K.q0 h (.int (a13 _)))) | (simp only [C6,Option.some.injEq] at h; subst h; exact e1f hx hy ho.1 hn (K _ (.int fun _=>ho.1) trivial))
 | mul =>
  obtain rfl:=hk rfl
  cases k <;> first | (simp only [C6] at h; exact d3u hx hy hn (K.q0 h (.int (a13 _)))) | (simp only [C6,Option.some.injEq] at h; subst h; exact e0o hx hy ho.1 hn (K _ (.int fun _=>ho.1) trivial))
 | quo =>
  obtain rfl:=hk rfl
  cases k <;> first | (simp only [C6,Option.some.injEq] at h; subst h; exact d1v hx hy ho.1 hn (K _ (.int (a13 _)) trivial)) | (simp only [C6,Option.some.injEq] at h; subst h; refine d1v hx hy ho.1 hn ?_; rw [wrap64 ho.2.1]; exact K _ (.int fun _=>ho.2.1) trivial)
 | rem=>obtain rfl:=hk rfl; simp only [C6,Option.some.injEq] at h; subst h; exact e0x hx hy ho.1 hn (K _ (.int fun e=>d0j (ha e)) trivial)
 | shr=>simp only [C6,Option.some.injEq] at h; subst h; exact d9u hx hy ho.1 hn (K _ (.int fun e=>c9k (ha e)) trivial)
 | shl=>simp only [C6,Option.some.injEq] at h; subst h; exact d9n hx hy ho.1 hn (K _ (.int (a13 _)) trivial)
 | and=>obtain rfl:=hk rfl; simp only [C6] at h; exact d1r hx hy hn (K.q0 h (.int (a13 _)))
 | or=>obtain rfl:=hk rfl; simp only [C6] at h; exact e2j hx hy hn (K.q0 h (.int (a13 _)))
 | xor=>obtain rfl:=hk rfl; simp only [C6] at h; exact e0n hx hy hn (K.q0 h (.int (a13 _)))
 | eql=>obtain rfl:=hk rfl; simp only [C6] at h; exact d1c hx hy hn (K.bln h)
 | neq=>obtain rfl:=hk rfl; simp only [C6] at h; exact d1f hx hy hn (K.bln h)
 | lss=>obtain rfl:=hk rfl; simp only [C6] at h; exact d1l hx hy hn (K.bln h)
 | leq=>obtain rfl:=hk rfl; simp only [C6] at h; exact d1q hx hy hn (K.bln h)
 | gtr=>obtain rfl:=hk rfl; simp only [C6] at h; exact d1n hx hy hn (K.bln h)
 | geq=>obtain rfl:=hk rfl; simp only [C6] at h; exact d0p hx hy hn (K.bln h)
 | andNot=>simp [C6] at h
theorem c1f {op:BinOp} {q:Q1 E.N} (hx:ev f x=.int k a) (hy:ev f y=.int k' b) (ha:k=.i64->InI a) (h:b4u op k k' a b=some q) (ho:q6 q.ob) (hn:Nat.blt d n=true) (K:KQ E m n ops Q rest f w d ρ Z q) :
  WL E.P m n ops Q (⟨some d,.binOp op T x y T',ty,pos,after,none⟩::rest) f w:=by
 unfold b4u at h
 cases hs:b05 op with
 | true=>rw [hs,cond_true] at h; exact a81 hx hy ha (fun e=>by simp_all) h ho hn K
 | false =>
  rw [hs,cond_false] at h
  split at h
  . rename_i e; exact a81 hx hy ha (fun _=>e) h ho hn K
  . cases h
theorem d3t (a b:UInt8):Value.int .u8 (IntKind.u8.wrap ((a.toNat:Int)-(b.toNat:Int)))=bv (a-b):=by
 unfold bv; congr 1
 rw [UInt8.toNat_sub]
 have ha:=a.toNat_lt; have hb:=b.toNat_lt
 simp only [IntKind.wrap,IntKind.bits,IntKind.signed,Bool.false_and,Bool.false_eq_true,if_false]
 omega
theorem u8_and (a b:UInt8):Value.int .u8 (IntKind.u8.wrap (BitVec.ofInt IntKind.u8.bits (a.toNat:Int) &&& BitVec.ofInt IntKind.u8.bits (b.toNat:Int)).toNat)=bv (a &&& b):=by
 have ha:=a.toNat_lt; have hb:=b.toNat_lt
 have e1:BitVec.ofInt IntKind.u8.bits (a.toNat:Int)=a.toBitVec:=by
  apply BitVec.eq_of_toNat_eq; simp [IntKind.bits]
 have e2:BitVec.ofInt IntKind.u8.bits (b.toNat:Int)=b.toBitVec:=by
  apply BitVec.eq_of_toNat_eq; simp [IntKind.bits]
 rw [e1,e2]
 have e3:((a.toBitVec &&& b.toBitVec).toNat)=(a &&& b).toNat:=rfl
 have h3:=(a &&& b).toNat_lt
 unfold bv; congr 1
 show IntKind.u8.wrap (((a.toBitVec &&& b.toBitVec).toNat:Nat):Int)=_
 rw [e3]
 simp only [IntKind.wrap,IntKind.bits,IntKind.signed,Bool.false_and,Bool.false_eq_true,if_false]
 omega
theorem R2 {p q:Prop} [Decidable p] [Decidable q] (h:p↔q):decide p=decide q:=by simp [h]
theorem b6c {op:BinOp} {a b:UInt8} {q:Q1 E.N} (hx:ev f x=bv a) (hy:ev f y=bv b) (h:I1 op a b=some q) (ho:q6 q.ob) (hn:Nat.blt d n=true) (K:KQ E m n ops Q rest f w d ρ Z q) :
  WL E.P m n ops Q (⟨some d,.binOp op T x y T',ty,pos,after,none⟩::rest) f w:=by
 have hx':ev f x=.int .u8 a.toNat:=hx
 have hy':ev f y=.int .u8 b.toNat:=hy
 cases op with
 | add=>simp only [I1] at h; exact d6w hx hy hn (K.q0 h .byte)
 | sub=>simp only [I1] at h; refine c3k hx' hy' hn ?_; rw [d3t]; exact K.q0 h .byte
 | and=>simp only [I1] at h; refine d1r hx' hy' hn ?_; rw [u8_and]; exact K.q0 h .byte
 | eql=>simp only [I1] at h; refine d1c hx' hy' hn ?_; rw [R2 (show ((a.toNat:Int)=b.toNat)↔a=b by rw [Int.ofNat_inj]; exact UInt8.toNat_inj)]; exact K.bln h
 | neq=>simp only [I1] at h; refine d1f hx' hy' hn ?_; rw [R2 (show ((a.toNat:Int)≠b.toNat)↔a≠b by rw [Ne,Ne,Int.ofNat_inj,UInt8.toNat_inj])]; exact K.bln h
 | lss=>simp only [I1] at h; refine d1l hx' hy' hn ?_; rw [R2 (show ((a.toNat:Int)<b.toNat)↔a<b by rw [Int.ofNat_lt,UInt8.lt_iff_toNat_lt])]; exact K.bln h
 | leq=>simp only [I1] at h; refine d1q hx' hy' hn ?_; rw [R2 (show ((a.toNat:Int)<=b.toNat)↔a<=b by rw [Int.ofNat_le,UInt8.le_iff_toNat_le])]; exact K.bln h
 | gtr=>simp only [I1] at h; refine d1n hx' hy' hn ?_; rw [R2 (show ((b.toNat:Int)<a.toNat)↔b<a by rw [Int.ofNat_lt,UInt8.lt_iff_toNat_lt])]; exact K.bln h
 | geq=>simp only [I1] at h; refine d0p hx' hy' hn ?_; rw [R2 (show ((b.toNat:Int)<=a.toNat)↔b<=a by rw [Int.ofNat_le,UInt8.le_iff_toNat_le])]; exact K.bln h
 | _=>simp [I1] at h
theorem c2b {op:BinOp} {a b:Str} {q:Q1 E.N} (hx:ev f x=sv a) (hy:ev f y=sv b) (h:a3h op a b=some q) (ho:q6 q.ob) (hn:Nat.blt d n=true) (K:KQ E m n ops Q rest f w d ρ Z q) :
  WL E.P m n ops Q (⟨some d,.binOp op T x y T',ty,pos,after,none⟩::rest) f w:=by
 cases op with
 | add=>simp only [a3h,Option.some.injEq] at h; subst h; exact d6j hx hy ho.1 hn (K _ (.str (by rw [List.length_append]; exact ho.1)) trivial)
 | eql=>simp only [a3h] at h; exact d5w hx hy hn (K.bln h)
 | neq=>simp only [a3h] at h; exact d6n hx hy hn (K.bln h)
 | _=>simp [a3h] at h
end
end Go.Rx
end
section
namespace Go.Rx
open Go Go.Wk Go.Wl
section
variable {N:Uni} {T:N3} {ρ:n9} {Z:Nat->Prop} {w:World} {cs:List Value} {ss:List (SV N)}
theorem i7.drop (h:i7 N T ρ Z w cs ss):∀ o:Nat,i7 N T ρ Z w (cs.drop o) (ss.drop o):=by
 intro o
 induction o generalizing cs ss with
 | zero=>exact h
 | succ o ih =>
  cases ss with
  | nil=>have:=i7.nil_inv h; simp_all
  | cons s ss=>obtain ⟨v,r,rfl,_,_,h⟩:=i7.cons_inv h; exact ih h
theorem i7.take (h:i7 N T ρ Z w cs ss):∀ o:Nat,i7 N T ρ Z w (cs.take o) (ss.take o):=by
 intro o
 induction o generalizing cs ss with
 | zero=>exact i7.nil
 | succ o ih =>
  cases ss with
  | nil=>have:=i7.nil_inv h; simp_all
  | cons s ss=>obtain ⟨v,r,rfl,h1,hp,h⟩:=i7.cons_inv h; exact Rep.agg1 h1 hp (ih h)
end
theorem p8 {β:Type} {l:List (Nat×β)} {j:Nat} {x:β} (h:lk l j=some x):∃ i:Nat,l[i]?=some (j,x)/\(∀ y,Z4 l j y=l.set i (j,y))/\rmv l j=l.eraseIdx i:=by
 induction l with
 | nil=>cases h
 | cons p r ih =>
  unfold lk at h
  cases hb:Nat.beq p.1 j with
  | true =>
   rw [hb,cond_true] at h; cases h
   have e:=Nat.eq_of_beq_eq_true hb
   refine ⟨0,?_,fun y=>?_,?_⟩
   . simp [<- e]
   . simp [Z4,hb,e]
   . simp [rmv,hb]
  | false =>
   rw [hb,cond_false] at h
   obtain ⟨i,h1,h2,h3⟩:=ih h
   exact ⟨i+1,by simp_all,fun y=>by simp [Z4,hb,h2],by simp [rmv,hb,h3]⟩
section
variable {E:Env} {C:Ctx} {m:Bool} {n:Nat} {ops:List Oper} {Q:Exit->Fr->World->Prop} {rest:List Oper} {f:Fr} {w:World} {d:Nat}
variable {ty T T':TypeId} {pos:String} {after:Array Edge} {x y z:Operand} {k k':IntKind} {a b:Int} {ρ:n9} {Z:Nat->Prop} {its:i6 E.N} {nx:Nat} {q:Q1 E.N}
theorem Mem.at (hm:Mem E C ρ Z w its nx) {id:Nat} {i:Item E.N} (h:lk its id=some i):holds E.N E.T ρ id Z w i:=by
 obtain ⟨j,hj,_⟩:=p8 h
 exact hm.sep.at j (t:=z6 E.N E.T ρ C.B0 id i) (by simp [o0,hj])
theorem Rep.boolv {v:Value} {s:E.SV} {p:Prop} {dc:Decidable p} (h:Rep E.N E.T ρ Z w v s) (e:Y7 s=some ⟨p,dc⟩):v=.bool (@decide p dc):=by
 cases h with
 | tt=>cases e; rfl
 | ff=>cases e; rfl
 | bl=>cases e; rfl
 | _=>cases e
theorem c5k {ms:Array (String×TypeId)} {e:Err} (hT:∀ w,(underlying T).run E.P w=.ok (.interface ms) w) (hx:a3q E.T Z w (ev f x) e) (hn:Nat.blt d n=true) (K:WL E.P m n ops Q rest (upd f d (.bool (decide (e=.nil)))) w) :
  WL E.P m n ops Q (⟨some d,.binOp .eql T x (.const .nilIface) T',ty,pos,after,none⟩::rest) f w:=by
 have hy:ev f (.const .nilIface)=Value.nilIface:=rfl
 generalize hv:ev f x=v at hx
 cases hx with
 | nil =>
  rw [decide_eq_true rfl] at K
  exact n6 rfl rfl hn (v:=.bool true) (fun w1 _=>by simp [execOp,hv,hy,eqGuard,Go.binOp,go_sem,b2c hT]) K
 | no h =>
  rw [decide_eq_false (by simp)] at K
  exact n6 rfl rfl hn (v:=.bool false) (fun w1 _=>by simp [execOp,hv,hy,eqGuard,Go.binOp,go_sem,M0 hT]) K
 | fault h1 h2 h3 h4 h5 =>
  rw [decide_eq_false (by simp)] at K
  exact n6 rfl rfl hn (v:=.bool false) (fun w1 _=>by simp [execOp,hv,hy,eqGuard,Go.binOp,go_sem,M0 hT]) K
 | w h1 h2 h3 =>
  rw [decide_eq_false (by simp)] at K
  exact n6 rfl rfl hn (v:=.bool false) (fun w1 _=>by simp [execOp,hv,hy,eqGuard,Go.binOp,go_sem,M0 hT]) K
 | p h1 h2 h3 h4 =>
  rw [decide_eq_false (by simp)] at K
  exact n6 rfl rfl hn (v:=.bool false) (fun w1 _=>by simp [execOp,hv,hy,eqGuard,Go.binOp,go_sem,M0 hT]) K
theorem c3x {ms:Array (String×TypeId)} {e:Err} (hT:∀ w,(underlying T).run E.P w=.ok (.interface ms) w) (hx:a3q E.T Z w (ev f x) e) (hn:Nat.blt d n=true) (K:WL E.P m n ops Q rest (upd f d (.bool (decide (e≠.nil)))) w) :
  WL E.P m n ops Q (⟨some d,.binOp .neq T x (.const .nilIface) T',ty,pos,after,none⟩::rest) f w:=by
 have hy:ev f (.const .nilIface)=Value.nilIface:=rfl
 generalize hv:ev f x=v at hx
 cases hx with
 | nil =>
  rw [decide_eq_false (by simp)] at K
  exact n6 rfl rfl hn (v:=.bool false) (fun w1 _=>by simp [execOp,hv,hy,eqGuard,Go.binOp,go_sem,b2c hT]) K
 | no h =>
  rw [decide_eq_true (by simp)] at K
  exact n6 rfl rfl hn (v:=.bool true) (fun w1 _=>by simp [execOp,hv,hy,eqGuard,Go.binOp,go_sem,M0 hT]) K
 | fault h1 h2 h3 h4 h5 =>
  rw [decide_eq_true (by simp)] at K
  exact n6 rfl rfl hn (v:=.bool true) (fun w1 _=>by simp [execOp,hv,hy,eqGuard,Go.binOp,go_sem,M0 hT]) K
 | w h1 h2 h3 =>
  rw [decide_eq_true (by simp)] at K
  exact n6 rfl rfl hn (v:=.bool true) (fun w1 _=>by simp [execOp,hv,hy,eqGuard,Go.binOp,go_sem,M0 hT]) K
 | p h1 h2 h3 h4 =>
  rw [decide_eq_true (by simp)] at K
  exact n6 rfl rfl hn (v:=.bool true) (fun w1 _=>by simp [execOp,hv,hy,eqGuard,Go.binOp,go_sem,M0 hT]) K
theorem c9j {e:TypeId} {a:Addr} (hT:∀ w,(underlying T).run E.P w=.ok (.pointer e) w) (hx:ev f x=.pointer (some a)) (hy:ev f y=.pointer none) (hn:Nat.blt d n=true) (K:WL E.P m n ops Q rest (upd f d (.bool false)) w) :
  WL E.P m n ops Q (⟨some d,.binOp .eql T x y T',ty,pos,after,none⟩::rest) f w :=
 n6 rfl rfl hn (v:=.bool false) (fun w1 _=>by simp [execOp,hx,hy,eqGuard,Go.binOp,go_sem,b30 hT]) K
theorem c93 {e:TypeId} {a:Addr} (hT:∀ w,(underlying T).run E.P w=.ok (.pointer e) w) (hx:ev f x=.pointer (some a)) (hy:ev f y=.pointer none) (hn:Nat.blt d n=true) (K:WL E.P m n ops Q rest (upd f d (.bool true)) w) :
  WL E.P m n ops Q (⟨some d,.binOp .neq T x y T',ty,pos,after,none⟩::rest) f w :=
 n6 rfl rfl hn (v:=.bool true) (fun w1 _=>by simp [execOp,hx,hy,eqGuard,Go.binOp,go_sem,b30 hT]) K
theorem c95 {e:TypeId} (hT:∀ w,(underlying T).run E.P w=.ok (.pointer e) w) (hx:ev f x=.pointer none) (hy:ev f y=.pointer none) (hn:Nat.blt d n=true) (K:WL E.P m n ops Q rest (upd f d (.bool true)) w) :
  WL E.P m n ops Q (⟨some d,.binOp .eql T x y T',ty,pos,after,none⟩::rest) f w :=
 n6 rfl rfl hn (v:=.bool true) (fun w1 _=>by simp [execOp,hx,hy,eqGuard,Go.binOp,go_sem,b2b hT]) K
theorem c8w {e:TypeId} (hT:∀ w,(underlying T).run E.P w=.ok (.pointer e) w) (hx:ev f x=.pointer none) (hy:ev f y=.pointer none) (hn:Nat.blt d n=true) (K:WL E.P m n ops Q rest (upd f d (.bool false)) w) :
  WL E.P m n ops Q (⟨some d,.binOp .neq T x y T',ty,pos,after,none⟩::rest) f w :=
 n6 rfl rfl hn (v:=.bool false) (fun w1 _=>by simp [execOp,hx,hy,eqGuard,Go.binOp,go_sem,b2b hT]) K
theorem b21 {e:TypeId} (hT:∀ w,(underlying T).run E.P w=.ok (.slice e) w) {n c n' c':Nat} (w1:World):(Op.equal T (.slice none n c) (.slice none n' c')).run E.P w1=.ok true w1:=by
 have h:∀ d,(Op.equalIn (d+1) T (.slice none n c) (.slice none n' c')).run E.P w1=.ok true w1:=fun d=>by
  unfold Op.equalIn; rw [Sem.run_bind,hT,Result.andThen_ok]; rfl
 exact h 9999
theorem b40 {e:TypeId} (hT:∀ w,(underlying T).run E.P w=.ok (.slice e) w) {a:Addr} {n c n' c':Nat} (w1:World):(Op.equal T (.slice (some a) n c) (.slice none n' c')).run E.P w1=.ok false w1:=by
 have h:∀ d,(Op.equalIn (d+1) T (.slice (some a) n c) (.slice none n' c')).run E.P w1=.ok false w1:=fun d=>by
  unfold Op.equalIn; rw [Sem.run_bind,hT,Result.andThen_ok]; rfl
 exact h 9999
theorem c9a {e:TypeId} {n' c n1 c1:Nat} (hT:∀ w,(underlying T).run E.P w=.ok (.slice e) w) (hx:ev f x=.slice none n' c) (hy:ev f y=.slice none n1 c1) (hn:Nat.blt d n=true) (K:WL E.P m n ops Q rest (upd f d (.bool true)) w) :
  WL E.P m n ops Q (⟨some d,.binOp .eql T x y T',ty,pos,after,none⟩::rest) f w :=
 n6 rfl rfl hn (v:=.bool true) (fun w1 _=>by simp [execOp,hx,hy,eqGuard,Go.binOp,go_sem,b21 hT]) K
theorem c8x {e:TypeId} {n' c n1 c1:Nat} (hT:∀ w,(underlying T).run E.P w=.ok (.slice e) w) (hx:ev f x=.slice none n' c) (hy:ev f y=.slice none n1 c1) (hn:Nat.blt d n=true) (K:WL E.P m n ops Q rest (upd f d (.bool false)) w) :
  WL E.P m n ops Q (⟨some d,.binOp .neq T x y T',ty,pos,after,none⟩::rest) f w :=
 n6 rfl rfl hn (v:=.bool false) (fun w1 _=>by simp [execOp,hx,hy,eqGuard,Go.binOp,go_sem,b21 hT]) K
theorem c9y {e:TypeId} {a:Addr} {n' c n1 c1:Nat} (hT:∀ w,(underlying T).run E.P w=.ok (.slice e) w) (hx:ev f x=.slice (some a) n' c) (hy:ev f y=.slice none n1 c1) (hn:Nat.blt d n=true) (K:WL E.P m n ops Q rest (upd f d (.bool false)) w) :
  WL E.P m n ops Q (⟨some d,.binOp .eql T x y T',ty,pos,after,none⟩::rest) f w :=
 n6 rfl rfl hn (v:=.bool false) (fun w1 _=>by simp [execOp,hx,hy,eqGuard,Go.binOp,go_sem,b40 hT]) K
theorem d09 {e:TypeId} {a:Addr} {n' c n1 c1:Nat} (hT:∀ w,(underlying T).run E.P w=.ok (.slice e) w) (hx:ev f x=.slice (some a) n' c) (hy:ev f y=.slice none n1 c1) (hn:Nat.blt d n=true) (K:WL E.P m n ops Q rest (upd f d (.bool true)) w) :
  WL E.P m n ops Q (⟨some d,.binOp .neq T x y T',ty,pos,after,none⟩::rest) f w :=
 n6 rfl rfl hn (v:=.bool true) (fun w1 _=>by simp [execOp,hx,hy,eqGuard,Go.binOp,go_sem,b40 hT]) K
theorem a42 (h:(E.sliceOf T).isSome=true):∃ e,∀ w,(underlying T).run E.P w=.ok (.slice e) w:=by
 unfold Env.sliceOf at h
 split at h
 . rename_i e he; exact ⟨e,G4 he⟩
 . cases h
theorem V0 (h:E.isPtr T=true):∃ e,∀ w,(underlying T).run E.P w=.ok (.pointer e) w:=by
 unfold Env.isPtr at h
 split at h
 . rename_i e hu; exact ⟨e,G4 hu⟩
 . cases h
theorem b43 (h:E.isIface T=true):∃ ms,∀ w,(underlying T).run E.P w=.ok (.interface ms) w:=by
 unfold Env.isIface at h
 split at h
 . rename_i e hu; exact ⟨e,G4 hu⟩
 . cases h
theorem a58 (h:E.isBool T=true):∀ w,(underlying T).run E.P w=.ok .bool w:=by
 unfold Env.isBool at h
 split at h
 . rename_i hu; exact G4 hu
 . cases h
theorem L5 (h:E.isStr T=true):∀ w,(underlying T).run E.P w=.ok .string w:=by
 unfold Env.isStr at h
 split at h
 . rename_i hu; exact G4 hu
 . cases h
theorem u5 {e:Nat} (h:E.sliceOf T=some e):∀ w,(underlying T).run E.P w=.ok (.slice e) w:=by
 unfold Env.sliceOf at h
 split at h
 . rename_i e' hu; cases h; exact G4 hu
 . cases h
theorem F7 {k:IntKind} (h:E.intOf T=some k):∀ w,(underlying T).run E.P w=.ok (.int k) w:=by
 unfold Env.intOf at h
 split at h
 . rename_i e' hu; cases h; exact G4 hu
 . cases h
theorem J9 {e t:Nat} (h:E.szOk e t=true):∀ w,(sizeOf e).run E.P w=.ok (E.N.tb t).r.sz w:=by
 unfold Env.szOk at h
 split at h
 . rename_i s hs
   have:=Nat.eq_of_beq_eq_true h; subst this
   exact H1 hs
 . cases h
theorem j3 {α:Type} {b:Bool} {o:Option α} {r:α} (h:(bif b then o else none)=some r):b=true/\o=some r:=by
 grind
theorem b5u {P:Program} {d:Nat} {t:TypeId} {f0 f1:Field} {xs ys:Array Value} {a0 b0 a1 b1:Value} {r0 r1:Bool} {w:World} (hu:∀ w,(underlying t).run P w=.ok (.struct #[f0,f1]) w) (n0:f0.name ≠ "_") (n1:f1.name ≠ "_") (hh:P.stoodInHeld t=false)
  (p0:(Go.part f0.type xs f0.offset).run P w=.ok a0 w) (q0:(Go.part f0.type ys f0.offset).run P w=.ok b0 w) (p1:(Go.part f1.type xs f1.offset).run P w=.ok a1 w) (q1:(Go.part f1.type ys f1.offset).run P w=.ok b1 w)
  (e0:(Op.equalIn d f0.type a0 b0).run P w=.ok r0 w) (e1:(Op.equalIn d f1.type a1 b1).run P w=.ok r1 w):(Op.equalIn (d+1) t (.agg xs) (.agg ys)).run P w=.ok (r0 && r1) w:=by
 unfold Op.equalIn; rw [Sem.run_bind,hu,Result.andThen_ok]
 simp only []
 cases r0 <;> cases r1 <;> simp [Sem.run_bind,hh,n0,n1,p0,q0,p1,q1,e0,e1,Sem.run_pure,Result.andThen_ok]
def b8p (P:Program) (d:Nat) (xs ys:Array Value) (w:World):List Field->Bool->Prop
 | [],r=>r=true
 | f::l,r=>∃ r0 r1,r=(r0 && r1)/\f.name ≠ "_" /\ ∃ a b,(Go.part f.type xs f.offset).run P w=.ok a w/\(Go.part f.type ys f.offset).run P w=.ok b w/\(Op.equalIn d f.type a b).run P w=.ok r0 w/\b8p P d xs ys w l r1
theorem c05 {P:Program} {d:Nat} {xs ys:Array Value} {w:World}:∀ (l:List Field) (r:Bool),b8p P d xs ys w l r ->
  (forIn l ((none,()):Option Bool×Unit) fun f __s=>(if f.name ≠ "_" then do
    let a <- Go.part f.type xs f.offset
    let b <- Go.part f.type ys f.offset
    let e <- Op.equalIn d f.type a b
    if (!e)=true then pure (ForInStep.done (some false,())) else pure (ForInStep.yield (none,()))
   else pure (ForInStep.yield (none,())):Sem (ForInStep (Option Bool×Unit)))).run P w=.ok (if r then (none,()) else (some false,())) w
 | [],r,h=>by
  have h:r=true:=h
  simp_all
 | f::l,r,h=>by
  obtain ⟨r0,r1,rfl,hn,a,b,ha,hb,he,hl⟩:=h
  have ih:=c05 l r1 hl
  rw [List.forIn_cons,Sem.run_bind,if_pos hn,Sem.run_bind,ha,Result.andThen_ok,Sem.run_bind,hb,Result.andThen_ok,Sem.run_bind,he,Result.andThen_ok]
  cases r0 with
  | true=>simp_all
  | false=>simp_all
theorem b4h {P:Program} {d:Nat} {t:TypeId} {fs:Array Field} {xs ys:Array Value} {r:Bool} {w:World} (hu:∀ w,(underlying t).run P w=.ok (.struct fs) w) (hh:P.stoodInHeld t=false) (h:b8p P d xs ys w fs.toList r):(Op.equalIn (d+1) t (.agg xs) (.agg ys)).run P w=.ok r w:=by
 have hl:=c05 fs.toList r h
 unfold Op.equalIn; rw [Sem.run_bind,hu,Result.andThen_ok]
 have hp:(program:Sem Program).run P w=.ok P w:=rfl
 dsimp only
 rw [Sem.run_bind,hp,Result.andThen_ok,hh,if_neg (by decide),<- Array.forIn_toList,Sem.run_bind,hl,Result.andThen_ok]
 cases r <;> rfl
theorem bytes_beq (s t:Str):(ByteArray.mk s.toArray == ByteArray.mk t.toArray)=decide (s=t):=by
 show (s.toArray == t.toArray)=decide (s=t)
 grind
theorem a3j {t:Nat} {a b:E.SV} {p:Prop} {dp:Decidable p} {u v:Value} {w:World} (h:a71 E t a b=some ⟨p,dp⟩) (hu:Rep E.N E.T ρ Z w u a) (hv:Rep E.N E.T ρ Z w v b) (d:Nat) (w1:World):(isAgg t).run E.P w1=.ok false w1/\(Op.equalIn (d+1) t u v).run E.P w1=.ok (@decide p dp) w1:=by
 unfold a71 at h
 cases a with
 | int k x =>
  cases b with
  | int k' y =>
   simp only at h
   split at h
   . rename_i kk hi
     split at h
     . rename_i hk
       cases h
       subst hk
       have hr:=F7 hi w1
       cases hu with | int _=>cases hv with | int _ =>
       refine ⟨by simp [isAgg,Sem.run_bind,hr,Result.andThen_ok],?_⟩
       unfold Op.equalIn; rw [Sem.run_bind,hr,Result.andThen_ok]
       simp only [if_true,Sem.run_pure]
       congr 1
     . cases h
   . cases h
  | _=>cases h
 | str s =>
  cases b with
  | str s' =>
   obtain ⟨hs,h⟩:=j3 h
   cases h
   have hr:=L5 hs w1
   cases hu with | str _=>cases hv with | str _ =>
   refine ⟨by simp [isAgg,Sem.run_bind,hr,Result.andThen_ok],?_⟩
   unfold Op.equalIn; rw [Sem.run_bind,hr,Result.andThen_ok]
   exact congrArg (Result.ok · w1) (bytes_beq s s')
  | _=>cases h
 | _=>cases h
theorem a0f {P:Program} {t:TypeId} {cs:Array Value} {o:Nat} {v:Value} {w:World} (ha:(isAgg t).run P w=.ok false w) (hc:cs[o]?=some v):(Go.part t cs o).run P w=.ok v w:=by
 simp [Go.part,Sem.run_bind,ha,Result.andThen_ok,hc]
theorem c2r {t:Nat} {a b:E.SV} {p:Prop} {dp:Decidable p} {u v:Value} {w:World} (h:b84 E t a b=some ⟨p,dp⟩) (hu:Rep E.N E.T ρ Z w u a) (hv:Rep E.N E.T ρ Z w v b) (d:Nat) (w1:World):(Op.equalIn (d+1) t u v).run E.P w1=.ok (@decide p dp) w1:=by
 unfold b84 at h
 split at h
 . rename_i r hr
   cases h
   exact (a3j hr hu hv d w1).2
 . obtain ⟨hb,h⟩:=j3 h
   split at h
   . rename_i p' dp' q' dq' hp hq
     cases h
     rw [hu.boolv hp,hv.boolv hq]
     unfold Op.equalIn
     rw [Sem.run_bind,a58 hb w1,Result.andThen_ok]
     simp_all
   . cases h
theorem b2y {ls:List E.SV} {cs:List Value} {off t:Nat} {s:E.SV} (hr:i7 E.N E.T ρ Z w cs ls) (h:part E ls off t=some s):∃ v,Rep E.N E.T ρ Z w v s/\∀ w1,(Go.part t cs.toArray off).run E.P w1=.ok v w1:=by
 unfold part at h
 split at h
 . rename_i ha
   split at h
   . rename_i nn hs
     obtain ⟨hle,h⟩:=j3 h
     simp only [Option.some.injEq] at h; subst h
     refine ⟨.agg ((cs.drop off).take nn).toArray,(hr.drop off).take nn,fun w1=>?_⟩
     have e:cs.toArray.extract off (off+nn)=((cs.drop off).take nn).toArray:=by
      apply Array.ext'
      simp [List.drop_take,Nat.add_sub_cancel_left]
     have ha1:=b0u ha w1
     have hs1:=H1 hs w1
     unfold Go.part
     simp_all
   . cases h
 . rename_i ha
   obtain ⟨v,hv2,hrep,_⟩:=hr.get off s h
   exact ⟨v,hrep,fun w1=>a0f (b0u ha w1) (by simp_all)⟩
 . cases h
theorem b9t {rec:Nat->E.SV->E.SV->Option PD} {d:Nat} {ls ms:List E.SV} {cs ds:List Value} {w1:World} (hrec:∀ T a b p dp u v,rec T a b=some ⟨p,dp⟩->Rep E.N E.T ρ Z w u a->Rep E.N E.T ρ Z w v b->(Op.equalIn d T u v).run E.P w1=.ok (@decide p dp) w1) (hl:i7 E.N E.T ρ Z w cs ls) (hm:i7 E.N E.T ρ Z w ds ms):∀ (l:List Field) (p:Prop) (dp:Decidable p),d07 E rec ls ms l=some ⟨p,dp⟩->b8p E.P d cs.toArray ds.toArray w1 l (@decide p dp)
 | [],p,dp,h=>by
  cases h
  exact decide_eq_true trivial
 | f::r,p,dp,h=>by
  unfold d07 at h
  obtain ⟨hn,h⟩:=j3 h
  split at h
  . rename_i a b ha hb
    split at h
    . rename_i p1 dp1 q1 dq1 h1 h2
      cases h
      obtain ⟨u,hu,ru⟩:=b2y hl ha
      obtain ⟨v,hv,rv⟩:=b2y hm hb
      refine ⟨@decide p1 dp1,@decide q1 dq1,?_,by simp_all,u,v,ru w1,rv w1,hrec _ _ _ _ _ _ _ h1 hu hv,b9t hrec hl hm r q1 dq1 h2⟩
      simp_all
    . cases h
  . cases h
theorem b44:∀ (n T:Nat) (a b:E.SV) (p:Prop) (dp:Decidable p) (u v:Value),b85 E n T a b=some ⟨p,dp⟩->Rep E.N E.T ρ Z w u a->Rep E.N E.T ρ Z w v b->∀ (d:Nat) (w1:World),(Op.equalIn (d+n) T u v).run E.P w1=.ok (@decide p dp) w1
 | 0,_,_,_,_,_,_,_,h,_,_,_,_=>by cases h
 | n+1,T,a,b,p,dp,u,v,h,hu,hv,d,w1=>by
  unfold b85 at h
  split at h
  . rename_i ls ms
    split at h
    . rename_i fs hT
      cases hh:E.P.stoodInHeld T with
      | true=>simp_all
      | false =>
       rw [hh,cond_false] at h
       obtain ⟨cs,rfl,hl⟩:=hu.agg_inv
       obtain ⟨ds,rfl,hm⟩:=hv.agg_inv
       exact b4h (d:=d+n) (run_underlying hT) hh (b9t (fun T a b p dp u v h hu hv=>b44 n T a b p dp u v h hu hv d w1) hl hm fs.toList p dp h)
    . cases h
  . exact c2r h hu hv (d+n) w1
theorem d0w {P:Program} {m:Bool} {n:Nat} {ops:List Oper} {Q:Exit->Fr->World->Prop} {rest:List Oper} {f:Fr} {w:World} {d:Nat} {T T' ty:TypeId} {pos:String} {after:Array Edge} {x y:Operand} {xs ys:Array Value} {b:Bool} (hx:ev f x=.agg xs) (hy:ev f y=.agg ys) (hg:P.eqGuardType P.depth T=false) (he:∀ w,(Op.equal T (.agg xs) (.agg ys)).run P w=.ok b w) (hn:Nat.blt d n=true) (K:WL P m n ops Q rest (upd f d (.bool b)) w) :
  WL P m n ops Q (⟨some d,.binOp .eql T x y T',ty,pos,after,none⟩::rest) f w :=
 n6 rfl rfl hn (v:=.bool b) (fun w1 _=>by simp [execOp,hx,hy,eqGuard,binOp,go_sem,he,hg]) K
theorem d2f {P:Program} {m:Bool} {n:Nat} {ops:List Oper} {Q:Exit->Fr->World->Prop} {rest:List Oper} {f:Fr} {w:World} {d:Nat} {T T' ty:TypeId} {pos:String} {after:Array Edge} {x y:Operand} {xs ys:Array Value} {b:Bool} (hx:ev f x=.agg xs) (hy:ev f y=.agg ys) (hg:P.eqGuardType P.depth T=false) (he:∀ w,(Op.equal T (.agg xs) (.agg ys)).run P w=.ok b w) (hn:Nat.blt d n=true) (K:WL P m n ops Q rest (upd f d (.bool (!b))) w) :
  WL P m n ops Q (⟨some d,.binOp .neq T x y T',ty,pos,after,none⟩::rest) f w :=
 n6 rfl rfl hn (v:=.bool (!b)) (fun w1 _=>by simp [execOp,hx,hy,eqGuard,binOp,go_sem,he,hg]) K
theorem c8g {op:BinOp} {ls ms:List E.SV} {cs ds:List Value} (hx:ev f x=.agg cs.toArray) (hy:ev f y=.agg ds.toArray) (hl:i7 E.N E.T ρ Z w cs ls) (hm:i7 E.N E.T ρ Z w ds ms) (h:d6p E op T ls ms=some q) (hn:Nat.blt d n=true) (K:KQ E m n ops Q rest f w d ρ Z q) :
  WL E.P m n ops Q (⟨some d,.binOp op T x y T',ty,pos,after,none⟩::rest) f w:=by
 unfold d6p at h
 split at h
 . rename_i fs hT
   split at h
   . rename_i f0 f1 a0 a1 b0 b1 hfs
     obtain ⟨hb,h⟩:=j3 h
     simp only [Bool.and_eq_true,Bool.not_eq_true',bne_iff_ne,ne_eq] at hb
     obtain ⟨⟨⟨⟨⟨g1,g2⟩,g3⟩,g4⟩,g5⟩,g6⟩:=hb
     have g5:=Nat.eq_of_beq_eq_true g5
     have g6:=Nat.eq_of_beq_eq_true g6
     obtain ⟨v0,r0,rfl,hv0,_,hl⟩:=i7.cons_inv hl
     obtain ⟨v1,r1,rfl,hv1,_,hl⟩:=i7.cons_inv hl
     obtain rfl:=i7.nil_inv hl
     obtain ⟨u0,s0,rfl,hu0,_,hm⟩:=i7.cons_inv hm
     obtain ⟨u1,s1,rfl,hu1,_,hm⟩:=i7.cons_inv hm
     obtain rfl:=i7.nil_inv hm
     split at h
     . rename_i p dp q' dq e0 e1
       have hfs':fs=#[f0,f1]:=by apply Array.ext'; simpa using hfs
       have hu:∀ w,(underlying T).run E.P w=.ok (.struct #[f0,f1]) w:=fun w=>by rw [<- hfs']; exact run_underlying hT w
       have he:∀ w1,(Op.equal T (.agg #[v0,v1]) (.agg #[u0,u1])).run E.P w1=.ok (@decide p dp && @decide q' dq) w1:=fun w1=>by
        obtain ⟨i0,k0⟩:=a3j e0 hv0 hu0 9998 w1
        obtain ⟨i1,k1⟩:=a3j e1 hv1 hu1 9998 w1
        exact b5u (d:=9999) hu g3 g4 g1 (a0f i0 (by rw [g5]; rfl)) (a0f i0 (by rw [g5]; rfl)) (a0f i1 (by rw [g6]; rfl)) (a0f i1 (by rw [g6]; rfl)) k0 k1
       cases op with
       | eql =>
        simp only at h
        refine d0w hx hy g2 he hn ?_
        have:(@decide p dp && @decide q' dq)=@decide (p/\q') inferInstance:=by
         by_cases hp:p <;> by_cases hq:q' <;> simp [hp,hq]
        rw [this]
        exact K.bln h
       | neq =>
        simp only at h
        refine d2f hx hy g2 he hn ?_
        have:(!(@decide p dp && @decide q' dq))=@decide (¬ (p/\q')) inferInstance:=by
         by_cases hp:p <;> by_cases hq:q' <;> simp [hp,hq]
        rw [this]
        exact K.bln h
       | _=>cases h
     . cases h
   . cases h
 . cases h
theorem c9u {op:BinOp} {ls ms:List E.SV} {cs ds:List Value} (hx:ev f x=.agg cs.toArray) (hy:ev f y=.agg ds.toArray) (hl:i7 E.N E.T ρ Z w cs ls) (hm:i7 E.N E.T ρ Z w ds ms) (h:d3v E op T ls ms=some q) (hn:Nat.blt d n=true) (K:KQ E m n ops Q rest f w d ρ Z q) :
  WL E.P m n ops Q (⟨some d,.binOp op T x y T',ty,pos,after,none⟩::rest) f w:=by
 unfold d3v at h
 split at h
 . rename_i q2 h2
   cases h
   exact c8g hx hy hl hm h2 hn K
 . cases hg:E.P.eqGuardType E.P.depth T with
   | true=>simp_all
   | false =>
    rw [hg,cond_false] at h
    split at h
    . rename_i p dp he
      have hq:∀ w1,(Op.equal T (.agg cs.toArray) (.agg ds.toArray)).run E.P w1=.ok (@decide p dp) w1:=fun w1=>b44 4 T (.agg ls) (.agg ms) p dp _ _ he hl hm 9996 w1
      cases op with
      | eql =>
       simp only at h
       exact d0w hx hy hg hq hn (K.bln h)
      | neq =>
       simp only at h
       refine d2f hx hy hg hq hn ?_
       have:(!(@decide p dp))=@decide (¬ p) inferInstance:=by
        by_cases hp:p <;> simp [hp]
       rw [this]
       exact K.bln h
      | _=>cases h
    . cases h
theorem d0d {op:BinOp} {sx sy:E.SV} (hx:Rep E.N E.T ρ Z w (ev f x) sx) (hy:Rep E.N E.T ρ Z w (ev f y) sy) (h:d6v E op T (isC y) sx sy=some q) (ho:q6 q.ob) (hn:Nat.blt d n=true) (K:KQ E m n ops Q rest f w d ρ Z q) :
  WL E.P m n ops Q (⟨some d,.binOp op T x y T',ty,pos,after,none⟩::rest) f w:=by
 have boolc:∀ {s:E.SV},Rep E.N E.T ρ Z w (ev f x) s->(bif E.isBool T then (match Y7 s,Y7 sy with | some ⟨p,d⟩,some ⟨q,e⟩=>a23 op p q d e | _,_=>none) else none)=some q->WL E.P m n ops Q (⟨some d,.binOp op T x y T',ty,pos,after,none⟩::rest) f w:=fun {s} hs h=>by
  obtain ⟨hb,h⟩:=j3 h
  have hT:=a58 hb
  cases hp:Y7 s with
  | none=>simp_all
  | some pd =>
   obtain ⟨p,dp⟩:=pd
   cases hq:Y7 sy with
   | none=>simp_all
   | some qd =>
    obtain ⟨p',dp'⟩:=qd
    rw [hp,hq] at h
    have e1:=hs.boolv hp
    have e2:=hy.boolv hq
    cases op with
    | eql =>
     simp only [a23] at h
     refine d3o hT e1 e2 hn ?_
     rw [R2 (show (@decide p dp=@decide p' dp')↔(p↔p') by simp_all)]
     exact K.bln h
    | neq =>
     simp only [a23] at h
     refine d3c hT e1 e2 hn ?_
     rw [R2 (show (@decide p dp≠@decide p' dp')↔¬ (p↔p') by simp_all)]
     exact K.bln h
    | _=>simp [a23] at h
 unfold d6v at h
 cases sx with
 | int k a =>
  cases sy with
  | int k' b =>
   generalize hvx:ev f x=vx at hx
   generalize hvy:ev f y=vy at hy
   cases hx with
   | int ha=>cases hy with
    | int hb=>exact c1f hvx hvy ha h ho hn K
  | _=>cases h
 | byte a =>
  cases sy with
  | byte b =>
   generalize hvx:ev f x=vx at hx
   generalize hvy:ev f y=vy at hy
   cases hx; cases hy
   exact b6c hvx hvy h ho hn K
  | _=>cases h
 | str a =>
  cases sy with
  | str b =>
   generalize hvx:ev f x=vx at hx
   generalize hvy:ev f y=vy at hy
   cases hx; cases hy
   exact c2b hvx hvy h ho hn K
  | _=>cases h
 | err a =>
  cases sy with
  | err b =>
   cases b with
   | nil =>
    have ⟨hi,h2⟩:=j3 h
    clear h
    simp only [Bool.and_eq_true] at hi
    obtain ⟨hc,hi⟩:=hi
    obtain ⟨ms,hT⟩:=b43 hi
    cases y with
    | const v =>
     have hx':a3q E.T Z w (ev f x) a:=by
      generalize ev f x=vx at hx
      cases hx with
      | err hx=>exact hx
     have hv:v=.nilIface:=by
      change Rep E.N E.T ρ Z w v _ at hy
      cases hy with
      | err hy=>cases hy; rfl
     subst hv
     cases op with
     | eql=>simp only [b0j] at h2; exact c5k hT hx' hn (K.bln h2)
     | neq=>simp only [b0j] at h2; exact c3x hT hx' hn (K.bln h2)
     | _=>simp [b0j] at h2
    | _=>cases hc
   | _=>cases h
  | _=>cases h
 | ref id off =>
  cases sy with
  | con v =>
   cases v with
   | pointer a =>
    cases a with
    | none =>
     obtain ⟨hi,h⟩:=j3 h
     obtain ⟨e,hT⟩:=V0 hi
     generalize hvx:ev f x=vx at hx
     generalize hvy:ev f y=vy at hy
     cases hx; cases hy
     cases op with
     | eql=>simp only [a01] at h; exact c9j hT hvx hvy hn (K.q0 h .ff)
     | neq=>simp only [a01] at h; exact c93 hT hvx hvy hn (K.q0 h .tt)
     | _=>simp [a01] at h
    | some a=>cases h
   | _=>cases h
  | _=>cases h
 | con u =>
  cases sy with
  | con v =>
   cases u with
   | pointer a =>
    cases v with
    | pointer b =>
     cases a with
     | none =>
      cases b with
      | none =>
       obtain ⟨hi,h⟩:=j3 h
       obtain ⟨e,hT⟩:=V0 hi
       generalize hvx:ev f x=vx at hx
       generalize hvy:ev f y=vy at hy
       cases hx; cases hy
       cases op with
       | eql=>simp only [a01] at h; exact c95 hT hvx hvy hn (K.q0 h .tt)
       | neq=>simp only [a01] at h; exact c8w hT hvx hvy hn (K.q0 h .ff)
       | _=>simp [a01] at h
      | some b=>cases h
     | some a=>cases h
    | _=>cases h
   | _=>cases h
  | _=>cases h
 | tt=>grind
 | ff=>grind
 | bl p dp=>grind
 | agg ls =>
  cases sy with
  | agg ms =>
   generalize hvx:ev f x=vx at hx
   generalize hvy:ev f y=vy at hy
   obtain ⟨cs,rfl,hl⟩:=Rep.agg_inv hx
   obtain ⟨ds,rfl,hm⟩:=Rep.agg_inv hy
   exact c9u hvx hvy hl hm h hn K
  | _=>cases h
 | nils =>
  cases sy with
  | nils =>
   obtain ⟨hi,h⟩:=j3 h
   obtain ⟨e,hT⟩:=a42 hi
   generalize hvx:ev f x=vx at hx
   generalize hvy:ev f y=vy at hy
   cases hx; cases hy
   cases op with
   | eql=>simp only [S4] at h; cases h; exact c9a hT hvx hvy hn (K.q0 rfl .tt)
   | neq=>simp only [S4] at h; cases h; exact c8x hT hvx hvy hn (K.q0 rfl .ff)
   | _=>simp [S4] at h
  | _=>cases h
 | sl t l =>
  cases sy with
  | nils =>
   obtain ⟨hi,h⟩:=j3 h
   obtain ⟨e,hT⟩:=a42 hi
   generalize hvx:ev f x=vx at hx
   generalize hvy:ev f y=vy at hy
   cases hy
   have hA:l≠[]->∃ a n' c,ev f x=.slice (some a) n' c:=fun hne=>by
    rw [hvx]
    cases hx with | sl hx =>
    obtain ⟨_,A,cap,e1,⟨hn0,hcap⟩,_⟩:=hx
    simp only [List.cons.injEq,and_true] at e1
    subst e1
    cases A with
    | some a=>exact ⟨a,_,_,rfl⟩
    | none =>
     simp_all
   cases op with
   | eql =>
    simp only [S4] at h
    cases h
    obtain ⟨a,n',c,ha⟩:=hA ho.1
    exact c9y hT ha hvy hn (K _ .ff trivial)
   | neq =>
    simp only [S4] at h
    cases h
    obtain ⟨a,n',c,ha⟩:=hA ho.1
    exact d09 hT ha hvy hn (K _ .tt trivial)
   | _=>simp [S4] at h
  | _=>cases h
 | _=>exact boolc hx h
end
end Go.Rx
end
section
namespace Go.Rx
open Go Go.Wk Go.Wl
section
variable {N:Uni} {T:N3} {ρ:n9} {Z:Nat->Prop} {w:World} {v:Value} {s:SV N} {cs:List Value} {ss:List (SV N)}
theorem i7.app {c2:List Value} {s2:List (SV N)} (h:i7 N T ρ Z w cs ss) (h2:i7 N T ρ Z w c2 s2):i7 N T ρ Z w (cs++c2) (ss++s2):=by
 induction ss generalizing cs with
 | nil=>have:=i7.nil_inv h; simp_all
 | cons s ss ih=>obtain ⟨v,r,rfl,h1,hp,h⟩:=i7.cons_inv h; exact Rep.agg1 h1 hp (ih h)
theorem i7.set1 (h:i7 N T ρ Z w cs ss) (h1:Rep N T ρ Z w v s) (hp:w5 v=true):∀ o:Nat,i7 N T ρ Z w (cs.set o v) (ss.set o s):=by
 intro o
 induction o generalizing cs ss with
 | zero =>
  cases ss with
  | nil=>have:=i7.nil_inv h; simp_all
  | cons s' ss=>obtain ⟨v',r,rfl,_,_,h⟩:=i7.cons_inv h; exact Rep.agg1 h1 hp h
 | succ o ih =>
  cases ss with
  | nil=>have:=i7.nil_inv h; simp_all
  | cons s' ss=>obtain ⟨v',r,rfl,h2,hp2,h⟩:=i7.cons_inv h; exact Rep.agg1 h2 hp2 (ih h)
def e0b:SV N->Bool
 | .un=>false
 | .undef=>false
 | .agg _=>false
 | .tup _=>false
 | _=>true
theorem Rep.plain_of (h:Rep N T ρ Z w v s) (hf:e0b s=true):w5 v=true:=by
 cases h with
 | un=>cases hf
 | undef=>cases hf
 | agg0=>cases hf
 | agg1 h hp r=>cases hf
 | tup0=>cases hf
 | tup1 h r=>cases hf
 | con h=>exact h
 | sl h=>obtain ⟨A,cap,rfl⟩:=P5 h; rfl
 | err h=>cases h <;> rfl
 | _=>rfl
theorem b3d {v:Value} (h:w5 v=true):v.cells=#[v]:=c23 h
end
section
variable {E:Env} {C:Ctx} {m:Bool} {n:Nat} {ops:List Oper} {Q:Exit->Fr->World->Prop} {rest:List Oper} {f:Fr} {w:World} {d:Nat}
variable {ty T T':TypeId} {pos:String} {after:Array Edge} {x y z:Operand} {k k':IntKind} {a b:Int} {ρ:n9} {Z:Nat->Prop} {its:i6 E.N} {nx:Nat} {q:Q1 E.N}
theorem Rep.leaves {v:Value} {s:E.SV} (h:Rep E.N E.T ρ Z w v s) (hf:flat s=true):i7 E.N E.T ρ Z w v.cells.toList (leaves s):=by
 cases s with
 | agg vs=>obtain ⟨cs,rfl,h⟩:=Rep.agg_inv h; exact h
 | un=>cases hf
 | undef=>cases hf
 | tup vs=>cases hf
 | _=>have hp:=h.plain_of rfl; rw [b3d hp]; exact Rep.agg1 h hp Rep.agg0
theorem i7.setLeaves {cs c:List Value} {ss vs:List E.SV} {o:Nat} (h:i7 E.N E.T ρ Z w cs ss) (hc:i7 E.N E.T ρ Z w c vs):i7 E.N E.T ρ Z w (v7 cs o c) (setLeaves E ss o vs):=by
 induction vs generalizing cs ss c o with
 | nil=>have:=i7.nil_inv hc; subst this; exact h
 | cons s vs ih=>obtain ⟨v,r,rfl,h1,hp,h2⟩:=i7.cons_inv hc; exact ih (h.set1 h1 hp o) h2
theorem d3p {P:Program} {m:Bool} {d:Nat} (hx:ev f x=.int k a) (hn:Nat.blt d n=true) (K:WL P m n ops Q rest (upd f d (.int k (k.wrap (BitVec.ofInt k.bits (if k.signed then -1 else k.max) ^^^ BitVec.ofInt k.bits a).toNat))) w):WL P m n ops Q (⟨some d,.unOp .xor T x,ty,pos,after,none⟩::rest) f w :=
 n6 rfl rfl hn (v:=.int k (k.wrap (BitVec.ofInt k.bits (if k.signed then -1 else k.max) ^^^ BitVec.ofInt k.bits a).toNat)) (fun _ _=>by simp [execOp,hx,Op.unary,Op.intBits,go_sem]) K
theorem d5j {op:UnOp} {sx:E.SV} (hx:Rep E.N E.T ρ Z w (ev f x) sx) (h:qUn op sx=some q) (ho:q6 q.ob) (hn:Nat.blt d n=true) (K:KQ E m n ops Q rest f w d ρ Z q) :
  WL E.P m n ops Q (⟨some d,.unOp op T x,ty,pos,after,none⟩::rest) f w:=by
 generalize hv:ev f x=vx at hx
 unfold qUn at h
 cases hx with
 | tt=>cases op <;> first | exact c4e hv hn (K.q0 h .ff) | cases h
 | ff=>cases op <;> first | exact c4e hv hn (K.q0 h .tt) | cases h
 | @bl p dp =>
  cases op with
  | not =>
   refine c4e hv hn ?_
   rw [show (!@decide p dp)=decide (¬ p) by simp]
   exact K.bln h
  | _=>cases h
 | @int k a ha =>
  cases op with
  | neg =>
   cases k with
   | i64 =>
    simp only [Option.some.injEq] at h; subst h
    refine e1c hv hn ?_
    rw [wrap64 ho.1]; exact K _ (.int fun _=>ho.1) trivial
   | _=>cases h
  | xor=>cases k <;> exact d3p hv hn (K.q0 h (.int (a13 _)))
  | _=>cases h
 | _=>cases h
theorem c9s {cs:List Value} {vs:List E.SV} (h:Rep E.N E.T ρ Z w (.tuple cs.toArray) (.tup vs)):∀ (i:Nat) (s:E.SV),vs[i]?=some s->∃ v,cs[i]?=some v/\Rep E.N E.T ρ Z w v s:=by
 induction vs generalizing cs with
 | nil=>simp_all
 | cons s vs ih =>
  obtain ⟨v,r,rfl,h1,h2⟩:=Rep.tup_cons h
  grind
theorem b1e {i:Nat} {sx:E.SV} (hx:Rep E.N E.T ρ Z w (ev f x) sx) (h:a54 i sx=some q) (hn:Nat.blt d n=true) (K:KQ E m n ops Q rest f w d ρ Z q) :
  WL E.P m n ops Q (⟨some d,.extract x i,ty,pos,after,none⟩::rest) f w:=by
 generalize hv:ev f x=vx at hx
 cases sx with
 | tup vs =>
  simp only [a54] at h
  obtain ⟨cs,rfl⟩:=Rep.tup_inv hx
  split at h
  . rename_i s hs
    obtain ⟨v,h1,h2⟩:=c9s hx i s hs
    exact c0s hv (by simp_all) hn (K.q0 h h2)
  . cases h
 | _=>cases h
theorem a7q {sx si:E.SV} (hm:Mem E C ρ Z w its nx) (hx:Rep E.N E.T ρ Z w (ev f x) sx) (hy:Rep E.N E.T ρ Z w (ev f y) si) (h:a1a E its T si sx=some q) (ho:q6 q.ob) (hn:Nat.blt d n=true) (K:KQ E m n ops Q rest f w d ρ Z q) :
  WL E.P m n ops Q (⟨some d,.indexAddr T x y,ty,pos,after,none⟩::rest) f w:=by
 unfold a1a at h
 split at h
 . rename_i e hs
   have hT:=u5 hs
   generalize hvx:ev f x=vx at hx
   generalize hvy:ev f y=vy at hy
   cases sx with
   | sl t l =>
    cases si with
    | int k a =>
     obtain ⟨h1,h⟩:=j3 h
     simp only [Option.some.injEq] at h; subst h
     cases hx with
     | sl hx =>
      cases hy with
      | int _ =>
       obtain ⟨A,cap,rfl⟩:=P5 hx
       exact d0b hx hT (J9 h1) rfl hvx hvy ho.1 ho.2.1 hn (K _ (.fel (off:=0) hx ho.1 ho.2.1) trivial)
    | _=>cases h
   | acc id =>
    simp only at h
    split at h
    . rename_i k a t l hi
      obtain ⟨h1,h⟩:=j3 h
      simp only [Option.some.injEq] at h; subst h
      cases hx with
      | acc hx =>
       cases hy with
       | int _ =>
        obtain ⟨L,hL,hn1,_,hac⟩:=hm.at hi
        rw [hx] at hL; cases hL
        exact c1h hac hT (J9 h1) hvx hvy ho.1 (by rw [hn1]; exact ho.2.1) hn (K _ (.el (off:=0) hx ho.1 (by rw [hn1]; exact ho.2.1)) trivial)
    . rename_i k a t nn cells hi
      obtain ⟨h1,h⟩:=j3 h
      simp only [Option.some.injEq] at h; subst h
      have ha0:0<=a:=ho.1
      have ha1:a<(nn:Int):=ho.2.1
      cases hx with
      | acc hx =>
       cases hy with
       | int _ =>
        obtain ⟨L,F,hL,hn1,hb,hA,hrw,_⟩:=hm.at hi
        rw [hx] at hL; cases hL
        have hA:=hA (by omega)
        rw [hA,hn1] at hvx
        refine b26 hT (J9 h1) hvx hvy ha0 (by omega) hn (K _ ?_ trivial)
        rw [Nat.zero_add]
        exact .ref hx
    . cases h
   | sub id t lo nn =>
    simp only at h
    split at h
    . rename_i k a t' l hi
      obtain ⟨h1,h⟩:=j3 h
      simp only [Option.some.injEq] at h; subst h
      have ha0:0<=a:=ho.1
      have ha1:a<nn:=ho.2.1
      cases hx with
      | subs hx l0 n0 l1 hc hA =>
       cases hy with
       | int _ =>
        obtain ⟨L,hL,hn1,_,hac⟩:=hm.at hi
        rw [hx] at hL; cases hL
        rcases hac with ⟨e1,e2,_⟩ | ⟨b,cap',C,T',e1,_,_,_,hle,_⟩
        . grind
        . simp only [Value.slice.injEq] at e1
          obtain ⟨eA1,_,ecap⟩:=e1
          rw [if_neg (by omega),eA1] at hA
          have hA:_=some (⟨b,0+lo.toNat * (E.N.tb t).r.sz,none⟩:Addr):=hA.trans (by
           show some (Addr.add ⟨b,0,none⟩ _)=_
           unfold Addr.add
           simp_all)
          refine b26 hT (J9 h1) (hvx.trans (by rw [hA])) hvy ha0 (by omega) hn (K _ ?_ trivial)
          have hp:=Rep.el (N:=E.N) (T:=E.T) (Z:=Z) (w:=w) (t:=t) (off:=0) (i:=lo+a) hx (by omega) (by omega)
          rw [eA1] at hp
          have ez:0+lo.toNat * (E.N.tb t).r.sz+a.toNat * (E.N.tb t).r.sz=0+((lo+a).toNat * (E.N.tb t).r.sz+0):=by
           rw [show (lo+a).toNat=lo.toNat+a.toNat by omega,Nat.add_mul]; omega
          have e2:(eA (some ⟨b,0,none⟩) ((lo+a).toNat * (E.N.tb t).r.sz+0))=⟨b,0+lo.toNat * (E.N.tb t).r.sz+a.toNat * (E.N.tb t).r.sz,none⟩:=by rw [ez]; rfl
          simp_all
    . cases h
   | _=>cases h
 . cases h
theorem c81 {fi o nn:Nat} (h:E.fld T fi=some (o,nn)):∃ fs fd,(∀ w,(underlying T).run E.P w=.ok (.struct fs) w)/\fs[fi]?=some fd/\(∀ w,(sizeOf fd.type).run E.P w=.ok nn w)/\fd.offset=o:=by
 unfold Env.fld at h
 split at h
 . rename_i fs hu
   split at h
   . rename_i fd hf
     split at h
     . rename_i sz hs
       simp only [Option.some.injEq,Prod.mk.injEq] at h
       obtain ⟨rfl,rfl⟩:=h
       exact ⟨fs,fd,G4 hu,hf,H1 hs,rfl⟩
     . cases h
   . cases h
 . cases h
theorem a7o {sx:E.SV} {fi o nn:Nat} (hx:Rep E.N E.T ρ Z w (ev f x) sx) (hf:E.fld T fi=some (o,nn)) (hp:Nat.blt 0 nn=true) (h:a17 o sx=some q) (hn:Nat.blt d n=true) (K:KQ E m n ops Q rest f w d ρ Z q) :
  WL E.P m n ops Q (⟨some d,.fieldAddr T x fi,ty,pos,after,none⟩::rest) f w:=by
 obtain ⟨fs,fd,hT,hfd,hz,rfl⟩:=c81 hf
 have hp:=A1 hp
 obtain ⟨mm,rfl⟩:∃ mm,nn=mm+1:=⟨nn-1,by omega⟩
 generalize hv:ev f x=vx at hx
 unfold a17 at h
 cases hx with
 | ref hL=>exact b2j hT hfd hz hv hn (K.q0 h (.ref hL))
 | el hL h0 h1=>refine b9w hT hfd hz hv hn (K.q0 h ?_); rw [Nat.add_assoc]; exact .el hL h0 h1
 | fel hL h0 h1=>refine b9w hT hfd hz hv hn (K.q0 h ?_); rw [Nat.add_assoc]; exact .fel hL h0 h1
 | _=>cases h
theorem X3 {b:Bool} (h:E.aggOf T=some b):∀ w,(isAgg T).run E.P w=.ok b w:=b0u h
theorem Cells.part {b o:Nat} {cs:List Value} (h:Cells w b o cs) (j k:Nat):Cells w b (o+j) ((cs.drop j).take k):=by
 obtain ⟨C,T,z,hh,hc⟩:=h
 refine ⟨C,T,z,hh,fun i hi=>?_⟩
 grind
theorem Cells.one {b o:Nat} {cs:List Value} {v:Value} (h:Cells w b o cs) {j:Nat} (hj:cs[j]?=some v):Cells w b (o+j) [v]:=by
 obtain ⟨C,T,z,hh,hc⟩:=h
 have hlt:j<cs.length:=by
  rcases Nat.lt_or_ge j cs.length with h | h
  . exact h
  . simp_all
 refine ⟨C,T,z,hh,fun i hi=>?_⟩
 simp_all
theorem a9b {ls:List E.SV} {cs:List Value} {off:Nat} {s:E.SV} {ad:Addr} (hc:∀ j,∃ b o,ad=⟨b,o,none⟩/\(∀ k,Cells w b (o+j) ((cs.drop j).take k))/\∀ v,cs[j]?=some v->Cells w b (o+j) [v]) (hr:i7 E.N E.T ρ Z w cs ls) (h:part E ls off T=some s)
  (hx:ev f x=.pointer (some ⟨ad.block,ad.off+off,none⟩)) (hn:Nat.blt d n=true) (K:∀ v,Rep E.N E.T ρ Z w v s->WL E.P m n ops Q rest (upd f d v) w) :
  WL E.P m n ops Q (⟨some d,.load T x,ty,pos,after,none⟩::rest) f w:=by
 obtain ⟨b,o,rfl,h1,h2⟩:=hc off
 unfold part at h
 split at h
 . rename_i ha
   split at h
   . rename_i nn hs
     obtain ⟨hle,h⟩:=j3 h
     simp only [Option.some.injEq] at h; subst h
     have hle:=Nat.le_of_ble_eq_true hle
     have hlen:=hr.len
     exact c2p (X3 ha) (H1 hs) (cs:=(cs.drop off).take nn) (by grind) hx (h1 nn) hn (K _ ((hr.drop off).take nn))
   . cases h
 . rename_i ha
   obtain ⟨v,hv,hrep,_⟩:=hr.get off s h
   exact c8l (X3 ha) hx (h2 v hv) hn (K v hrep)
 . cases h
theorem b3g {A:Option Addr} {q0:Nat} {cs:List Value} (h:a9g w (eA A q0) cs):∀ j,∃ b o,eA A q0=⟨b,o,none⟩/\(∀ k,Cells w b (o+j) ((cs.drop j).take k))/\∀ v,cs[j]?=some v->Cells w b (o+j) [v]:=fun j=>by
 obtain ⟨hs,hc⟩:=h
 refine ⟨(eA A q0).block,(eA A q0).off,?_,fun k=>Cells.part hc j k,fun v hv=>Cells.one hc hv⟩
 generalize eA A q0=a at hs
 obtain ⟨b,o,s⟩:=a; simp_all
theorem c9m (A:Option Addr) (q0 off:Nat):eA A (q0+off)=⟨(eA A q0).block,(eA A q0).off+off,none⟩:=by
 cases A with
 | none=>rfl
 | some a=>obtain ⟨b,o,s⟩:=a; simp [eA,Nat.add_assoc]
theorem d5l {ps:List Prop} (h:∀ p∈ps,p):q6 ps:=by
 induction ps with
 | nil=>trivial
 | cons p ps ih=>exact ⟨h p (by simp),ih fun q hq=>h q (by simp [hq])⟩
theorem c2w {t off:Nat} {l:List (E.N.U t)} {i:Int} {A:Option Addr} {c:List Value} (hc:a9g w (eA A (i.toNat * (E.N.tb t).r.sz)) c) (hr:(E.N.tb t).r.rd Z w c (ix l i)) (h:qEl E t l i off T=some q)
  (hx:ev f x=.pointer (some (eA A (i.toNat * (E.N.tb t).r.sz+off)))) (hn:Nat.blt d n=true) (K:KQ E m n ops Q rest f w d ρ Z q) :
  WL E.P m n ops Q (⟨some d,.load T x,ty,pos,after,none⟩::rest) f w:=by
 unfold qEl at h
 split at h
 . rename_i yy hty
   split at h
   . rename_i s hs
     simp only [Option.some.injEq] at h; subst h
     rw [c9m] at hx
     exact a9b (b3g hc) (yy.sv_ok hr) hs hx hn (fun v hv=>K v hv (d5l (yy.hy_ok hr)))
   . cases h
 . cases h
theorem c5d {sx:E.SV} (hm:Mem E C ρ Z w its nx) (hx:Rep E.N E.T ρ Z w (ev f x) sx) (h:b8z its T sx=some q) (hn:Nat.blt d n=true) (K:KQ E m n ops Q rest f w d ρ Z q) :
  WL E.P m n ops Q (⟨some d,.load T x,ty,pos,after,none⟩::rest) f w:=by
 generalize hv:ev f x=vx at hx
 cases sx with
 | ref id off =>
  simp only [b8z] at h
  split at h
  . rename_i Ty cells hi
    split at h
    . rename_i s hs
      cases hx with
      | ref hL =>
       obtain ⟨L,cs,hL',hbs,ho,hr⟩:=hm.at hi
       rw [hL] at hL'; cases hL'
       exact a9b (ad:=⟨_,0,none⟩) (fun j=>⟨_,0,rfl,fun k=>Cells.part ho.all j k,fun v hv=>Cells.one ho.all hv⟩) hr hs (by simp_all) hn (fun v hv=>K.q0 h hv)
    . cases h
  . rename_i t nn cells hi
    have ⟨hn0,h2⟩:=j3 h
    clear h
    have hn0:=A1 hn0
    split at h2
    . rename_i s hs
      cases hx with
      | ref hL =>
       obtain ⟨L,F,hL',hn1,hb,hA,hrw,hr⟩:=hm.at hi
       rw [hL] at hL'; cases hL'
       have hA:=hA hn0
       obtain ⟨b,e1,_,hc⟩:=hrw.cells hn0
       rw [hA] at e1
       simp only [Option.some.injEq,Addr.mk.injEq] at e1
       rw [<- e1.1] at hc
       exact a9b (ad:=⟨_,0,none⟩) (fun j=>⟨_,0,rfl,fun k=>Cells.part hc j k,fun v hv=>Cells.one hc hv⟩) hr hs (by simp_all) hn (fun v hv=>K.q0 h2 hv)
    . cases h2
  . cases h
 | fel t l i off =>
  cases hx with
  | fel hL h0 h1 =>
   obtain ⟨c,hc,hr⟩:=c88 (q:=i.toNat * (E.N.tb t).r.sz) (o:=0) hL (Sub.self _) rfl (Nat.add_zero _).symm h0 h1
   exact c2w hc hr h hv hn K
 | el id t' i off =>
  simp only [b8z] at h
  split at h
  . rename_i t l hi
    have ⟨ht,h2⟩:=j3 h
    clear h
    have:=Nat.eq_of_beq_eq_true ht; subst this
    cases hx with
    | el hL h0 h1 =>
     obtain ⟨L,hL',hn1,_,hac⟩:=hm.at hi
     rw [hL] at hL'; cases hL'
     obtain ⟨c,hc,hr⟩:=d0h (q:=i.toNat * (E.N.tb t).r.sz) (o:=0) hac (Sub.self _) rfl (Nat.add_zero _).symm h0 h1
     exact c2w hc hr h2 hv hn K
  . cases h
 | _=>cases h
theorem c83 {sx:E.SV} (hx:Rep E.N E.T ρ Z w (ev f x) sx) (h:d3b sx=some q) (hn:Nat.blt d n=true) (K:KQ E m n ops Q rest f w d ρ Z q) :
  WL E.P m n ops Q (⟨some d,.nilCheck x,ty,pos,after,none⟩::rest) f w:=by
 generalize hv:ev f x=vx at hx
 unfold d3b at h
 cases hx with
 | ref hL=>exact a6d hv hn (K.q0 h (.ref hL))
 | fel hr h0 h1=>exact a6d hv hn (K.q0 h (.fel hr h0 h1))
 | _=>cases h
theorem c17 {sx si:E.SV} (hx:Rep E.N E.T ρ Z w (ev f x) sx) (hy:Rep E.N E.T ρ Z w (ev f y) si) (h:b5w E T si sx=some q) (ho:q6 q.ob) (hn:Nat.blt d n=true) (K:KQ E m n ops Q rest f w d ρ Z q) :
  WL E.P m n ops Q (⟨some d,.index T x y,ty,pos,after,none⟩::rest) f w:=by
 generalize hvx:ev f x=vx at hx
 generalize hvy:ev f y=vy at hy
 unfold b5w at h
 cases hx with
 | str hl =>
  cases hy with
  | int ha =>
   obtain ⟨hs,h⟩:=j3 h
   simp only [Option.some.injEq] at h; subst h
   exact c3q (L5 hs) hvx hvy ho.1 ho.2.1 hn (K _ .byte trivial)
  | _=>cases h
 | _=>cases h
theorem b8o {fs:Array Field} {fd:Field} {fi:Nat} {cs:Array Value} {v:Value} (hT:∀ w,(underlying T).run E.P w=.ok (.struct fs) w) (hf:fs[fi]?=some fd) (hx:ev f x=.agg cs) (hp:∀ w,(Go.part fd.type cs fd.offset).run E.P w=.ok v w) (hn:Nat.blt d n=true) (K:WL E.P m n ops Q rest (upd f d v) w) :
  WL E.P m n ops Q (⟨some d,.field T x fi,ty,pos,after,none⟩::rest) f w :=
 n6 rfl rfl hn (v:=v) (fun w1 _=>by
  have h:=hp w1
  simp [Go.part,go_sem] at h
  simp [execOp,hx,Instr.field,hT,hf,asAgg,go_sem,h]) K
theorem c1y {fi:Nat} {sx:E.SV} (hx:Rep E.N E.T ρ Z w (ev f x) sx) (h:b6n E T fi sx=some q) (hn:Nat.blt d n=true) (K:KQ E m n ops Q rest f w d ρ Z q) :
  WL E.P m n ops Q (⟨some d,.field T x fi,ty,pos,after,none⟩::rest) f w:=by
 generalize hv:ev f x=vx at hx
 cases sx with
 | agg ls =>
  simp only [b6n] at h
  obtain ⟨cs,rfl,hr⟩:=hx.agg_inv
  split at h
  . rename_i fs hT
    split at h
    . rename_i fd hf
      split at h
      . rename_i s hp
        unfold part at hp
        split at hp
        . rename_i ha
          split at hp
          . rename_i nn hs
            obtain ⟨hle,hp⟩:=j3 hp
            simp only [Option.some.injEq] at hp; subst hp
            refine b8o (v:=.agg ((cs.drop fd.offset).take nn).toArray) (fun w=>G4 hT w) hf hv (fun w1=>?_) hn (K.q0 h ((hr.drop fd.offset).take nn))
            have e:cs.toArray.extract fd.offset (fd.offset+nn)=((cs.drop fd.offset).take nn).toArray:=by
             apply Array.ext'
             simp [List.drop_take,Nat.add_sub_cancel_left]
            have ha1:=X3 ha w1
            have hs1:=H1 hs w1
            unfold Go.part
            simp_all
          . cases hp
        . rename_i ha
          obtain ⟨v,hv2,hrep,_⟩:=hr.get fd.offset s hp
          exact b8o (v:=v) (fun w=>G4 hT w) hf hv (fun w1=>a0f (X3 ha w1) (by simp_all)) hn (K.q0 h hrep)
        . cases hp
      . cases h
    . cases h
  . cases h
 | _=>cases h
end
end Go.Rx
end
section
namespace Go.Rx
open Go Go.Wk Go.Wl
section
variable {E:Env} {C:Ctx} {m:Bool} {n:Nat} {ops:List Oper} {Q:Exit->Fr->World->Prop} {rest:List Oper} {f:Fr} {w:World} {d:Nat}
variable {ty T T':TypeId} {pos:String} {after:Array Edge} {x y z:Operand} {k k':IntKind} {a b:Int} {ρ:n9} {Z:Nat->Prop} {its:i6 E.N} {nx:Nat} {q:Q1 E.N}
theorem a6r {α:Type} {r:Rd α} {D:Nat->Prop} {A:Option Addr} {l:List α} {cap a b:Nat} (h:(v8 r).rd D w [.slice A l.length cap] l) (h1:a<=b) (h2:b<=l.length) :
  (v8 r).rd D w [.slice (if cap=a then A else A.map (·.add (a * r.sz))) (b-a) (cap-a)] ((l.take b).drop a):=by
 obtain ⟨hl,A',cap',e,⟨h0,hc⟩,hr⟩:=h
 simp at e; obtain ⟨rfl,rfl⟩:=e
 have hlen:((l.take b).drop a).length=b-a:=by rw [List.length_drop,List.length_take]; omega
 refine ⟨by omega,_,_,by rw [hlen],⟨fun hA=>?_,by omega⟩,fun i hi=>?_⟩
 . split at hA
   all_goals simp_all
 . rw [hlen] at hi
   obtain ⟨bb,o,c,rfl,hb,hcc,hrr⟩:=hr (a+i) (by omega)
   have e1:((l.take b).drop a)[i]'(by omega)=l[a+i]'(by omega):=by rw [List.getElem_drop,List.getElem_take]
   rw [e1]
   rw [if_neg (by omega)]
   refine ⟨bb,o+a * r.sz,c,?_,hb,by grind,hrr⟩
   simp only [Option.map_some,Option.some.injEq,Addr.add]
   simp_all
theorem a5x {e nn cap sz:Nat} {A:Option Addr} {lo hi:Option Operand} {a b:Int} (hT:∀ w,(underlying T).run E.P w=.ok (.slice e) w) (hz:∀ w,(sizeOf e).run E.P w=.ok sz w) (hx:ev f x=.slice A nn cap)
  (hlo:match lo with | some o=>ev f o=.int .i64 a | none=>a=0) (hhi:match hi with | some o=>ev f o=.int .i64 b | none=>b=nn) (h0:0<=a/\a<=b/\b<=nn) (hc:nn<=cap) (hn:Nat.blt d n=true)
  (K:WL E.P m n ops Q rest (upd f d (.slice (if cap=a.toNat then A else A.map (·.add (a.toNat * sz))) (b.toNat-a.toNat) (cap-a.toNat))) w):WL E.P m n ops Q (⟨some d,.slice T x lo hi none,ty,pos,after,none⟩::rest) f w :=
 n6 rfl rfl hn (fun _ _=>by
  have hb0:0<=b:=by omega
  have hb1:b<=(cap:Int):=by omega
  have hbn:b.toNat<=cap:=by omega
  have hab:a<=((b.toNat:Nat):Int):=by omega
  cases lo with
  | none =>
   simp only at hlo; subst hlo
   cases hi with
   | none=>simp only at hhi; subst hhi; simp [execOp,hx,Instr.sliceAt,Instr.slice,Instr.sliceBounds,hT,hz,go_sem]
   | some o2=>simp only at hhi; simp [execOp,hx,hhi,Instr.sliceAt,Instr.slice,Instr.sliceBounds,Instr.sliceBound,asIntOf,hT,hz,go_sem,hb0,hb1]
  | some o1 =>
   simp only at hlo
   cases hi with
   | none=>simp only at hhi; subst hhi; simp [execOp,hx,hlo,Instr.sliceAt,Instr.slice,Instr.sliceBounds,Instr.sliceBound,asIntOf,hT,hz,go_sem,h0.1,h0.2.1]
   | some o2=>simp only at hhi; simp [execOp,hx,hlo,hhi,Instr.sliceAt,Instr.slice,Instr.sliceBounds,Instr.sliceBound,asIntOf,hT,hz,go_sem,hb0,hb1,h0.1,hab]; omega) K
theorem b0g {s:E.SV} {v:Value} {a:Int} (h:Rep E.N E.T ρ Z w v s) (e:asI s=some a):v=.int .i64 a:=by
 cases h with
 | @int k x _=>cases k <;> simp [asI] at e; subst e; rfl
 | _=>simp [asI] at e
def LoP (f:Fr) (lo:Option Operand) (a z:Int):Prop:=match lo with | some o=>ev f o=.int .i64 a | none=>a=z
theorem b8h {e:Operand->E.SV} (he:∀ o,Rep E.N E.T ρ Z w (ev f o) (e o)) {lo:Option Operand} {a:Option Int} (h:b16 e lo=some a) (z:Int) :
  LoP f lo (a.getD z) z:=by
 cases lo with
 | none=>simp [b16] at h; subst h; rfl
 | some o =>
  simp only [b16,Option.map_eq_some_iff] at h
  obtain ⟨b,hb,rfl⟩:=h
  exact b0g (he o) hb
theorem c20 {e:Operand->E.SV} (he:∀ o,Rep E.N E.T ρ Z w (ev f o) (e o)) {lo hi:Option Operand} {a b:Option Int} (ha:b16 e lo=some a) (hb:b16 e hi=some b) (hm:Mem E C ρ Z w its nx) (h:b5m E its T a b (e x)=some q) (ho:q6 q.ob) (hn:Nat.blt d n=true) (K:KQ E m n ops Q rest f w d ρ Z q) :
  WL E.P m n ops Q (⟨some d,.slice T x lo hi none,ty,pos,after,none⟩::rest) f w:=by
 have hx:=he x
 generalize hv:ev f x=vx at hx
 generalize e x=sx at hx h
 have key:∀ (len:Nat),q6 (c99 len a b)->LoP f lo (a.getD 0) 0/\LoP f hi (b.getD len) len/\0<=a.getD 0/\a.getD 0<=b.getD len/\b.getD len<=len /\
   ∀ (α:Type) (l:List α),l.length=len->J6 l a b=(l.take (b.getD len).toNat).drop (a.getD 0).toNat:=fun len ho=>by
  refine ⟨b8h he ha 0,b8h he hb len,?_⟩
  cases a with
  | none =>
   cases b with
   | none=>exact ⟨by simp,by simp,by simp,fun α l hl=>by simp [J6,<- hl]⟩
   | some b=>exact ⟨by simp,by simpa using ho.1,ho.2.1,fun α l hl=>by simp [J6]⟩
  | some a =>
   cases b with
   | none=>exact ⟨ho.1,ho.2.1,by simp,fun α l hl=>by simp [J6,<- hl]⟩
   | some b=>exact ⟨ho.1,ho.2.1,ho.2.2.1,fun α l hl=>by simp [J6]⟩
 unfold b5m at h
 cases sx with
 | str s =>
  have ⟨hs,h2⟩:=j3 h
  simp only [Option.some.injEq] at h2; subst h2
  cases hx with
  | str hl =>
   obtain ⟨k1,k2,k3,k4,k5,k6⟩:=key s.length ho
   refine c73 (L5 hs) hv k1 k2 ⟨k3,k4,k5⟩ hn ?_
   rw [<- k6 _ s rfl]
   exact K _ (.str (by rw [k6 _ s rfl,List.length_drop,List.length_take]; omega)) trivial
 | sl t l =>
  simp only at h
  split at h
  . rename_i ee hs
    have ⟨h1,h2⟩:=j3 h
    simp only [Option.some.injEq] at h2; subst h2
    cases hx with
    | sl hx =>
     obtain ⟨A,cap,rfl⟩:=P5 hx
     obtain ⟨k1,k2,k3,k4,k5,k6⟩:=key l.length ho
     have hcap:l.length<=cap:=by
      obtain ⟨_,A',cap',e',⟨_,hc⟩,_⟩:=hx
      simp at e'; omega
     refine a5x (u5 hs) (J9 h1) hv k1 k2 ⟨k3,k4,k5⟩ hcap hn ?_
     refine K _ (.sl ?_) trivial
     rw [k6 _ l rfl]
     exact a6r hx (by omega) (by omega)
  . cases h
 | acc id =>
  simp only at h
  split at h
  . rename_i ee t l hs hi
    have ⟨h1,h2⟩:=j3 h
    simp only [Option.some.injEq] at h2; subst h2
    cases hx with
    | acc hL =>
     rename_i L
     obtain ⟨L',hL',hn1,hlen,hac⟩:=hm.at hi
     rw [hL] at hL'; cases hL'
     obtain ⟨k1,k2,k3,k4,k5,k6⟩:=key l.length ho
     have hcap:L.n<=L.cap:=by
      rcases hac with ⟨e1,e2,_⟩ | ⟨b,cap',C,T',e1,_,_,_,hc,_⟩
      . simp_all
      . simp_all
     refine a5x (u5 hs) (J9 h1) hv k1 (by rw [hn1]; exact k2) ⟨k3,k4,by omega⟩ hcap hn ?_
     refine K _ ?_ trivial
     have en:(b.getD l.length).toNat-(a.getD 0).toNat=(b.getD l.length-a.getD 0).toNat:=by omega
     rw [en]
     exact .subs hL k3 (by omega) (by omega) rfl rfl
  . cases h
 | _=>cases h
theorem c3m {vs:List E.SV} {cs:List Value} {e:Err} (hr:i7 E.N E.T ρ Z w cs vs) (h:c54 E T vs=some e):a3q E.T Z w (.iface T (.agg cs.toArray)) e:=by
 unfold c54 at h
 split at h
 . cases h
 . rename_i k hk
   split at h
   . cases h
     obtain ⟨v1,r1,rfl,h1,_,hr⟩:=i7.cons_inv hr
     obtain ⟨v2,r2,rfl,h2,_,hr⟩:=i7.cons_inv hr
     obtain rfl:=i7.nil_inv hr
     cases h1 with | str hs =>
     cases h2 with | int hi =>
     exact .w hk (hi rfl) (fun h=>by omega)
   . cases h
     obtain ⟨v2,r2,rfl,h2,_,hr⟩:=i7.cons_inv hr
     obtain rfl:=i7.nil_inv hr
     cases h2 with | int hi =>
     exact .w (s:=[]) hk (hi rfl) (fun h=>by omega)
   . cases h
     obtain ⟨v2,r2,rfl,h2,_,hr⟩:=i7.cons_inv hr
     obtain rfl:=i7.nil_inv hr
     cases h2 with | err h2 =>
     cases h2 with | no hi =>
     exact .w (s:=[]) hk hi (fun h=>by omega)
   . rename_i k'
     obtain rfl:=i7.nil_inv hr
     split at h
     . rename_i hle
       cases h
       exact .w (s:=[]) hk ⟨by omega,by omega⟩ (fun _=>by omega)
     . cases h
   . cases h
def c70:TypeDesc->Bool
 | .interface _=>false
 | _=>true
theorem c0y (h:E.aggOf T=some true):∃ X:TypeDesc,(∀ w,(underlying T).run E.P w=.ok X w)/\c70 X=true:=by
 unfold Env.aggOf at h
 split at h
 . rename_i fs hu; exact ⟨_,G4 hu,rfl⟩
 . rename_i a b hu; exact ⟨_,G4 hu,rfl⟩
 . cases h
 . cases h
theorem a67 {vs:List E.SV} (hx:Rep E.N E.T ρ Z w (ev f x) (.agg vs)) (h:a65 E T (.agg vs)=some q) (hn:Nat.blt d n=true) (K:KQ E m n ops Q rest f w d ρ Z q) :
  WL E.P m n ops Q (⟨some d,.makeInterface T x,ty,pos,after,none⟩::rest) f w:=by
 simp only [a65] at h
 split at h
 . rename_i hT
   split at h
   . rename_i e he
     obtain ⟨X,h1,h2⟩:=c0y hT
     obtain ⟨cs,hv,hr⟩:=Rep.agg_inv hx
     exact a2x h1 (by cases X <;> first | rfl | cases h2) hv hn (K.q0 h (.err (c3m hr he)))
   . cases h
 . cases h
theorem c0q {sx:E.SV} (hx:Rep E.N E.T ρ Z w (ev f x) sx) (h:a65 E T sx=some q) (hn:Nat.blt d n=true) (K:KQ E m n ops Q rest f w d ρ Z q) :
  WL E.P m n ops Q (⟨some d,.makeInterface T x,ty,pos,after,none⟩::rest) f w:=by
 generalize hv:ev f x=vx at hx
 unfold a65 at h
 cases hx with
 | @int k a ha =>
  cases k with
  | i64 =>
   have ⟨h1,h2⟩:=j3 h
   simp only [Bool.and_eq_true] at h1
   obtain ⟨e1,e2⟩:=h1
   have e1:=Nat.eq_of_beq_eq_true e1
   cases hi:E.intOf T with
   | none=>simp_all
   | some k =>
    refine a2x (F7 hi) rfl hv hn (K.q0 h2 (.err ?_))
    rw [e1]; exact .no (ha rfl)
  | _=>cases h
 | ref hL =>
  have ⟨h1,h2⟩:=j3 h
  simp only [Bool.and_eq_true] at h1
  obtain ⟨e,hT⟩:=V0 h1.1
  exact a2x hT rfl hv hn (K.q0 h2 (.ifc (.ref hL)))
 | agg0=>exact a67 (vs:=[]) (by rw [hv]; exact .agg0) h hn K
 | agg1 h1 hp r=>exact a67 (by rw [hv]; exact .agg1 h1 hp r) h hn K
 | _=>cases h
theorem c1q {fs:List Field} {fl:List (Nat×Nat)} (h:fs.mapM (fun f=>(E.size f.type).map fun s=>(f.offset,s))=some fl) (w:World):(fs.mapM (fun (fd:Field)=>do pure (fd.offset,<- sizeOf fd.type)):Sem (List (Nat×Nat))).run E.P w=.ok fl w:=by
 induction fs generalizing fl with
 | nil=>simp_all
 | cons f fs ih =>
  rw [List.mapM_cons] at h
  simp only [Option.bind_eq_bind,Option.bind_eq_some_iff,Option.pure_def,Option.some.injEq,Option.map_eq_some_iff] at h
  obtain ⟨p,⟨s,hs,rfl⟩,r,hr,rfl⟩:=h
  rw [List.mapM_cons]
  simp only [Sem.run_bind,H1 hs,Result.andThen_ok,Sem.run_pure,ih hr]
theorem a8k {e:Operand->E.SV} (he:∀ o,Rep E.N E.T ρ Z w (ev f o) (e o)) {fl:List (Nat×Nat)}:∀ {ps:List (Nat×Operand)} {ls ls':List E.SV} {cs:List Value},a9y E fl e ps ls=some ls'->i7 E.N E.T ρ Z w cs ls ->
  a2y fl cs.length (ps.map fun p=>(p.1,ev f p.2))=true/\i7 E.N E.T ρ Z w (a6e fl cs (ps.map fun p=>(p.1,ev f p.2))) ls'
 | [],ls,ls',cs,h,hr=>by cases h; exact ⟨rfl,hr⟩
 | p::ps,ls,ls',cs,h,hr=>by
  unfold a9y at h
  split at h
  . rename_i o nn hp
    have ⟨h1,h2⟩:=j3 h
    simp only [Bool.and_eq_true] at h1
    obtain ⟨⟨a1,a2⟩,a3⟩:=h1
    have a2:=Nat.eq_of_beq_eq_true a2
    have a3:=Nat.le_of_ble_eq_true a3
    have hl:=(he p.2).leaves a1
    have hlen:=hl.len
    have hcl:=hr.len
    have hlt:p.1<fl.length:=by
     rcases Nat.lt_or_ge p.1 fl.length with h | h
     . exact h
     . simp_all
    have hd:fl.getD p.1 (0,0)=(o,nn):=by simp [List.getD_eq_getElem?_getD,hp]
    have ih:=a8k he h2 (hr.setLeaves (o:=o) hl)
    rw [B8] at ih
    refine ⟨?_,?_⟩
    . simp only [List.map_cons,a2y,hd,Bool.and_eq_true]
      simp_all
    . simp only [List.map_cons,a6e,hd]
      exact ih.2
  . cases h
theorem b24 {v:Value} (hi:okc v=true):Rep E.N E.T ρ Z w v (c82 v):=by
 cases v with
 | int k x =>
  cases k with
  | u8 =>
   simp only [okc,Bool.and_eq_true,decide_eq_true_eq] at hi
   have e:Value.int .u8 x=bv (UInt8.ofNat x.toNat):=by
    unfold bv; rw [UInt8.toNat_ofNat']; congr 1
    have:x.toNat % 2 ^ 8=x.toNat:=Nat.mod_eq_of_lt (by omega)
    omega
   show Rep E.N E.T ρ Z w (.int .u8 x) (.byte (UInt8.ofNat x.toNat))
   rw [e]; exact .byte
  | i64=>simp only [okc,Bool.and_eq_true,decide_eq_true_eq] at hi; exact .int fun _=>hi
  | _=>exact .int fun e=>by cases e
 | bool b =>
  cases b
  . exact .ff
  . exact .tt
 | string b =>
  have e:Value.string b=sv b.data.toList:=by cases b; simp [sv]
  show Rep E.N E.T ρ Z w (.string b) (.str b.data.toList)
  rw [e]; exact .str (Nat.le_of_ble_eq_true hi)
 | slice a n c =>
  cases a with
  | none =>
   cases n with
   | zero =>
    cases c with
    | zero=>exact .nils
    | succ c=>exact .con rfl
   | succ n=>exact .con rfl
  | some a=>exact .con rfl
 | nilIface=>exact .err .nil
 | agg cs=>cases hi
 | tuple cs=>cases hi
 | _=>exact .con rfl
theorem c2k {v:Value} (h:okc v=true):w5 v=true:=by
 cases v with
 | agg cs=>cases h
 | tuple cs=>cases h
 | _=>rfl
theorem c5v {v:Value}:Rep E.N E.T ρ Z w v (d6l v):=by
 unfold d6l
 cases h:okc v with
 | true=>exact b24 h
 | false=>exact .un
theorem a4r {v:Value}:Rep E.N E.T ρ Z w v (cst v):=by
 unfold cst
 split
 . rename_i cs
   cases h:cs.toList.all okc with
   | false=>exact .un
   | true =>
    rw [cond_true]
    have key:∀ l:List Value,l.all okc=true->i7 E.N E.T ρ Z w l (l.map c82):=by
     intro l
     induction l with
     | nil=>exact fun _=>i7.nil
     | cons v r ih =>
      intro h
      simp only [List.all_cons,Bool.and_eq_true] at h
      exact Rep.agg1 (b24 h.1) (c2k h.1) (ih h.2)
    exact key _ h
 . exact c5v
theorem c2c {e:Operand->E.SV} (he:∀ o,Rep E.N E.T ρ Z w (ev f o) (e o)) {ps:Array (Nat×Operand)} (h:b6v E e T ps.toList=some q) (hn:Nat.blt d n=true) (K:KQ E m n ops Q rest f w d ρ Z q) :
  WL E.P m n ops Q (⟨some d,.build T ps,ty,pos,after,none⟩::rest) f w:=by
 unfold b6v at h
 split at h
 . rename_i ls fl hz hf
   split at h
   . rename_i ls' hb
     unfold Env.zero at hz
     simp only [Option.map_eq_some_iff] at hz
     obtain ⟨zv,hz,hc⟩:=hz
     have hr:Rep E.N E.T ρ Z w zv (.agg ls):=by rw [<- hc]; exact a4r
     obtain ⟨cs,rfl,hr⟩:=Rep.agg_inv hr
     obtain ⟨h1,h2⟩:=a8k he hb hr
     unfold Env.flds at hf
     split at hf
     . rename_i fs hu
       refine c9c (G4 hu) (a08 hz) (pl:=fl.toArray) (fun w=>?_) (by simpa [Value.cells] using h1) rfl hn (K.q0 h (by simpa [Value.cells,i7] using h2))
       have:=c1q hf w
       rw [Array.mapM_eq_mapM_toList]
       simp_all
     . cases hf
   . cases h
 . cases h
theorem a8m {t:Nat} (h:E.N.tb t=⟨UInt8,n5,⟨0⟩⟩) (l:List (E.N.U t)) (e:List (E.N.U t)=Str) {v:Value} :
  ((v8 (E.N.tb t).r).rd Z w [v] l->(v8 n5).rd Z w [v] (cast e l))/\(∀ bs,Ac (E.N.tb t).r Z w v l bs->Ac n5 Z w v (cast e l) bs):=by
 grind
theorem a3o {t:Nat} {l:List (E.N.U t)} {S D:Nat} (hd:E.isStr D=true) (h:a5q E S t l=some q) (hx:(∃ D:Nat->Prop,(v8 (E.N.tb t).r).rd D w [ev f x] l) ∨ ∃ bs,Ac (E.N.tb t).r Z w (ev f x) l bs/\l.length<=9223372036854775807) (hn:Nat.blt d n=true) (K:KQ E m n ops Q rest f w d ρ Z q) :
  WL E.P m n ops Q (⟨some d,.convert S D x,ty,pos,after,none⟩::rest) f w:=by
 unfold a5q at h
 split at h
 . rename_i e hs
   split at h
   . rename_i hi
     split at h
     . rename_i s hb
       unfold bytesOf at hb
       split at hb
       . rename_i yy hy
         split at hb
         . rename_i h8 hb8
           simp only [Option.some.injEq] at hb; subst hb
           have hc:=a8m (Z:=Z) (w:=w) (v:=ev f x) h8.down l (by grind)
           have hl:(cast (by grind) l:Str).length=l.length:=by
            have:∀ (α β:Type) (e:α=β) (l:List α) (e2:List α=List β),(cast e2 l:List β).length=l.length:=by intro α β e l e2; subst e; rfl
            exact this (E.N.U t) UInt8 (by rw [Uni.U,h8.down]) l _
           rcases hx with ⟨D,hx⟩ | ⟨bs,hx,hlen⟩
           . have hc:=a8m (Z:=D) (w:=w) (v:=ev f x) h8.down l (by grind)
             exact a7k (u5 hs) (L5 hd) (F7 hi) (Src.data (hc.1 hx)) hn (K.q0 h (.str (a6m (hc.1 hx))))
           . exact a7k (u5 hs) (L5 hd) (F7 hi) (Src.ac (hc.2 bs hx)) hn (K.q0 h (.str (by omega)))
         . cases hb
       . cases hb
     . cases h
   . cases h
 . cases h
theorem d9z {c:UInt8} {k:IntKind} (h:k≠.i8):k.wrap (c.toNat:Int)=c.toNat:=by
 have:=c.toNat_lt
 cases k <;> simp [IntKind.wrap,IntKind.bits,IntKind.signed] at * <;> omega
theorem b1q {S D:Nat} {sx:E.SV} (hm:Mem E C ρ Z w its nx) (hx:Rep E.N E.T ρ Z w (ev f x) sx) (h:O2 E its S D sx=some q) (hn:Nat.blt d n=true) (K:KQ E m n ops Q rest f w d ρ Z q) :
  WL E.P m n ops Q (⟨some d,.convert S D x,ty,pos,after,none⟩::rest) f w:=by
 generalize hv:ev f x=vx at hx
 cases sx with
 | byte c =>
  simp only [O2] at h
  split at h
  . rename_i k0 k hk0 hk
    cases hx
    have hv':ev f x=.int .u8 c.toNat:=hv
    have ci:∀ (hk8:k≠.i8),WL E.P m n ops Q rest (upd f d (.int k c.toNat)) w->WL E.P m n ops Q (⟨some d,.convert S D x,ty,pos,after,none⟩::rest) f w:=fun hk8 K=>b0w (F7 hk0) (F7 hk) hv' hn (by rw [d9z hk8]; exact K)
    cases k with
    | u8=>exact ci (by decide) (K.q0 h .byte)
    | i8=>cases h
    | i64=>refine ci (by decide) (K.q0 h (.int fun _=>?_)); have:=c.toNat_lt; unfold InI; omega
    | _=>exact ci (by decide) (K.q0 h (.int fun e=>by cases e))
  . cases h
 | int ks a =>
  simp only [O2] at h
  split at h
  . rename_i k0 k hk0 hk
    cases hx
    cases k with
    | u8=>exact d0m (F7 hk0) (F7 hk) hv hn (K.q0 h .byte)
    | _=>exact b0w (F7 hk0) (F7 hk) hv hn (K.q0 h (.int (a13 a)))
  . cases h
 | sl t l =>
  simp only [O2] at h
  have ⟨h1,h2⟩:=j3 h
  cases hx with
  | sl hx=>exact a3o h1 h2 (.inl ⟨Z,by simp_all⟩) hn K
 | acc id =>
  simp only [O2] at h
  split at h
  . rename_i t l hi
    have ⟨h1,h2⟩:=j3 h
    cases hx with
    | acc hL =>
     obtain ⟨L,hL',hn1,hlen,hac⟩:=hm.at hi
     rw [hL] at hL'; cases hL'
     exact a3o h1 h2 (.inr ⟨_,by rw [hv]; exact hac,hlen⟩) hn K
  . cases h
 | sub id t2 lo nn =>
  simp only [O2] at h
  split at h
  . rename_i t l hi
    have ⟨h1,h2⟩:=j3 h
    simp only [Bool.and_eq_true] at h1
    obtain ⟨e2,h1⟩:=h1
    have e2:=Nat.eq_of_beq_eq_true e2
    subst e2
    obtain ⟨L,hL,hn1,hlen,hac⟩:=hm.at hi
    cases hx with
    | subs hL' l0 n0 l1 hc hA' =>
     rw [hL] at hL'; cases hL'
     have hrd:=Ac.rd hac hlen
     rw [hn1] at hrd
     have hs:=a6r (a:=lo.toNat) (b:=lo.toNat+nn.toNat) hrd (by omega) (by omega)
     rw [Nat.add_sub_cancel_left] at hs
     refine a3o h1 h2 (.inl ⟨_,by rw [hv,hc,hA']; exact hs⟩) hn K
  . cases h
 | _=>cases h
theorem c4l {mx:Bool} {Ts:Array TypeId} {sx sy:E.SV} (hx:Rep E.N E.T ρ Z w (ev f x) sx) (hy:Rep E.N E.T ρ Z w (ev f y) sy) (h:qMM mx sx sy=some q) (hn:Nat.blt d n=true) (K:KQ E m n ops Q rest f w d ρ Z q) :
  WL E.P m n ops Q (⟨some d,.call ⟨.builtin (bif mx then .max else .min),#[x,y],Ts⟩,ty,pos,after,none⟩::rest) f w:=by
 generalize hvx:ev f x=vx at hx
 generalize hvy:ev f y=vy at hy
 unfold qMM at h
 split at h
 . rename_i k a k' b
   split at h
   . rename_i e; subst e
     cases hx with
     | int ha =>
      cases hy with
      | int hb =>
       have hr:∀ c,c=a ∨ c=b->k=.i64->InI c:=fun c hc e=>by
        grind
       cases mx with
       | true=>exact d9j hvx hvy hn (K.q0 h (.int (hr _ (by omega))))
       | false=>exact d9q hvx hvy hn (K.q0 h (.int (hr _ (by omega))))
   . cases h
 . cases h
theorem c7y {sx:E.SV} {n0:Int} (hm:Mem E C ρ Z w its nx) (hx:Rep E.N E.T ρ Z w (ev f x) sx) (h:lenOf its T sx=some n0) (hn:Nat.blt d n=true) (K:∀ v,Rep E.N E.T ρ Z w v (.int .i64 n0:E.SV)->WL E.P m n ops Q rest (upd f d v) w) :
  WL E.P m n ops Q (⟨some d,.call ⟨.builtin .len,#[x],#[T]⟩,ty,pos,after,none⟩::rest) f w:=by
 generalize hvx:ev f x=vx at hx
 have inI:∀ k:Nat,k<=9223372036854775807->InI (k:Int):=fun k hk=>by unfold InI; omega
 unfold lenOf at h
 cases hb:E.isStr T with
 | true =>
  rw [hb,cond_true] at h
  cases sx with
  | str s =>
   simp only [Option.some.injEq] at h; subst h
   cases hx with
   | str hl=>exact d3y (L5 hb) hvx hn (K _ (.int fun _=>inI _ hl))
  | _=>cases h
 | false =>
  rw [hb,cond_false] at h
  cases hs:E.sliceOf T with
  | none=>simp_all
  | some e =>
   rw [hs] at h
   replace h:c1k its sx=some n0:=h
   cases sx with
   | sl t l =>
    simp only [c1k,Option.some.injEq] at h; subst h
    cases hx with
    | sl hx=>obtain ⟨A,cap,rfl⟩:=P5 hx; exact b3a (u5 hs) hvx hn (K _ (.int fun _=>inI _ (a6m hx)))
   | nils =>
    simp only [c1k,Option.some.injEq] at h; subst h
    cases hx
    exact b3a (u5 hs) hvx hn (K _ (.int fun _=>by grind))
   | acc id =>
    simp only [c1k] at h
    split at h
    . rename_i t l hi
      simp only [Option.some.injEq] at h; subst h
      cases hx with
      | acc hL =>
       obtain ⟨L,hL',hn1,hlen,hac⟩:=hm.at hi
       rw [hL] at hL'; cases hL'
       refine b3a (u5 hs) hvx hn ?_
       rw [hn1]; exact K _ (.int fun _=>inI _ hlen)
    . rename_i t nn cells hi
      simp only [Option.some.injEq] at h; subst h
      cases hx with
      | acc hL =>
       obtain ⟨L,F,hL',hn1,hb,_⟩:=hm.at hi
       rw [hL] at hL'; cases hL'
       refine b3a (u5 hs) hvx hn ?_
       rw [hn1]; exact K _ (.int fun _=>by grind)
    . cases h
   | sub id t lo nn =>
    simp only [c1k] at h
    split at h
    . rename_i t' l hi
      simp only [Option.some.injEq] at h; subst h
      cases hx with
      | subs hL l0 h0 l1 hc hA =>
       obtain ⟨L,hL',hn1,hlen,hac⟩:=hm.at hi
       rw [hL] at hL'; cases hL'
       refine b3a (u5 hs) hvx hn ?_
       rw [Int.toNat_of_nonneg h0]
       exact K _ (.int fun _=>by grind)
    . cases h
   | _=>cases h
theorem d7u {α:Type} {a:Array α} {x:α} (h:a.toList=[x]):a=#[x]:=by grind
theorem b1b {α:Type} {a:Array α} {x y:α} (h:a.toList=[x,y]):a=#[x,y]:=by grind
theorem c41 {e:Operand->E.SV} (hm:Mem E C ρ Z w its nx) (he:∀ o,Rep E.N E.T ρ Z w (ev f o) (e o)) {c:Call} (h:c68 E its e c=some q) (hn:Nat.blt d n=true) (K:KQ E m n ops Q rest f w d ρ Z q) :
  WL E.P m n ops Q (⟨some d,.call c,ty,pos,after,none⟩::rest) f w:=by
 obtain ⟨cal,args,Ts⟩:=c
 unfold c68 at h
 cases cal with
 | builtin b =>
  simp only [b35] at h
  cases b with
  | len =>
   simp only at h
   split at h
   . rename_i xx TT ha hT
     obtain rfl:=d7u ha
     obtain rfl:=d7u hT
     split at h
     . rename_i n0 hl
       exact c7y hm (he xx) hl hn (fun v hv=>K.q0 h hv)
     . cases h
   . cases h
  | min =>
   simp only at h
   split at h
   . rename_i xx yy ha
     obtain rfl:=b1b ha
     exact c4l (mx:=false) (he xx) (he yy) h hn K
   . cases h
  | max =>
   simp only at h
   split at h
   . rename_i xx yy ha
     obtain rfl:=b1b ha
     exact c4l (mx:=true) (he xx) (he yy) h hn K
   . cases h
  | _=>cases h
 | _=>cases h
theorem c6j {e:Operand->E.SV} (hm:Mem E C ρ Z w its nx) (he:∀ o,Rep E.N E.T ρ Z w (ev f o) (e o)) {op:Op} (h:c5y E its e op=some q) (ho:q6 q.ob) (hn:Nat.blt d n=true) (K:KQ E m n ops Q rest f w d ρ Z q) :
  WL E.P m n ops Q (⟨some d,op,ty,pos,after,none⟩::rest) f w:=by
 unfold c5y at h
 cases op with
 | move x=>exact d4x hn (K.q0 h (he x))
 | assign x=>exact c3g hn (K.q0 h (he x))
 | pick c a b =>
  simp only at h
  have hc:=he c
  generalize e c=sc at h hc
  generalize hv:ev f c=vc at hc
  unfold d0z at h
  cases hc with
  | tt=>exact c3o hv hn (K.q0 h (he a))
  | ff=>exact c38 hv hn (K.q0 h (he b))
  | _=>cases h
 | binOp op T x y T'=>exact d0d (he x) (he y) h ho hn K
 | unOp op T x=>exact d5j (he x) h ho hn K
 | extract x i=>exact b1e (he x) h hn K
 | indexAddr T x i=>exact a7q hm (he x) (he i) h ho hn K
 | fieldAddr T x fi =>
  simp only at h
  split at h
  . rename_i o nn hf
    have ⟨h1,h2⟩:=j3 h
    exact a7o (he x) hf h1 h2 hn K
  . cases h
 | load T x=>exact c5d hm (he x) h hn K
 | field T x fi=>exact c1y (he x) h hn K
 | nilCheck x=>exact c83 (he x) h hn K
 | index T x i=>exact c17 (he x) (he i) h ho hn K
 | slice T x lo hi mx =>
  simp only at h
  split at h
  . rename_i a b ha hb
    exact c20 he ha hb hm h ho hn K
  . cases h
 | makeInterface T x=>exact c0q (he x) h hn K
 | build T ps=>exact c2c he h hn K
 | convert S D x=>exact b1q hm (he x) h hn K
 | makeFunc fn first caps =>
  simp only at h
  cases fn with
  | func K' =>
   have ⟨h1,h2⟩:=j3 h
   simp only [Bool.and_eq_true] at h1
   obtain ⟨h1,h3⟩:=h1
   have h1:=Nat.eq_of_beq_eq_true h1
   obtain rfl:first=#[]:=Array.eq_empty_of_size_eq_zero h1
   have ec:caps=caps.toList.toArray:=by simp
   rw [ec]
   refine b69 (xs:=[]) (ys:=caps.toList) hn (K.q0 h2 (.clo ?_))
   have key:∀ l:List Operand,(l.map e).all d2c=true->i7 E.N E.T ρ Z w (l.map (ev f)) (l.map e):=by
    intro l
    induction l with
    | nil=>exact fun _=>i7.nil
    | cons o l ih =>
     intro h
     simp only [List.map_cons,List.all_cons,Bool.and_eq_true] at h
     refine Rep.agg1 (he o) ((he o).plain_of ?_) (ih h.2)
     have h':=h.1
     generalize e o=so at h'
     cases so <;> first | rfl | cases h'
   exact key _ h3
  | _=>cases h
 | call c=>exact c41 hm he h hn K
 | _=>cases h
end
end Go.Rx
end
section
namespace Go.Rx
open Go Go.Wk Go.Wl
section
variable {B0:List Nat} {w0 w w':World} {Z Z':Nat->Prop} {l l':List It}
structure b6u (B0:List Nat) (Z:Nat->Prop) (w:World) (t t':It):Prop where
 P:t'.P Z w
 stab:t'.Stab
 F:∀ b∈t'.F,b∈t.F
 O:t'.O=B0
theorem Sep.sel (hs:Sep B0 w0 Z w l) (φ:Nat->Nat) (inj:∀ i j,i<l'.length->j<l'.length->φ i=φ j->i=j) (h:∀ (i:Nat) (t':It),l'[i]?=some t'->∃ t,l[φ i]?=some t/\b6u B0 Z w t t'):Sep B0 w0 Z w l':=by
 have lt:∀ {i:Nat} {t:It},l'[i]?=some t->i<l'.length:=fun {i t} h=>by
  grind
 refine ⟨hs.ext,hs.zlt,fun i t' hi=>?_,fun i j s t hi hj hne b hb hb'=>?_⟩
 . obtain ⟨t,ht,lk⟩:=h i t' hi
   have ok:=hs.ok _ t ht
   exact ⟨lk.P,lk.stab,fun b hb=>ok.lt b (lk.F b hb),fun b hb=>ok.notZ b (lk.F b hb),fun b hb=>by
    rw [lk.O]
    rcases ok.org b (lk.F b hb) with h | h
    . exact .inl (ok.org0 b h)
    omega,fun b hb=>by rw [lk.O] at hb; exact hb⟩
 . obtain ⟨s1,hs1,lk1⟩:=h i s hi
   obtain ⟨t1,ht1,lk2⟩:=h j t hj
   exact hs.apart _ _ s1 t1 hs1 ht1 (fun e=>hne (inj i j (lt hi) (lt hj) e)) b (lk1.F b hb) (lk2.F b hb')
theorem Sep.conv (hs:Sep B0 w0 Z w l) (hl:l'.length=l.length) (h:∀ (i:Nat) (t t':It),l[i]?=some t->l'[i]?=some t'->b6u B0 Z w t t'):Sep B0 w0 Z w l' :=
 Sep.sel hs (fun i=>i) (fun _ _ _ _ e=>e) fun i t' hi=>by
  grind
end
section
variable {N:Uni} {T:N3} {ρ ρ':n9} {B0:List Nat} {Z Z':Nat->Prop} {w w':World} {id:Nat} {i:Item N}
theorem p6 {L:Loc} {Ty:Nat} {cells:List (SV N)} (h:ρ id=some L):o8 N ρ id (.own Ty cells)=L.bs:=by simp [o8,h]
theorem q7 {L:Loc} {t:Nat} {l:List (N.U t)} (h:ρ id=some L):o8 N ρ id (.ac t l)=L.bs:=by simp [o8,h]
theorem A7 {L:Loc} {k fid:Nat} {x:N.O k} (h:ρ fid=some L):o8 N ρ id (.ob k fid x)=L.bs:=by simp [o8,h]
theorem B7 {L:Loc} {t n:Nat} {cells:List (SV N)} (h:ρ id=some L):o8 N ρ id (.rw t n cells)=L.bs:=by simp [o8,h]
theorem p7:(z6 N T ρ B0 id i).Stab:=fun Z Z' B w w' h x hB hZ=>by
 have hZ':∀ b,Z b->b<w.heap.size->Z' b:=fun b h _=>hZ b h
 cases i with
 | own Ty cells =>
  obtain ⟨L,cs,hL,hbs,ho,hr⟩:=h
  have hF:∀ b∈B,b∈[L.b] ∨ Z b->w.heap.size<=b:=fun b hb h=>hB b hb (by
   rcases h with h | h
   . left; show b∈o8 N ρ id (.own Ty cells); rw [p6 hL]; simp_all
   simp_all)
  exact ⟨L,cs,hL,hbs,ho.ext x (fun hm=>by have:=hF _ hm (.inl (by simp)); have:=ho.lt; omega),hr.stab x (fun b hb hz=>hF b hb (.inr hz)) hZ' (fun _ _ h=>h)⟩
 | ac t l =>
  obtain ⟨L,hL,hn,hl,hac⟩:=h
  exact ⟨L,hL,hn,hl,hac.stab x (fun b hb h=>hB b hb (by
   rcases h with h | h
   . left; show b∈o8 N ρ id (.ac t l); rw [q7 hL]; exact h
   simp_all)) hZ⟩
 | fz t l =>
  obtain ⟨L,hL,hn,hr⟩:=h
  exact ⟨L,hL,hn,Rd.mono _ hr x (fun b hb hz=>hB b hb (.inr hz)) hZ'⟩
 | ob k fid x' =>
  obtain ⟨L,Lf,hL,hf,ho⟩:=h
  exact ⟨L,Lf,hL,hf,((N.oj k).ob L.b).stab Z Z' B w w' ho x (fun b hb h=>hB b hb (by
   rcases h with h | h
   . left; show b∈o8 N ρ id (.ob k fid x'); rw [A7 hf]; exact h
   simp_all)) hZ⟩
 | rw t n cells =>
  obtain ⟨L,F,hL,hn,hb,hA,hr,hrep⟩:=h
  exact ⟨L,F,hL,hn,hb,hA,hr.ext x (fun b hb h=>hB b hb (.inl (by show b∈o8 N ρ id (.rw t n cells); rw [B7 hL]; exact h))),hrep.stab x (fun b hb hz=>hB b hb (.inr hz)) hZ' (fun _ _ h=>h)⟩
theorem J0 (hρ:∀ i L,ρ i=some L->ρ' i=some L) (h:holds N T ρ id Z w i):holds N T ρ' id Z w i/\o8 N ρ' id i=o8 N ρ id i:=by
 cases i with
 | own Ty cells=>obtain ⟨L,cs,hL,hbs,ho,hr⟩:=h; exact ⟨⟨L,cs,hρ _ _ hL,hbs,ho,Rep.sub hr hρ⟩,by rw [p6 hL,p6 (hρ _ _ hL)]⟩
 | ac t l=>obtain ⟨L,hL,r⟩:=h; exact ⟨⟨L,hρ _ _ hL,r⟩,by rw [q7 hL,q7 (hρ _ _ hL)]⟩
 | fz t l=>obtain ⟨L,hL,r⟩:=h; exact ⟨⟨L,hρ _ _ hL,r⟩,rfl⟩
 | ob k fid x=>obtain ⟨L,Lf,hL,hf,r⟩:=h; exact ⟨⟨L,Lf,hρ _ _ hL,hρ _ _ hf,r⟩,by rw [A7 hf,A7 (hρ _ _ hf)]⟩
 | rw t n cells=>obtain ⟨L,F,hL,hn,hb,hA,hr,hrep⟩:=h; exact ⟨⟨L,F,hρ _ _ hL,hn,hb,hA,hr,Rep.sub hrep hρ⟩,by rw [B7 hL,B7 (hρ _ _ hL)]⟩
theorem a26 (hρ:∀ i L,ρ i=some L->ρ' i=some L) (h:holds N T ρ id Z w i):b6u B0 Z w (z6 N T ρ B0 id i) (z6 N T ρ' B0 id i) :=
 ⟨(J0 hρ h).1,p7,fun b hb=>by show b∈o8 N ρ id i; rw [<- (J0 (T:=T) hρ h).2]; exact hb,rfl⟩
theorem a3a (h:holds N T ρ id Z w i):b6u B0 Z w (z6 N T ρ B0 id i) (z6 N T ρ B0 id i):=⟨h,p7,fun _ h=>h,rfl⟩
theorem m9 {its:i6 N} {k:Nat} {t:It} (h:(o0 N T ρ B0 its)[k]?=some t):∃ p,its[k]?=some p/\t=z6 N T ρ B0 p.1 p.2:=by
 simp only [o0,List.getElem?_map,Option.map_eq_some_iff] at h
 grind
end
structure Tn (ρ:n9) (Z:Nat->Prop) (w:World) (ρ':n9) (Z':Nat->Prop) (w':World):Prop where
 rho:∀ i L,ρ i=some L->ρ' i=some L
 z:∀ b,Z b->b<w.heap.size->Z' b
 ext:∃ B,Ext B w w'/\∀ b∈B,Z b->w.heap.size<=b
theorem Tn.refl (ρ:n9) (Z:Nat->Prop) (w:World):Tn ρ Z w ρ Z w:=⟨fun _ _ h=>h,fun _ h _=>h,[],Ext.refl _ _,fun _ h=>by cases h⟩
theorem Tn.rep {N:Uni} {T:N3} {ρ ρ':n9} {Z Z':Nat->Prop} {w w':World} (h:Tn ρ Z w ρ' Z' w') {v:Value} {s:SV N} (r:Rep N T ρ Z w v s):Rep N T ρ' Z' w' v s:=by
 obtain ⟨B,x,hB⟩:=h.ext
 exact r.stab x hB h.z h.rho
theorem Tn.trans {ρ ρ1 ρ2:n9} {Z Z1 Z2:Nat->Prop} {w w1 w2:World} (h:Tn ρ Z w ρ1 Z1 w1) (k:Tn ρ1 Z1 w1 ρ2 Z2 w2):Tn ρ Z w ρ2 Z2 w2:=by
 obtain ⟨B,x,hB⟩:=h.ext
 obtain ⟨B',x',hB'⟩:=k.ext
 refine ⟨fun i L e=>k.rho _ _ (h.rho _ _ e),fun b hz hb=>k.z b (h.z b hz hb) (by have:=x.size; omega),B++B'.filter (fun b=>decide (b<w.heap.size)),x.trans x' (fun b hb=>.inl (by simp [hb])) (fun b hb=>?_),fun b hb hz=>?_⟩
 . grind
 . rcases List.mem_append.1 hb with hb | hb
   . simp_all
   . simp only [List.mem_filter,decide_eq_true_eq] at hb
     have:=hB' b hb.1 (h.z b hz hb.2)
     have:=x.size
     omega
section
variable {E:Env} {C:Ctx} {ρ ρ':n9} {Z Z':Nat->Prop} {w w':World} {its:i6 E.N} {nx:Nat}
def C8 (ρ:n9) (id:Nat) (L:Loc):n9:=fun i=>if i=id then some L else ρ i
theorem l5 {id:Nat} {L:Loc}:C8 ρ id L id=some L:=by simp [C8]
theorem z7 {id:Nat} {L:Loc} (h:ρ id=none):∀ i L',ρ i=some L'->C8 ρ id L i=some L':=fun i L' e=>by
 unfold C8
 grind
theorem Mem.holds (hm:Mem E C ρ Z w its nx) {k:Nat} {p:Nat×Item E.N} (h:its[k]?=some p):holds E.N E.T ρ p.1 Z w p.2 :=
 hm.sep.at k (t:=z6 E.N E.T ρ C.B0 p.1 p.2) (by simp [o0,h])
theorem Mem.sel {its':i6 E.N} {nx':Nat} (hm:Mem E C ρ Z w its nx) (hρ:∀ i L,ρ i=some L->ρ' i=some L) (hfr:∀ i,nx'<=i->ρ' i=none) (φ:Nat->Nat) (inj:∀ i j,i<its'.length->j<its'.length->φ i=φ j->i=j) (h:∀ (i:Nat) (p:Nat×Item E.N),its'[i]?=some p->its[φ i]?=some p):Mem E C ρ' Z w its' nx' :=
 ⟨Sep.sel hm.sep φ (fun i j hi hj=>inj i j (by simpa [o0] using hi) (by simpa [o0] using hj)) fun i t' hi=>by
  obtain ⟨p,hp,rfl⟩:=m9 hi
  have hq:=h i p hp
  exact ⟨_,by simp [o0,hq],a26 hρ (hm.holds hq)⟩,hfr,fun i L e=>hρ _ _ (hm.ge i L e),hm.zge,hm.zle⟩
theorem Mem.laid {t:It} {i:Item E.N} {L:Loc} (hm:Mem E C ρ Z w its nx) (hs:Sep C.B0 C.w0 Z w' (t::o0 E.N E.T ρ C.B0 its)) (hh:Go.Rx.holds E.N E.T (C8 ρ nx L) nx Z w' i) (hF:∀ b∈o8 E.N (C8 ρ nx L) nx i,b∈t.F):Mem E C (C8 ρ nx L) Z w' ((nx,i)::its) (nx+1):=by
 have hρ:=z7 (L:=L) (hm.fr nx (Nat.le_refl _))
 refine ⟨Sep.conv hs (by simp [o0]) fun k s s' hk hk'=>?_,fun j hj=>?_,fun j L' e=>hρ _ _ (hm.ge j L' e),hm.zge,hm.zle⟩
 . cases k with
   | zero =>
    simp [o0] at hk hk'
    subst hk; subst hk'
    exact ⟨hh,p7,hF,rfl⟩
   | succ k =>
    have hk:(o0 E.N E.T ρ C.B0 its)[k]?=some s:=hk
    have hk':(o0 E.N E.T (C8 ρ nx L) C.B0 its)[k]?=some s':=hk'
    obtain ⟨p,hp,rfl⟩:=m9 hk
    obtain ⟨p',hp',rfl⟩:=m9 hk'
    rw [hp] at hp'; cases hp'
    exact a26 hρ (hs.at (k+1) (t:=z6 E.N E.T ρ C.B0 p.1 p.2) (by omega))
 . unfold C8
   rw [if_neg (by omega)]; exact hm.fr j (by omega)
end
end Go.Rx
end
section
namespace Go.Rx
open Go Go.Wk Go.Wl
def A3 (E:Env) (K:Nat) (args:List E.SV) (c:CR E.N):Prop :=
 ∀ (D:Nat->Prop) (w:World) (vs:List Value),(∀ b,D b->b<w.heap.size)->E.G.is D w->Rep E.N E.T (fun _=>none) D w (.tuple vs.toArray) (.tup args)->D4 E.P K vs w (fun v w'=>Ext [] w w'/\Rep E.N E.T (fun _=>none) (fun _=>False) w' v c.r/\q6 c.hy)
def e0t (E:Env) (K:Nat) (o:OC E.N) (x:E.N.O o.k) (args:List E.SV) (r:OR E.N o.k):Prop :=
 ∀ (Z D:Nat->Prop) (w:World) (vs:List Value) (b:Nat) (F:List Nat),(∀ b,Z b->b<w.heap.size)->(∀ b,D b->b<w.heap.size)->(∀ b∈F,¬ Z b/\¬ D b)->((E.N.oj o.k).ob b).is Z w x F->E.G.is D w->Rep E.N E.T (fun _=>none) D w (.tuple vs.toArray) (.tup args) ->
  D4 E.P K (.pointer (some ⟨b,0,none⟩)::vs) w (fun v w'=>∃ F',((E.N.oj o.k).ob b).is Z w' r.x F'/\c2f w w' F F'/\Rep E.N E.T (fun _=>none) (fun _=>False) w' v r.r/\q6 r.hy)
def d7a (E:Env) (o:OC E.N) (x:E.N.O o.k) (args:List E.SV) (r:OR E.N o.k):Prop :=
 ∀ (Z D:Nat->Prop) (w:World) (vs:List Value) (b:Nat) (F:List Nat),(∀ b,Z b->b<w.heap.size)->(∀ b,D b->b<w.heap.size)->(∀ b∈F,¬ Z b/\¬ D b)->((E.N.oj o.k).ob b).is Z w x F->E.G.is D w->Rep E.N E.T (fun _=>none) D w (.tuple vs.toArray) (.tup args) ->
  T5 E.P b vs w (fun v w'=>∃ F',((E.N.oj o.k).ob b).is Z w' r.x F'/\c2f w w' F F'/\Rep E.N E.T (fun _=>none) (fun _=>False) w' v r.r/\q6 r.hy)
def d7m (E:Env) (K:Nat) (o:WC E.N) (a:E.SV) (x:Int) (r:WR E.N):Prop :=
 ∀ (D:Nat->Prop) (w:World) (v:Value) (b:Nat),(∀ b,D b->b<w.heap.size)->¬ D b->E.G.is D w->Rep E.N E.T (fun _=>none) D w v a->Own w b o.S [.int .i64 x]->InI x ->
  D4 E.P K [v,.iface o.T (.pointer (some ⟨b,0,none⟩))] w (fun v' w'=>Ext [b] w w'/\Own w' b o.S [.int .i64 r.x]/\InI r.x/\Rep E.N E.T (fun _=>none) (fun _=>False) w' v' r.r/\q6 r.hy)
def R9 (P:Program) (N:Uni) (T:N3) (G:Y2) (K:Nat) (args:List (SV N)) (its:i6 N) (nx:Nat) (S:PT N):Prop :=
 ∀ (k:SV N->i6 N->Nat->Prop),S k->∀ (ρ:n9) (Z:Nat->Prop) (w:World) (vs:List Value) (B:List Nat),(∀ i,nx<=i->ρ i=none)->Sep B w Z w (o0 N T ρ B its)->G.is Z w->Rep N T ρ Z w (.tuple vs.toArray) (.tup args) ->
  D4 P K vs w (fun v w'=>∃ (ρ':n9) (Z':Nat->Prop) (s:SV N) (its':i6 N) (nx':Nat),Sep B w Z' w' (o0 N T ρ' B its')/\(∀ i,nx'<=i->ρ' i=none)/\(∀ i L,ρ i=some L->ρ' i=some L)/\(∀ b,Z b->Z' b)/\(∀ b,Z' b->Z b ∨ b∈B ∨ w.heap.size<=b)/\Rep N T ρ' Z' w' v s/\k s its' nx')
def c3h (P:Program) (N:Uni) (T:N3) (G:Y2) (K:Nat) (args:List (SV N)) (its:i6 N) (q:Q1 N):Prop :=
 ∀ (ρ:n9) (Z:Nat->Prop) (w:World) (vs:List Value),G.is Z w->(∀ i x,lk its i=some x->holds N T ρ i Z w x)->Rep N T ρ Z w (.tuple vs.toArray) (.tup args) ->
  D4 P K vs w (fun v w'=>Ext [] w w'/\Rep N T (fun _=>none) (fun _=>False) w' v q.v/\q6 q.hy)
structure j7 (E:Env):Prop where
 mixed:E.P.follows .mixedOrders=true
 zob:∀ T k x,E.zob T=some ⟨k,x⟩->∃ zv,E.zeroV T=some zv/\∀ Z w b,Own w b T zv.cells.toList->((E.N.oj k).ob b).is Z w x [b]
 call:∀ K,((E.con K).isSome || (E.obc K).isSome || (E.inl K).isSome || (E.wrc K).isSome)=true->∀ ars w,(callFunc K ars).run E.P w=.ok (.enter K ars) w
 inl:∀ K fn,E.inl K=some fn->E.P.funcs[K]?=some fn
 con:∀ K f args nx c,E.con K=some f->f args nx=some c->args.all B3=true->q6 c.ob->E2 E.P E.N E.T E.G K args nx c
 lend:∀ K f args nx c,E.con K=some f->E.lend K=true->f args nx=some c->c.its=[]->q6 c.ob->A3 E K args c
 obc:∀ K o x args r,E.obc K=some o->o.C x args=some r->q6 r.ob->e0t E K o x args r
 wrc:∀ K o a x r,E.wrc K=some o->o.C a x=some r->q6 r.ob->d7m E K o a x r
 callf:∀ K,(E.fnc K).isSome=true->∀ ars w,(callFunc K ars).run E.P w=.ok (.enter K ars) w
 fnc:∀ K o args its r,E.fnc K=some o->o.C args its=some r->q6 r.ob->R9 E.P E.N E.T E.G K args its (2 * its.length) (fun k=>q6 r.hy->k r.v r.its r.n)
 callr:∀ K,(E.roc K).isSome=true->∀ ars w,(callFunc K ars).run E.P w=.ok (.enter K ars) w
 roc:∀ K C args its q,E.roc K=some C->C args its=some q->q6 q.ob->c3h E.P E.N E.T E.G K args its q
 yl:∀ o x args r,E.yl=some o->o.C x args=some r->q6 r.ob->d7a E o x args r
def tnI (Z:Nat->Prop) (w:World):It:=⟨[],[],fun Z' w'=>(∀ b,Z b->b<w.heap.size->Z' b)/\∃ B,Ext B w w'/\∀ b∈B,Z b->w.heap.size<=b⟩
theorem c4j {Z:Nat->Prop} {w:World}:(tnI Z w).Stab:=fun Z1 Z2 B w1 w2 h x hB hZ=>by
 obtain ⟨h1,B',x',hB'⟩:=h
 have t1:Tn (fun _=>none) Z w (fun _=>none) Z1 w1:=⟨fun _ _ h=>h,h1,B',x',hB'⟩
 have t2:Tn (fun _=>none) Z1 w1 (fun _=>none) Z2 w2:=⟨fun _ _ h=>h,fun b hz _=>hZ b hz,B,x,fun b hb hz=>hB b hb (.inr hz)⟩
 have t:=t1.trans t2
 exact ⟨t.z,t.ext⟩
section
variable {E:Env} {C:Ctx} {n:Nat} {ops:List Oper} {Q:Exit->Fr->World->Prop} {rest:List Oper} {f:Fr} {w w':World} {d:Nat}
variable {ty T T':TypeId} {pos:String} {after:Array Edge} {x y z:Operand} {a b:Int} {ρ ρ':n9} {Z Z':Nat->Prop} {its lkd:i6 E.N} {nx:Nat} {s:S1 E.N}
theorem Mem.tn (hm:Mem E C ρ Z w its nx):Sep C.B0 C.w0 Z w (tnI Z w::o0 E.N E.T ρ C.B0 its):=Wl.Sep.fact hm.sep (t:=tnI Z w) ⟨fun _ h _=>h,[],Ext.refl _ _,fun _ h=>by cases h⟩ c4j rfl rfl
theorem X8 {k:Nat} {l:List It} {B0:List Nat} {w0:World} (hs:Sep B0 w0 Z' w' l) (hk:l[k]?=some (tnI Z w)) (hρ:∀ i L,ρ i=some L->ρ' i=some L):Tn ρ Z w ρ' Z' w':=by
 have h:=hs.at k hk
 exact ⟨hρ,h.1,h.2⟩
abbrev KE (E:Env) (C:Ctx) (n:Nat) (ops:List Oper) (Q:Exit->Fr->World->Prop) (rest:List Oper) (f:Fr) (w:World) (d:Option Nat) (ρ:n9) (Z:Nat->Prop) (lkd:i6 E.N) (s:S1 E.N):Prop :=
 ∀ v ρ' Z' w',Mem E C ρ' Z' w' (s.items++lkd) s.nx->Tn ρ Z w ρ' Z' w'->Rep E.N E.T ρ' Z' w' v s.v->q6 s.hy->WL E.P false n ops Q rest (J1 f d v) w'
theorem c4q {B0:List Nat} {w0:World} {t u:It} {l:List It} (hs:Sep B0 w0 Z w (t::u::l)):Sep B0 w0 Z w (t::l) :=
 ⟨hs.ext,hs.zlt,fun k s hk=>by
  cases k with
  | zero=>exact hs.ok 0 s hk
  | succ k=>exact hs.ok (k+2) s hk,fun j k s v hj hk hne=>by
  cases j with
  | zero =>
   cases k with
   | zero=>omega
   | succ k=>exact hs.apart 0 (k+2) s v hj hk (by omega)
  | succ j =>
   cases k with
   | zero=>exact hs.apart (j+2) 0 s v hj hk (by omega)
   | succ k=>exact hs.apart (j+2) (k+2) s v hj hk (by omega)⟩
theorem Mem.lay {t:It} {i:Item E.N} {L:Loc} (hm:Mem E C ρ Z w its nx) (hs:Sep C.B0 C.w0 Z w' (t::tnI Z w::o0 E.N E.T ρ C.B0 its)) (hh:Go.Rx.holds E.N E.T (C8 ρ nx L) nx Z w' i) (hF:∀ b∈o8 E.N (C8 ρ nx L) nx i,b∈t.F):Mem E C (C8 ρ nx L) Z w' ((nx,i)::its) (nx+1)/\Tn ρ Z w (C8 ρ nx L) Z w' :=
 ⟨hm.laid (c4q hs) hh hF,X8 (k:=1) hs rfl (z7 (hm.fr nx (Nat.le_refl _)))⟩
theorem c2o (hE:j7 E) (hm:Mem E C ρ Z w (its++lkd) nx) (h:b7d its nx T=some s) (hn:Nat.blt d n=true) (K:KE E C n ops Q rest f w (some d) ρ Z lkd s) :
  WL E.P false n ops Q (⟨some d,.alloc T,ty,pos,after,none⟩::rest) f w:=by
 unfold b7d at h
 split at h
 . rename_i k x hz
   simp only [Option.some.injEq] at h; subst h
   obtain ⟨zv,hzv,hob⟩:=hE.zob T k x hz
   refine c03 hm.tn (a08 hzv) hn fun b w' hs=>?_
   have ho:=hs.at 0 rfl
   have ⟨m1,t1⟩:=hm.lay (i:=.ob k nx x) (L:=⟨b,none,0,0,[b]⟩) hs ⟨_,_,l5,l5,hob Z w' b ho⟩ (fun y hy=>by rw [A7 l5] at hy; exact hy)
   exact K _ _ _ _ m1 t1 (.ref l5) trivial
 . split at h
   . rename_i z hz
     have ⟨hf,h⟩:=j3 h
     simp only [Option.some.injEq] at h; subst h
     unfold Env.zero at hz
     simp only [Option.map_eq_some_iff] at hz
     obtain ⟨zv,hzv,hc⟩:=hz
     refine c03 hm.tn (a08 hzv) hn fun b w' hs=>?_
     have ho:=hs.at 0 rfl
     have hr:Rep E.N E.T (C8 ρ nx ⟨b,none,0,0,[b]⟩) Z w' zv z:=by rw [<- hc]; exact a4r
     have ⟨m1,t1⟩:=hm.lay (i:=.own T (leaves z)) (L:=⟨b,none,0,0,[b]⟩) hs ⟨_,_,l5,rfl,ho,hr.leaves hf⟩ (fun y hy=>by rw [p6 l5] at hy; exact hy)
     exact K _ _ _ _ m1 t1 (.ref l5) trivial
   . cases h
theorem c7t {sx:E.SV} (hm:Mem E C ρ Z w (its++lkd) nx) (hx:Rep E.N E.T ρ Z w (ev f x) sx) (hf:flat sx=true) (hn:Nat.blt d n=true) (K:KE E C n ops Q rest f w (some d) ρ Z lkd ⟨[],[],.ref nx 0,(nx,.own T (leaves sx))::its,nx+1⟩) :
  WL E.P false n ops Q (⟨some d,.box T x,ty,pos,after,none⟩::rest) f w:=by
 refine e1g hm.tn hn fun b w' hs=>?_
 have ho:=hs.at 0 rfl
 have t0:=X8 (ρ:=ρ) (ρ':=ρ) (k:=1) hs rfl (fun _ _ h=>h)
 have hr:=Rep.sub (t0.rep hx) (z7 (L:=⟨b,none,0,0,[b]⟩) (hm.fr nx (Nat.le_refl _)))
 have ⟨m1,t1⟩:=hm.lay (i:=.own T (leaves sx)) (L:=⟨b,none,0,0,[b]⟩) hs ⟨_,_,l5,rfl,ho,hr.leaves hf⟩ (fun y hy=>by rw [p6 l5] at hy; exact hy)
 exact K _ _ _ _ m1 t1 (.ref l5) trivial
theorem l8 {l l2:i6 E.N} {j:Nat} {p:Nat×Item E.N} (h:l[j]?=some p):(l++l2)[j]?=some p:=by
 grind
theorem s6 {α:Type} {l:List α} {j:Nat} {p:α} (h:l[j]?=some p):j<l.length:=by
 grind
theorem l4 {l:i6 E.N} {B0:List Nat} {j:Nat} {p:Nat×Item E.N} (h:l[j]?=some p):(o0 E.N E.T ρ B0 l)[j]?=some (z6 E.N E.T ρ B0 p.1 p.2):=by simp [o0,h]
theorem Mem.turn {j id:Nat} {i i':Item E.N} {t':It} (hm:Mem E C ρ Z w its nx) (hj:its[j]?=some (id,i)) (hs:Sep C.B0 C.w0 Z w' ((o0 E.N E.T ρ C.B0 its).set j t')) (hh:Go.Rx.holds E.N E.T ρ id Z w' i') (hF:∀ b∈o8 E.N ρ id i',b∈t'.F):Mem E C ρ Z w' (its.set j (id,i')) nx:=by
 refine ⟨Sep.conv hs (by simp [o0]) fun k s s' hk hk'=>?_,hm.fr,hm.ge,hm.zge,hm.zle⟩
 obtain ⟨p',hp',rfl⟩:=m9 hk'
 have hlt:=s6 hj
 by_cases e:k=j
 . subst e
   rw [List.getElem?_set_self (by grind)] at hk
   rw [List.getElem?_set_self hlt] at hp'
   cases hk; cases hp'
   exact ⟨hh,p7,hF,rfl⟩
 . rw [List.getElem?_set_ne (Ne.symm e)] at hk hp'
   obtain ⟨p,hp,rfl⟩:=m9 hk
   rw [hp] at hp'; cases hp'
   exact a3a (hs.at k (t:=z6 E.N E.T ρ C.B0 p'.1 p'.2) (by grind))
theorem a2w {B0:List Nat} {w0:World} {u:It} {l:List It} (hs:Sep B0 w0 Z w (u::l)):Sep B0 w0 Z w l:=hs.drop
theorem b75 {sx:E.SV} {id off:Nat} {S:Nat} {cells:List E.SV} (hm:Mem E C ρ Z w (its++lkd) nx) (ha:Rep E.N E.T ρ Z w (ev f x) (.ref id off)) (hx:Rep E.N E.T ρ Z w (ev f y) sx) (hi:lk its id=some (.own S cells)) {mm:Nat} (hz:E.size T=some mm) (hle:off+mm<=cells.length) (hf:flat sx=true) (hl:(leaves sx).length=mm)
  (K:KE E C n ops Q rest f w none ρ Z lkd ⟨[],[],.un,Z4 its id (.own S (setLeaves E cells off (leaves sx))),nx⟩) :
  WL E.P false n ops Q (⟨none,.store T x y,ty,pos,after,none⟩::rest) f w:=by
 obtain ⟨j,hj,hu,_⟩:=p8 hi
 have hj':(its++lkd)[j]?=some (id,.own S cells):=l8 hj
 obtain ⟨L,cs,hL,hbs,ho,hr⟩:=hm.holds hj'
 generalize hv:ev f x=vx at ha
 cases ha with
 | ref hL' =>
  rw [hL] at hL'; cases hL'
  have hlv:=hx.leaves hf
  have hcl:=hr.len
  -- the part ars a block
  have hs1:=Wl.Sep.upd hm.tn (j+1) (t:=z6 E.N E.T ρ C.B0 id (.own S cells)) (t':=a61 L.b S cs C.B0) (w':=w) (by rw [List.getElem?_cons_succ]; exact l4 hj') (Ext.refl _ _) ho c7f (fun b hb=>⟨.inl (by show b∈o8 E.N ρ id (.own S cells); rw [p6 hL,hbs]; exact hb),by have:=ho.lt; simp_all⟩) rfl
  have hjt:j<(o0 E.N E.T ρ C.B0 (its++lkd)).length:=by simpa [o0] using s6 hj'
  refine d03 hs1 (j+1) (E:=S) (O:=C.B0) (by rw [List.getElem?_set_self (by simp_all)]) (H1 hz) hv (c:=(ev f y).cells.toList) rfl (by rw [hlv.len,hl]) (by omega) hlv.plain fun w' hs=>?_
  rw [List.set_set] at hs
  have t1:=X8 (Z:=Z) (w:=w) (ρ:=ρ) (ρ':=ρ) (k:=0) hs (by simp) (fun _ _ h=>h)
  have hs2:Sep C.B0 C.w0 Z w' ((o0 E.N E.T ρ C.B0 (its++lkd)).set j (a61 L.b S (v7 cs off (ev f y).cells.toList) C.B0)):=a2w (u:=tnI Z w) (by simp_all)
  have m1:=hm.turn (i':=.own S (setLeaves E cells off (leaves sx))) hj' hs2 ⟨L,_,hL,hbs,hs2.at j (t:=a61 L.b S (v7 cs off (ev f y).cells.toList) C.B0) (by simp_all),i7.setLeaves (show i7 E.N E.T ρ Z w' cs cells from t1.rep hr) (show i7 E.N E.T ρ Z w' _ _ from t1.rep hlv)⟩ (fun b hb=>by rw [p6 hL,hbs] at hb; exact hb)
  refine K .nilIface ρ Z w' ?_ t1 .un trivial
  grind
theorem Mem.freeze {j id:Nat} {i i':Item E.N} (hm:Mem E C ρ Z w its nx) (hj:its[j]?=some (id,i)) (hh:Go.Rx.holds E.N E.T ρ id (fun b=>Z b ∨ b∈o8 E.N ρ id i) w i') (hF:o8 E.N ρ id i'=[]):Mem E C ρ (fun b=>Z b ∨ b∈o8 E.N ρ id i) w (its.set j (id,i')) nx/\Tn ρ Z w ρ (fun b=>Z b ∨ b∈o8 E.N ρ id i) w:=by
 have hs:=Wl.Sep.freeze hm.sep j (t:=z6 E.N E.T ρ C.B0 id i) (t':=⟨[],[],fun _ _=>True⟩) (l4 hj) trivial (fun _ _ _ _ _ _ _ _ _=>trivial) rfl rfl
 have hlt:=s6 hj
 refine ⟨⟨Sep.conv hs (by simp [o0]) fun k s s' hk hk'=>?_,hm.fr,hm.ge,fun b hb=>.inl (hm.zge b hb),fun b hb=>?_⟩,⟨fun _ _ h=>h,fun b h _=>.inl h,[],Ext.refl _ _,fun _ h=>by cases h⟩⟩
 . obtain ⟨p',hp',rfl⟩:=m9 hk'
   by_cases e:k=j
   . subst e
     rw [List.getElem?_set_self hlt] at hp'
     cases hp'
     exact ⟨hh,p7,fun b hb=>(by rw [show (z6 E.N E.T ρ C.B0 id i').F=o8 E.N ρ id i' from rfl,hF] at hb; cases hb),rfl⟩
   . rw [List.getElem?_set_ne (Ne.symm e)] at hk hp'
     obtain ⟨p,hp,rfl⟩:=m9 hk
     rw [hp] at hp'; cases hp'
     exact a3a (hs.at k (t:=z6 E.N E.T ρ C.B0 p'.1 p'.2) (by grind))
 . rcases hb with h | h
   . exact hm.zle b h
   . have:=(hm.sep.ok j _ (l4 hj)).org b h
     rcases this with h | h
     . exact .inr (.inl h)
     omega
end
end Go.Rx
end
section
namespace Go.Rx
open Go Go.Wk Go.Wl
section
variable {E:Env} {C:Ctx} {n:Nat} {ops:List Oper} {Q:Exit->Fr->World->Prop} {rest:List Oper} {f:Fr} {w w':World} {d:Nat}
variable {ty T T':TypeId} {pos:String} {after:Array Edge} {x y z:Operand} {a b:Int} {ρ ρ':n9} {Z Z':Nat->Prop} {its its' lkd:i6 E.N} {nx:Nat} {s:S1 E.N}
def Each (E:Env) (ρ:n9) (Z Z':Nat->Prop) (w:World) (vs vs':List E.SV):Prop:=vs'.length=vs.length/\∀ (i:Nat) (s s':E.SV),vs[i]?=some s->vs'[i]?=some s'->∀ v,Rep E.N E.T ρ Z w v s->Rep E.N E.T ρ Z' w v s'
theorem Each.nil:Each E ρ Z Z' w [] []:=⟨rfl,fun i s s' h=>by simp at h⟩
theorem Each.cons {s s':E.SV} {vs vs':List E.SV} (h:∀ v,Rep E.N E.T ρ Z w v s->Rep E.N E.T ρ Z' w v s') (r:Each E ρ Z Z' w vs vs'):Each E ρ Z Z' w (s::vs) (s'::vs') :=
 ⟨by simp [r.1],fun i u u' hu hu'=>by
  cases i with
  | zero=>simp_all
  | succ i=>exact r.2 i u u' (by simp_all) (by simp_all)⟩
theorem Each.repL {vs vs':List E.SV} (h:Each E ρ Z Z' w vs vs') {cs:List Value} (r:i7 E.N E.T ρ Z w cs vs):i7 E.N E.T ρ Z' w cs vs':=by
 induction vs generalizing vs' cs with
 | nil =>
  have:=h.1
  obtain rfl:=i7.nil_inv r
  match vs',this with
  | [],_=>exact i7.nil
 | cons s vs ih =>
  obtain ⟨v,rr,rfl,h1,hp,h2⟩:=i7.cons_inv r
  match vs',h.1 with
  | s'::vs',_=>exact Rep.agg1 (h.2 0 s s' rfl rfl v h1) hp (ih (vs':=vs') ⟨by simp_all,fun i u u' hu hu'=>h.2 (i+1) u u' hu hu'⟩ h2)
theorem Each.tup {vs vs':List E.SV} (h:Each E ρ Z Z' w vs vs') {cs:List Value} (r:Rep E.N E.T ρ Z w (.tuple cs.toArray) (.tup vs)):Rep E.N E.T ρ Z' w (.tuple cs.toArray) (.tup vs'):=by
 induction vs generalizing vs' cs with
 | nil =>
  have:=h.1
  generalize e:Value.tuple cs.toArray=u at r
  match vs',this with
  | [],_=>cases r with | tup0=>exact .tup0
 | cons s vs ih =>
  obtain ⟨v,rr,rfl,h1,h2⟩:=Rep.tup_cons r
  match vs',h.1 with
  | s'::vs',_=>exact Rep.tup1 (h.2 0 s s' rfl rfl v h1) (ih (vs':=vs') ⟨by simp_all,fun i u u' hu hu'=>h.2 (i+1) u u' hu hu'⟩ h2)
theorem a0d:∀ {vs vs':List E.SV} {its its':i6 E.N} {Z:Nat->Prop},Mem E C ρ Z w (its++lkd) nx->a1g its vs=some (vs',its')->∃ Z',Mem E C ρ Z' w (its'++lkd) nx/\Tn ρ Z w ρ Z' w/\Each E ρ Z Z' w vs vs'
 | [],vs',its,its',Z,hm,h=>by
  simp [a1g] at h; obtain ⟨rfl,rfl⟩:=h
  exact ⟨Z,hm,Tn.refl _ _ _,Each.nil⟩
 | v::r,vs',its,its',Z,hm,h=>by
  have other:(match a1g its r with | some (r',its')=>some (v::r',its') | none=>none)=some (vs',its')->∃ Z',Mem E C ρ Z' w (its'++lkd) nx/\Tn ρ Z w ρ Z' w/\Each E ρ Z Z' w (v::r) vs':=fun h=>by
   split at h
   . rename_i r' its1 hr
     simp only [Option.some.injEq,Prod.mk.injEq] at h
     obtain ⟨rfl,rfl⟩:=h
     obtain ⟨Z',hm',ht,he⟩:=a0d hm hr
     exact ⟨Z',hm',ht,Each.cons (fun u hu=>ht.rep hu) he⟩
   . cases h
  cases v with
  | acc id =>
   simp only [a1g] at h
   split at h
   . rename_i t l hi
     split at h
     . rename_i r' its1 hr
       simp only [Option.some.injEq,Prod.mk.injEq] at h
       obtain ⟨rfl,rfl⟩:=h
       obtain ⟨j,hj,hu,_⟩:=p8 hi
       obtain ⟨L,hL,hn1,hl,hac⟩:=hm.holds (l8 hj)
       have hrd:=Ac.rd hac hl
       have ⟨m1,t1⟩:=hm.freeze (i':=.fz t l) (l8 hj) ⟨L,hL,hn1,by rw [q7 hL]; exact hrd⟩ rfl
       rw [List.set_append_left _ _ (s6 hj),<- hu] at m1
       obtain ⟨Z',hm',ht,he⟩:=a0d m1 hr
       refine ⟨Z',hm',t1.trans ht,?_⟩
       have he':Each E ρ Z Z' w r r':=⟨he.1,fun i s s' hs hs' u hu=>he.2 i s s' hs hs' u (t1.rep hu)⟩
       refine Each.cons (fun u hu'=>?_) he'
       cases hu' with
       | acc hL' =>
        have hL:ρ id=some L:=hL
        rw [hL] at hL'; cases hL'
        have:Rep E.N E.T ρ (fun b=>Z b ∨ b∈o8 E.N ρ id (.ac t l)) w (.slice L.A L.n L.cap) (.sl t l:E.SV):=.sl (by rw [q7 hL]; exact hrd)
        exact ht.rep this
     . cases h
   . rename_i t l hi
     split at h
     . rename_i r' its1 hr
       simp only [Option.some.injEq,Prod.mk.injEq] at h
       obtain ⟨rfl,rfl⟩:=h
       obtain ⟨j,hj,_⟩:=p8 hi
       obtain ⟨L,hL,hn1,hrd⟩:=hm.holds (l8 hj)
       obtain ⟨Z',hm',ht,he⟩:=a0d hm hr
       refine ⟨Z',hm',ht,Each.cons (fun u hu'=>?_) he⟩
       cases hu' with
       | acc hL' =>
        have hL:ρ id=some L:=hL
        rw [hL] at hL'; cases hL'
        exact ht.rep (.sl hrd)
     . cases h
   . cases h
  | ref=>cases h
  | el=>cases h
  | sub=>cases h
  | clo=>cases h
  | yld=>cases h
  | agg=>cases h
  | tup=>cases h
  | _=>exact other h
theorem a4p {v v':E.SV} (hm:Mem E C ρ Z w (its++lkd) nx) (h:c1j its v=some (v',its')):∃ Z',Mem E C ρ Z' w (its'++lkd) nx/\Tn ρ Z w ρ Z' w/\∀ u,Rep E.N E.T ρ Z w u v->Rep E.N E.T ρ Z' w u v':=by
 have other:(match a1g its [v] with | some ([v'],its')=>some (v',its') | _=>none)=some (v',its')->∃ Z',Mem E C ρ Z' w (its'++lkd) nx/\Tn ρ Z w ρ Z' w/\∀ u,Rep E.N E.T ρ Z w u v->Rep E.N E.T ρ Z' w u v':=fun h=>by
  split at h
  . rename_i u its1 hf
    simp only [Option.some.injEq,Prod.mk.injEq] at h
    obtain ⟨rfl,rfl⟩:=h
    obtain ⟨Z',hm',ht,he⟩:=a0d hm hf
    exact ⟨Z',hm',ht,he.2 0 _ _ rfl rfl⟩
  . cases h
 cases v with
 | agg vs =>
  simp only [c1j] at h
  split at h
  . rename_i vs' its1 hf
    simp only [Option.some.injEq,Prod.mk.injEq] at h
    obtain ⟨rfl,rfl⟩:=h
    obtain ⟨Z',hm',ht,he⟩:=a0d hm hf
    refine ⟨Z',hm',ht,fun u hu=>?_⟩
    obtain ⟨cs,rfl,hr⟩:=Rep.agg_inv hu
    exact he.repL hr
  . cases h
 | _=>exact other h
theorem b7y:∀ {vs vs':List E.SV} {its its':i6 E.N} {Z:Nat->Prop},Mem E C ρ Z w (its++lkd) nx->frz its vs=some (vs',its')->∃ Z',Mem E C ρ Z' w (its'++lkd) nx/\Tn ρ Z w ρ Z' w/\Each E ρ Z Z' w vs vs'
 | [],vs',its,its',Z,hm,h=>by
  simp [frz] at h; obtain ⟨rfl,rfl⟩:=h
  exact ⟨Z,hm,Tn.refl _ _ _,Each.nil⟩
 | v::r,vs',its,its',Z,hm,h=>by
  unfold frz at h
  split at h
  . rename_i v' its1 h1
    split at h
    . rename_i r' its2 h2
      simp only [Option.some.injEq,Prod.mk.injEq] at h
      obtain ⟨rfl,rfl⟩:=h
      obtain ⟨Z1,m1,t1,e1⟩:=a4p hm h1
      obtain ⟨Z2,m2,t2,e2⟩:=b7y m1 h2
      exact ⟨Z2,m2,t1.trans t2,Each.cons (fun u hu=>t2.rep (e1 u hu)) ⟨e2.1,fun i s s' hs hs' u hu=>e2.2 i s s' hs hs' u (t1.rep hu)⟩⟩
    . cases h
  . cases h
theorem Mem.gone {id S:Nat} {cells:List E.SV} {L:Loc} {j:Nat} (hm:Mem E C ρ Z w (its++lkd) nx) (hj:its[j]?=some (id,.own S cells)) (hr:rmv its id=its.eraseIdx j) (hL:ρ id=some L) (hbs:L.bs=[L.b]) :
  Mem E C ρ (fun b=>Z b ∨ b∈[L.b]) w (rmv its id++lkd) nx/\Tn ρ Z w ρ (fun b=>Z b ∨ b∈[L.b]) w:=by
 have hs:=Wl.Sep.freeze hm.sep j (t:=z6 E.N E.T ρ C.B0 id (.own S cells)) (t':=⟨[],[],fun _ _=>True⟩) (l4 (l8 hj)) trivial (fun _ _ _ _ _ _ _ _ _=>trivial) rfl rfl
 have hF:(z6 E.N E.T ρ C.B0 id (.own S cells)).F=[L.b]:=by show o8 E.N ρ id (.own S cells)=[L.b]; rw [p6 hL]; exact hbs
 rw [hF] at hs
 refine ⟨?_,⟨fun _ _ h=>h,fun b h _=>.inl h,[],Ext.refl _ _,fun _ h=>by cases h⟩⟩
 have hjl:=s6 hj
 rw [hr]
 refine ⟨Sep.sel hs (fun i=>if i<j then i else i+1) (fun i k _ _ e=>by grind) fun i t' hi'=>?_,hm.fr,hm.ge,fun b hb=>.inl (hm.zge b hb),fun b hb=>?_⟩
 . obtain ⟨p,hp,rfl⟩:=m9 hi'
   have hpe:its.eraseIdx j++lkd=(its++lkd).eraseIdx j:=by rw [List.eraseIdx_append_of_lt_length hjl]
   rw [hpe,List.getElem?_eraseIdx] at hp
   have key:∀ k,k≠j->(its++lkd)[k]?=some p->∃ t,((o0 E.N E.T ρ C.B0 (its++lkd)).set j ⟨[],[],fun _ _=>True⟩)[k]?=some t/\b6u C.B0 (fun b=>Z b ∨ b∈[L.b]) w t (z6 E.N E.T ρ C.B0 p.1 p.2):=fun k hk hp=>by
    have e:((o0 E.N E.T ρ C.B0 (its++lkd)).set j ⟨[],[],fun _ _=>True⟩)[k]?=some (z6 E.N E.T ρ C.B0 p.1 p.2):=by rw [List.getElem?_set_ne (Ne.symm hk)]; exact l4 hp
    exact ⟨_,e,a3a (hs.at k e)⟩
   grind
 . rcases hb with h | h
   . exact hm.zle b h
   . have:=(hm.sep.ok j _ (l4 (l8 hj))).org b (by simp_all)
     rcases this with h | h
     . exact .inr (.inl h)
     omega
theorem c1o {sx:E.SV} (hm:Mem E C ρ Z w (its++lkd) nx) (hx:Rep E.N E.T ρ Z w (ev f x) sx) (h:b79 its nx T sx=some s) (ho':q6 s.ob) (hn:Nat.blt d n=true) (K:KE E C n ops Q rest f w (some d) ρ Z lkd s) :
  WL E.P false n ops Q (⟨some d,.makeInterface T x,ty,pos,after,none⟩::rest) f w:=by
 generalize hv:ev f x=vx at hx
 cases sx with
 | ref id off =>
  simp only [b79] at h
  split at h
  . rename_i S cells hi
    obtain ⟨j,hj,_,hr⟩:=p8 hi
    obtain ⟨L,cs,hL,hbs,ho,hrep⟩:=hm.holds (l8 hj)
    obtain ⟨m1,t1⟩:=Mem.gone hm hj hr hL hbs
    split at h
    . rename_i S' hwp
      have ⟨h1,h2⟩:=j3 h
      simp only [Bool.and_eq_true] at h1
      obtain ⟨⟨e1,e2⟩,e4⟩:=h1
      have e1:=Nat.eq_of_beq_eq_true e1
      have e2:=Nat.eq_of_beq_eq_true e2
      subst e1; subst e2
      split at h2
      . rename_i s0 e0
        simp only [Option.some.injEq] at h2; subst h2
        have ho0:e0=.no e0.n0:=ho'.1
        cases hx with
        | ref hL' =>
         rw [hL] at hL'; cases hL'
         obtain ⟨v1,r1,rfl,ha,_,hrep⟩:=i7.cons_inv hrep
         obtain ⟨v2,r2,rfl,hb,_,hrep⟩:=i7.cons_inv hrep
         obtain rfl:=i7.nil_inv hrep
         cases ha with
         | str hl =>
          cases hb with
          | err hb =>
           rw [ho0] at hb
           cases hb with
           | no hn0 =>
            obtain ⟨e,hT⟩:=V0 e4
            exact a2x hT rfl hv hn (K _ ρ _ w m1 t1 (.err (.p hwp (.inr (by simp)) ho hn0)) trivial)
      . cases h2
    . have ⟨h1,h2⟩:=j3 h
      simp only [Bool.and_eq_true] at h1
      obtain ⟨⟨⟨e1,e2⟩,e3⟩,e4,e5⟩:=h1
      have e6:E.T.fp≠0:=fun h=>by simp_all
      have e1:=Nat.eq_of_beq_eq_true e1
      have e2:=Nat.eq_of_beq_eq_true e2
      have e3:=Nat.eq_of_beq_eq_true e3
      subst e1; subst e2; subst e3
      split at h2
      . rename_i a nn
        simp only [Option.some.injEq] at h2; subst h2
        cases hx with
        | ref hL' =>
         rw [hL] at hL'; cases hL'
         obtain ⟨v1,r1,rfl,ha,_,hrep⟩:=i7.cons_inv hrep
         obtain ⟨v2,r2,rfl,hb,_,hrep⟩:=i7.cons_inv hrep
         obtain rfl:=i7.nil_inv hrep
         cases ha with
         | int ha =>
          cases hb with
          | int hb =>
           obtain ⟨e,hT⟩:=V0 e4
           exact a2x hT rfl hv hn (K _ ρ _ w m1 t1 (.err (.fault (.inr (by simp)) ho (ha rfl) (hb rfl) e6)) trivial)
      . cases h2
  . cases h
 | _=>cases h
theorem c2a {ls:List E.SV} {cs:List Value} (h:i7 E.N E.T ρ Z w cs ls):i7 E.N E.T ρ Z w cs (leaves (d1u ls)):=by
 match ls,h with
 | [],h=>exact h
 | [s],h =>
  obtain ⟨v,rfl,h1,hp⟩:=i7.one_inv h
  show i7 E.N E.T ρ Z w [v] (leaves s)
  cases s with
  | agg vs=>obtain ⟨cs,rfl,_⟩:=Rep.agg_inv h1; cases hp
  | _=>exact h
 | s::u::r,h=>exact h
theorem b46 {sx:E.SV} {id t off:Nat} {i:Int} (hm:Mem E C ρ Z w (its++lkd) nx) (ha:Rep E.N E.T ρ Z w (ev f x) (.el id t i off)) (hx:Rep E.N E.T ρ Z w (ev f y) sx) (h:a78 its nx T id t i off sx=some s) (K:KE E C n ops Q rest f w none ρ Z lkd s) :
  WL E.P false n ops Q (⟨none,.store T x y,ty,pos,after,none⟩::rest) f w:=by
 unfold a78 at h
 split at h
 . rename_i v its1 hf
   obtain ⟨Z1,hm1,t1,hr1⟩:=a4p hm hf
   have hv:=hr1 _ hx
   split at h
   . rename_i t' l hi
     split at h
     . rename_i ht
       subst ht
       split at h
       . rename_i yy hty
         have ⟨h1,h2⟩:=j3 h
         clear h
         simp only [Bool.and_eq_true] at h1
         obtain ⟨⟨⟨⟨e1,e2⟩,e3⟩,e4⟩,e5⟩:=h1
         have e1:=Nat.le_of_ble_eq_true e1
         have e4:=Nat.eq_of_beq_eq_true e4
         split at h2
         . rename_i x' hb
           simp only [Option.some.injEq] at h2; subst h2
           obtain ⟨j,hj,hu,_⟩:=p8 hi
           obtain ⟨L,hL,hn1,hlen,hac⟩:=hm1.holds (l8 hj)
           cases hsz:E.size T with
           | none=>simp_all
           | some mm =>
            rw [hsz] at e1 e4
            simp only [Option.getD_some] at e1 e4
            generalize hvx:ev f x=vx at ha
            cases ha with
            | el hL' h0 h1 =>
             have hL:ρ id=some L:=hL
             rw [hL] at hL'; cases hL'
             have hlv:=hv.leaves e2
             have hjt:j<(o0 E.N E.T ρ C.B0 (its1++lkd)).length:=by simpa [o0] using s6 (l8 (l2:=lkd) hj)
             have hs1:=Wl.Sep.upd hm1.tn (j+1) (t:=z6 E.N E.T ρ C.B0 id (.ac t' l)) (t':=iAc (E.N.tb t').r (.slice L.A L.n L.cap) l L.bs C.B0) (w':=w) (by rw [List.getElem?_cons_succ]; exact l4 (l8 hj)) (Ext.refl _ _) hac sAc (fun b hb=>⟨.inl (by show b∈o8 E.N ρ id (.ac t' l); rw [q7 hL]; exact hb),hac.lt b hb⟩) rfl
             have hget:∀ e:E.N.U t',l.getD i.toNat e=ix l i:=fun e=>by
              rw [A8 (by omega),List.getD_eq_getElem?_getD,List.getElem?_eq_getElem (by omega)]; rfl
             have hcs:∀ c0,(E.N.tb t').r.rd Z1 w c0 (l.getD i.toNat x')->c0.length=(E.N.tb t').r.sz->off+(ev f y).cells.toList.length<=(E.N.tb t').r.sz/\(E.N.tb t').r.rd Z1 w (v7 c0 off (ev f y).cells.toList) x':=fun c0 hr hc=>by
              rw [hget] at hr
              have hsv:i7 E.N E.T ρ Z1 w c0 (leaves (yy.sv (ix (O5 rfl l) i))):=yy.sv_ok hr
              have hl1:=hsv.len
              have hl2:=hlv.len
              refine ⟨by omega,yy.bk_ok (c2a (hsv.setLeaves (o:=off) hlv)) hb⟩
             refine c2i hs1 (j+1) (O:=C.B0) (by rw [List.getElem?_set_self (by simp_all)]) (H1 hsz) hvx rfl rfl rfl (by rw [hlv.len,e4]) h0 h1 hcs hlv.plain fun w' hs=>?_
             rw [List.set_set] at hs
             have t2:=X8 (Z:=Z1) (w:=w) (ρ:=ρ) (ρ':=ρ) (k:=0) hs (by simp) (fun _ _ h=>h)
             have hs2:Sep C.B0 C.w0 Z1 w' ((o0 E.N E.T ρ C.B0 (its1++lkd)).set j (iAc (E.N.tb t').r (.slice L.A L.n L.cap) (l.set i.toNat x') L.bs C.B0)):=a2w (u:=tnI Z1 w) (by simp_all)
             have m1:=hm1.turn (i':=.ac t' (l.set i.toNat x')) (l8 hj) hs2 ⟨L,hL,by simp_all,by simp_all,hs2.at j (t:=iAc (E.N.tb t').r (.slice L.A L.n L.cap) (l.set i.toNat x') L.bs C.B0) (by simp_all)⟩ (fun b hb=>by rw [q7 hL] at hb; exact hb)
             refine K .nilIface ρ Z1 w' ?_ (t1.trans t2) .un trivial
             rw [hu,<- List.set_append_left _ _ (s6 hj)]
             exact m1
         . cases h2
       . cases h
     . cases h
   . cases h
 . cases h
theorem M7 {t:Nat} (h:a7s E t=true):(∀ w,(sizeOf t).run E.P w=.ok (E.N.tb t).r.sz w)/\0<(E.N.tb t).r.sz/\∃ info zv,(∀ w,(typeInfo t).run E.P w=.ok info w)/\(E.bytes t).getD 0=info.bytes/\1<=info.bytes/\(∀ w,(zeroValue t).run E.P w=.ok zv w)/\zv.cells.size=(E.N.tb t).r.sz/\E.zeroV t=some zv:=by
 unfold a7s at h
 simp only [Bool.and_eq_true] at h
 obtain ⟨⟨⟨h1,h2⟩,h3⟩,h4⟩:=h
 refine ⟨J9 h1,A1 h2,?_⟩
 cases hb:E.bytes t with
 | none=>simp_all
 | some b =>
  rw [hb] at h3
  cases hz:E.zeroV t with
  | none=>simp_all
  | some zv =>
   rw [hz] at h4
   have h3:=A1 h3
   unfold Env.bytes at hb
   simp only [Option.map_eq_some_iff] at hb
   obtain ⟨info,hi,rfl⟩:=hb
   exact ⟨info,zv,a7b hi,rfl,h3,a08 hz,Nat.eq_of_beq_eq_true h4,rfl⟩
theorem c8z {t:Nat} {sx:E.SV} {xs:List (E.N.U t)} {v:Value} (hm:Mem E C ρ Z w (its++lkd) nx) (hx:Rep E.N E.T ρ Z w v sx) (h:d5v E its t sx=some xs):Src (E.N.tb t).r Z w v xs:=by
 cases sx with
 | acc id =>
  simp only [d5v] at h
  split at h
  . rename_i t' l hi
    split at h
    . rename_i ht; subst ht
      simp only [Option.some.injEq] at h; subst h
      obtain ⟨j,hj,_⟩:=p8 hi
      obtain ⟨L,hL,hn1,hlen,hac⟩:=hm.holds (l8 hj)
      cases hx with
      | acc hL' =>
       have hL:ρ id=some L:=hL
       rw [hL] at hL'; cases hL'
       exact Src.ac hac
    . cases h
  . cases h
 | _=>exact Src.data (c2y hx h)
end
end Go.Rx
end
section
namespace Go.Wl
open Go Go.Wk
section
variable {P:Program} {Z:Nat->Prop} {bs:List Nat} {w:World} {v:Value} {l:Str} {T E:TypeId} {info:TypeInfo} {zv:Value}
theorem d5k {s:Str} {cs:List (List Value)} (h:cs=s.map fun c=>[bv c]) (w:World):(Builtin.firstCells n5.sz s.length (sv s)).run P w=.ok cs.flatten.toArray w:=by
 have e:cs.flatten=s.map bv:=by
  rw [h]
  clear h
  induction s with
  | nil=>rfl
  | cons c s ih=>simp [ih]
 rw [e]
 show (pure (((⟨s.toArray⟩:ByteArray).extract 0 s.length).data.map fun b=>Value.int .u8 b.toNat):Sem (Array Value)).run P w=_
 have e2:((⟨s.toArray⟩:ByteArray).extract 0 s.length).data=s.toArray:=by
  have:=Q7 s
  rw [<- this,ByteArray.extract_zero_size]
 rw [e2,Sem.run_pure]
 simp [bv]
theorem b3q {T2:TypeId} {s:Str} (hT:∀ w,(underlying T).run P w=.ok (.slice E) w) (hT2:∀ w,(underlying T2).run P w=.ok .string w) (hI:∀ w,(typeInfo E).run P w=.ok info w) (hE:∀ w,(sizeOf E).run P w=.ok n5.sz w) (hz:∀ w,(zeroValue E).run P w=.ok zv w) (hzs:zv.cells.size=n5.sz)
  (ha:Ac n5 Z w v l bs) (hnz:∀ b∈bs,¬ Z b) (hb:(l.length+s.length) * info.bytes<=140737488355328) (hb1:1<=info.bytes) :
  ∀ w1,Sim w w1->∃ v' w2 w',(Builtin.append_ #[T,T2] T #[v,sv s]).run P w1=.ok v' w2/\Sim w' w2/\∃ bs',Ac n5 Z w' v' (l++s) bs'/\Ext bs w w'/\(∀ b∈bs',b∈bs ∨ w.heap.size<=b):=by
 intro w1 hs
 obtain ⟨kk,rfl⟩:=hs
 obtain ⟨A,cap,rfl⟩:=ha.val
 obtain ⟨cs,hcs0⟩:∃ cs:List (List Value),cs=s.map fun c=>[bv c]:=⟨_,rfl⟩
 have hcl:cs.length=s.length:=by rw [hcs0,List.length_map]
 have hcr:∀ i (h:i<s.length) (h':i<cs.length),n5.rd Z w cs[i] s[i]:=fun i h h'=>by simp only [hcs0,List.getElem_map]; exact rfl
 have hcs:∀ c∈cs,c.length=n5.sz:=fun c hc=>by
  obtain ⟨i,hi,rfl⟩:=List.getElem_of_mem hc
  exact n5.len (hcr i (by omega) hi)
 have hfirst:∀ kk,(Builtin.firstCells n5.sz s.length (sv s)).run P { w with drawn:=kk }=.ok cs.flatten.toArray { w with drawn:=kk }:=fun kk=>d5k hcs0 _
 have hnew:=hfirst kk
 have hln:Builtin.lenOf (sv s)=pure s.length:=by
  show (pure (⟨s.toArray⟩:ByteArray).size:Sem Nat)=_
  rw [Q7]
 by_cases hfit:l.length+s.length<=cap
 . -- there is room
   rcases ha with ⟨hv,rfl,rfl⟩ | ⟨b,cap',C,T',hv,rfl,ho,hC,hcap,hc⟩
   . simp at hv
     obtain ⟨rfl,rfl⟩:=hv
     have hx0:s=[]:=List.eq_nil_of_length_eq_zero (by have:([]:Str).length+s.length<=0:=hfit; simp at this; simp [this])
     subst hx0
     refine ⟨.slice none 0 0,{ w with drawn:=kk },w,?_,⟨kk,rfl⟩,[],Ac.nil,Ext.refl _ _,by simp⟩
     simp only [Builtin.append_,hT,hT2,hE,hln,Sem.run_bind,Result.andThen_ok,Sem.run_pure,List.getElem?_toArray,List.getElem?_cons_zero,List.getElem?_cons_succ,Bool.false_eq_true,if_false,Bool.not_false,if_true]
     rw [if_pos hfit]
     simp only [Sem.run_bind,hnew,Result.andThen_ok,Sem.run_pure]; rfl
   . simp at hv
     obtain ⟨rfl,rfl⟩:=hv
     have hfl:=E4 hcs
     have hpl:∀ u∈cs.flatten,w5 u=true:=by
      intro u hu
      obtain ⟨c,hc1,hc2⟩:=List.mem_flatten.1 hu
      obtain ⟨i,hi,rfl⟩:=List.getElem_of_mem hc1
      have:=n5.plain (hcr i (by omega) hi)
      rw [List.all_eq_true] at this
      exact this u hc2
     have hroom:l.length * n5.sz+0+cs.flatten.length<=C.length:=by
      rw [hfl,hC,hcl,Nat.add_zero,<- Nat.add_mul]; exact Nat.mul_le_mul_right _ hfit
     obtain ⟨w',hr,ho',he,hsz,hk⟩:=I2 (P:=P) cs.flatten (l.length * n5.sz) 0 C w ho hroom hpl
     refine ⟨.slice (some ⟨b,0,none⟩) (l.length+s.length) cap,{ w' with drawn:=kk },w',?_,⟨kk,rfl⟩,[b],?_,he,by simp⟩
     . have e:(Addr.add ⟨b,0,none⟩ (l.length * n5.sz))=⟨b,l.length * n5.sz,none⟩:=by
         unfold Addr.add; split
         . rename_i h; rw [h]
         . simp
       simp only [Builtin.append_,hT,hT2,hE,hln,Sem.run_bind,Result.andThen_ok,Sem.run_pure,List.getElem?_toArray,List.getElem?_cons_zero,List.getElem?_cons_succ,Bool.false_eq_true,if_false,Bool.not_false,if_true]
       rw [if_pos hfit]
       simp only [Sem.run_bind,hnew,Result.andThen_ok,Sem.run_pure,e,hk kk]
     . refine .inr ⟨b,cap,v7 C (l.length * n5.sz+0) cs.flatten,T',by simp,rfl,ho',by rw [B8,hC],by simpa using hfit,fun i hi=>?_⟩
       have hget:=fun k=>P4 cs.flatten C (l.length * n5.sz+0) k hroom
       by_cases hil:i<l.length
       . obtain ⟨c,h1,h2,h3⟩:=hc i hil
         refine ⟨c,h1,fun j hj=>?_,?_⟩
         . have hlt:i * n5.sz+j<l.length * n5.sz:=by
             have:(i+1) * n5.sz<=l.length * n5.sz:=Nat.mul_le_mul_right _ hil
             rw [Nat.add_mul] at this; omega
           rw [hget,if_neg (by omega)]; exact h2 j hj
         . rw [List.getElem_append_left hil]
           exact n5.mono h3 he (fun x hx hz=>absurd hz (hnz x hx)) (fun x hx _=>hx)
       . have hix:i-l.length<s.length:=by simp at hi; omega
         have hic:i-l.length<cs.length:=by omega
         refine ⟨cs[i-l.length],hcs _ (List.getElem_mem _),fun j hj=>?_,?_⟩
         . have e1:i * n5.sz+j-(l.length * n5.sz+0)=(i-l.length) * n5.sz+j:=by
             rw [Nat.sub_mul]; have:l.length * n5.sz<=i * n5.sz:=Nat.mul_le_mul_right _ (by omega); omega
           have hlt:(i-l.length) * n5.sz+j<cs.flatten.length:=by
            rw [hfl]
            have:(i-l.length+1) * n5.sz<=cs.length * n5.sz:=Nat.mul_le_mul_right _ hic
            rw [Nat.add_mul] at this; omega
           have hge:l.length * n5.sz<=i * n5.sz:=Nat.mul_le_mul_right _ (by omega)
           rw [hget,if_pos (by rw [Nat.sub_mul] at hlt; omega),e1,C5 hcs _ _ hj,List.getElem?_eq_getElem hic]; rfl
         . rw [List.getElem_append_right (by omega)]
           exact n5.mono (hcr _ hix hic) he (fun x hx hz=>absurd hz (hnz x hx)) (fun x hx _=>hx)
 . -- there is none
   have hneed:¬ l.length+s.length<=cap:=hfit
   have hns:=Wk.nextslicecap_le (need:=l.length+s.length) (cap:=cap) (by omega)
   have hns':¬ (Builtin.nextslicecap (l.length+s.length) cap * info.bytes > 2 ^ 48):=by
    have:=Nat.mul_le_mul_right info.bytes hns
    have e:(2:Nat) ^ 48=281474976710656:=by decide
    rw [Nat.mul_assoc] at this; omega
   have hlen:l.length+s.length<=140737488355328:=by
    have:=Nat.mul_le_mul_left (l.length+s.length) hb1; omega
   have hold:∃ os:List (List Value),os.length=l.length/\(∀ c∈os,c.length=n5.sz)/\(∀ i (h:i<l.length) (h':i<os.length),n5.rd Z w os[i] l[i])/\(Builtin.firstCells n5.sz l.length (.slice A l.length cap)).run P { w with drawn:=kk+1 }=.ok os.flatten.toArray { w with drawn:=kk+1 }:=by
    rcases ha with ⟨hv,rfl,rfl⟩ | ⟨b,cap',C,T',hv,rfl,ho,hC,hcap,hc⟩
    . simp at hv
      obtain ⟨rfl,rfl⟩:=hv
      exact ⟨[],rfl,by simp,by simp,by simp [Builtin.firstCells,Sem.run,pure]⟩
    . simp at hv
      obtain ⟨rfl,rfl⟩:=hv
      have h':∀ i,i<l.length->∃ c:List Value,c.length=n5.sz/\(∀ j,j<n5.sz->C[i * n5.sz+j]?=c[j]?)/\∃ hi:i<l.length,n5.rd Z w c l[i]:=fun i hi=>by
       obtain ⟨c,h1,h2,h3⟩:=hc i hi; exact ⟨c,h1,h2,hi,h3⟩
      obtain ⟨os,hol,hos⟩:=R4 l.length h'
      have hsz:∀ c∈os,c.length=n5.sz:=fun c hc=>by
       obtain ⟨i,hi,rfl⟩:=List.getElem_of_mem hc
       exact (hos i hi).1
      refine ⟨os,hol,hsz,fun i hi hi'=>(hos i hi').2.2.2,K2 hol hsz (.inr ⟨b,0,rfl,(ho.sim ⟨kk+1,rfl⟩).cellsAt fun j hj=>?_⟩)⟩
      rw [E4 hsz] at hj
      have hsz0:0<n5.sz:=by rcases Nat.eq_zero_or_pos n5.sz with h | h; rw [h] at hj; simp at hj; exact h
      have hjq:j / n5.sz<os.length:=Nat.div_lt_of_lt_mul (by rw [Nat.mul_comm]; exact hj)
      have hjr:j % n5.sz<n5.sz:=Nat.mod_lt _ hsz0
      have hjd:j / n5.sz * n5.sz+j % n5.sz=j:=by rw [Nat.mul_comm]; exact Nat.div_add_mod j n5.sz
      have e1:=(hos (j / n5.sz) hjq).2.1 (j % n5.sz) hjr
      have e2:=C5 hsz (j / n5.sz) (j % n5.sz) hjr
      rw [hjd] at e2 e1
      rw [e2,List.getElem?_eq_getElem hjq]
      simpa using e1
   obtain ⟨os,hol,hos,hor,holdr⟩:=hold
   have hnew1:=hfirst (kk+1)
   let nc:=(Question.appendCap (l.length+s.length) cap E).cut (w.tape kk (Question.appendCap (l.length+s.length) cap E))
   have hnc:l.length+s.length<=nc:=by show _<=_+_ % _; omega
   let row:=os.flatten.toArray++cs.flatten.toArray++Builtin.zeroCells zv.cells (nc-(l.length+s.length))
   refine ⟨.slice (some ⟨w.heap.size,0,none⟩) (l.length+s.length) nc,{ w with drawn:=kk+1,heap:=w.heap.push (.cells row E) },{ w with heap:=w.heap.push (.cells row E) },?_,⟨kk+1,rfl⟩,[w.heap.size],?_,(Ext.push w _).mono (by simp),by simp⟩
   . have hch:(choose (.appendCap (l.length+s.length) cap E)).run P { w with drawn:=kk }=.ok nc { w with drawn:=kk+1 }:=by
       simp [choose,Sem.run,Question.forced,nc]
     have hroom:∀ m (w:World),(askRoom m).run P w=.ok () w:=fun m w=>by unfold askRoom; split <;> simp [mark,Sem.run,pure]
     have hnl:¬ ((l.length:Int)+(s.length:Int) > 9223372036854775807/\(false=true ∨ info.bytes=0)):=by omega
     simp only [Builtin.append_,hT,hT2,hE,hln,Sem.run_bind,Result.andThen_ok,Sem.run_pure,List.getElem?_toArray,List.getElem?_cons_zero,List.getElem?_cons_succ,Bool.false_eq_true,if_false,Bool.not_false,if_true]
     rw [if_neg hfit]
     simp only [Bool.false_eq_true,if_false,Sem.run_bind,hI,Result.andThen_ok,false_or]
     rw [if_neg (by intro h; have:=h.2; omega)]
     simp only [Sem.run_bind,hI,Result.andThen_ok]
     rw [if_neg hns']
     simp only [Sem.run_bind,Sem.run_pure,hch,hI,hroom,holdr,hnew1,hz,Result.andThen_ok,newRow,newObj,Sem.run]
     rfl
   . have hlo:=E4 hos
     have hlc:=E4 hcs
     refine .inr ⟨w.heap.size,nc,row.toList,E,by simp,rfl,Own.z (by simp [Own]),?_,by simpa using hnc,fun i hi=>?_⟩
     . simp only [row,Array.toList_append,List.length_append,Array.length_toList,List.size_toArray,hlo,hlc,a0z,hzs,hol,hcl]
       rw [<- Nat.add_mul,<- Nat.add_mul]; congr 1; omega
     . have hrow:row.toList=os.flatten++(cs.flatten++(Builtin.zeroCells zv.cells (nc-(l.length+s.length))).toList):=by simp [row]
       rw [hrow]
       by_cases hil:i<l.length
       . have hio:i<os.length:=by omega
         refine ⟨os[i],hos _ (List.getElem_mem _),fun j hj=>?_,?_⟩
         . have hlt:i * n5.sz+j<os.flatten.length:=by
             rw [hlo]; have:(i+1) * n5.sz<=os.length * n5.sz:=Nat.mul_le_mul_right _ hio
             rw [Nat.add_mul] at this; omega
           rw [List.getElem?_append_left hlt,C5 hos _ _ hj,List.getElem?_eq_getElem hio]; rfl
         . rw [List.getElem_append_left hil]
           exact n5.mono (hor i hil hio) (Ext.push w _) (fun x hx=>by cases hx) (fun x hx _=>hx)
       . have hix:i-l.length<s.length:=by simp at hi; omega
         have hic:i-l.length<cs.length:=by omega
         refine ⟨cs[i-l.length],hcs _ (List.getElem_mem _),fun j hj=>?_,?_⟩
         . have hge:l.length * n5.sz<=i * n5.sz:=Nat.mul_le_mul_right _ (by omega)
           have e1:i * n5.sz+j-os.flatten.length=(i-l.length) * n5.sz+j:=by rw [hlo,hol,Nat.sub_mul]; omega
           have hlt:(i-l.length) * n5.sz+j<cs.flatten.length:=by
            rw [hlc]; have:(i-l.length+1) * n5.sz<=cs.length * n5.sz:=Nat.mul_le_mul_right _ hic
            rw [Nat.add_mul] at this; omega
           rw [List.getElem?_append_right (by rw [hlo,hol]; omega),e1,List.getElem?_append_left hlt,C5 hcs _ _ hj,List.getElem?_eq_getElem hic]; rfl
         . rw [List.getElem_append_right (by omega)]
           exact n5.mono (hcr _ hix hic) (Ext.push w _) (fun x hx=>by cases hx) (fun x hx _=>hx)
end
section
variable {P:Program} {n:Nat} {ops:List Oper} {Q:Exit->Fr->World->Prop} {rest:List Oper} {f:Fr} {w w0:World} {d:Nat} {T T2 T3 E:TypeId} {pos:String} {after:Array Edge} {x y:Operand} {B0 O bs:List Nat} {Z:Nat->Prop} {L:List It} {zv:Value} {s al:Str} {info:TypeInfo}
theorem c1d (hs:Sep B0 w0 Z w L) (j:Nat) (hj:L[j]?=some (iAc n5 (ev f x) al bs O)) (hy:ev f y=sv s)
  (hT:∀ w,(underlying T).run P w=.ok (.slice E) w) (hT2:∀ w,(underlying T2).run P w=.ok .string w) (hI:∀ w,(typeInfo E).run P w=.ok info w) (hE:∀ w,(sizeOf E).run P w=.ok n5.sz w) (hz:∀ w,(zeroValue E).run P w=.ok zv w) (hzs:zv.cells.size=n5.sz)
  (hb:(al.length+s.length) * info.bytes<=140737488355328) (hb1:1<=info.bytes) (hn:Nat.blt d n=true)
  (K:∀ A cap bs' w',Sep B0 w0 Z w' (L.set j (iAc n5 (.slice A (al++s).length cap) (al++s) bs' O))->WL P false n ops Q rest (upd f d (.slice A (al++s).length cap)) w') :
  WL P false n ops Q (⟨some d,.call ⟨.builtin .append,#[x,y],#[T,T2]⟩,T,pos,after,none⟩::rest) f w :=
 a2f rfl rfl hn fun w1 hw=>by
  obtain ⟨v',w2,w',hr,hs',bs',h1,h2,h3⟩:=b3q hT hT2 hI hE hz hzs (hs.at j hj) (hs.nz j hj) hb hb1 w1 hw
  obtain ⟨A,cap,rfl⟩:=h1.val
  refine ⟨_,w2,w',?_,hs',K A cap bs' w' (hs.upd j hj h2 h1 sAc (fun b hb=>⟨h3 b hb,h1.lt b hb⟩) rfl)⟩
  simp only [execOp,resolve,invoke,builtin,Sem.run_bind,Sem.run_pure,Result.andThen_ok]
  have:(#[x,y]:Array Operand).map (ev f)=#[ev f x,sv s]:=by simp [hy]
  rw [this,hr]; rfl
theorem d00 {α:Type} {L:List α} {j:Nat} {t:α} (h:L[j]?=some t):L.set j t=L:=by
 apply List.ext_getElem?
 intro k
 by_cases e:j=k
 . subst e
   obtain ⟨hl,_⟩:=List.getElem?_eq_some_iff.1 h
   rw [List.getElem?_set_self hl,h]
 . rw [List.getElem?_set_ne e]
theorem c8i (hs:Sep B0 w0 Z w L) (j:Nat) (hj:L[j]?=some (iAc n5 (ev f x) al bs O)) (hy:ev f y=sv s)
  (hT:∀ w,(underlying T).run P w=.ok (.slice E) w) (hE:∀ w,(sizeOf E).run P w=.ok 1 w) (hn:Nat.blt d n=true)
  (K:∀ w',Sep B0 w0 Z w' (L.set j (iAc n5 (ev f x) (s.take al.length++al.drop s.length) bs O))->WL P false n ops Q rest (upd f d (.int .i64 (min (s.length:Int) al.length))) w') :
  WL P false n ops Q (⟨some d,.call ⟨.builtin .copy,#[x,y],#[T,T2]⟩,T3,pos,after,none⟩::rest) f w:=by
 have ha:=hs.at j hj
 have hmin:∀ a b:Nat,(min a b:Nat)=Nat.min a b:=fun _ _=>rfl
 have hln:Builtin.lenOf (sv s)=pure s.length:=by
  show (pure (⟨s.toArray⟩:ByteArray).size:Sem Nat)=_
  rw [Q7]
 have hgi:goInt (Nat.min s.length al.length)=.int .i64 (min (s.length:Int) al.length):=by
  show Value.int .i64 ((Nat.min s.length al.length:Nat):Int)=_
  congr 1
  show ((min s.length al.length:Nat):Int)=_
  omega
 have hfirst:∀ (w:World),(Builtin.firstCells 1 (Nat.min s.length al.length) (sv s)).run P w=.ok ((s.take al.length).map bv).toArray w:=fun w=>by
  have e:(s.take al.length).length=Nat.min s.length al.length:=by rw [List.length_take]; exact Nat.min_comm _ _
  show (pure (((⟨s.toArray⟩:ByteArray).extract 0 (Nat.min s.length al.length)).data.map fun b=>Value.int .u8 b.toNat):Sem (Array Value)).run P w=_
  rw [Sem.run_pure,<- e]
  have e2:((⟨s.toArray⟩:ByteArray).extract 0 (s.take al.length).length).data=(s.take al.length).toArray:=by
   simp only [ByteArray.data_extract,List.extract_toArray,List.extract_eq_take_drop,List.drop_zero,Nat.sub_zero]
   rw [List.length_take,<- List.take_eq_take_min]
  rw [e2]
  simp
  rfl
 refine a2f rfl rfl hn fun w1 hw=>?_
 obtain ⟨kk,rfl⟩:=hw
 have hargs:(#[x,y]:Array Operand).map (ev f)=#[ev f x,sv s]:=by simp [hy]
 generalize hv:ev f x=v at *
 rcases ha with ⟨rfl,rfl,rfl⟩ | ⟨b,cap,C,T',rfl,rfl,ho,hC,hle,hc⟩
 . refine ⟨.int .i64 (min (s.length:Int) ([]:Str).length),{ w with drawn:=kk },w,?_,⟨kk,rfl⟩,K w (by
     have e:s.take ([]:Str).length++([]:Str).drop s.length=[]:=by simp
     rw [e,d00 hj]; exact hs)⟩
   simp only [execOp,resolve,invoke,builtin,Sem.run_bind,Sem.run_pure,Result.andThen_ok,hargs,Builtin.copy_,List.getElem?_toArray,List.getElem?_cons_zero,List.getElem?_cons_succ,hT,hln,hE]
   rw [show ([]:Str).length=0 from rfl] at hfirst
   simp only [List.length_nil] at hgi hfirst
   simp only [hfirst,Result.andThen_ok,Sem.run_pure,hgi,List.length_nil]
 . have hl:((s.take al.length).map bv).length=min al.length s.length:=by rw [List.length_map,List.length_take]
   have hroom:0+0+((s.take al.length).map bv).length<=C.length:=by rw [hl,hC]; simp only [n5]; omega
   obtain ⟨w',hr,ho',he',hsz',hk'⟩:=I2 (P:=P) ((s.take al.length).map bv) 0 0 C w ho hroom (fun v hv=>by obtain ⟨c,_,rfl⟩:=List.mem_map.1 hv; rfl)
   refine ⟨.int .i64 (min (s.length:Int) al.length),{ w' with drawn:=kk },w',?_,⟨kk,rfl⟩,K w' (hs.upd j hj he' ?_ sAc (fun x hx=>⟨.inl hx,by have:=hs.lt j hj x hx; have:=he'.size; omega⟩) rfl)⟩
   . simp only [execOp,resolve,invoke,builtin,Sem.run_bind,Sem.run_pure,Result.andThen_ok,hargs,Builtin.copy_,List.getElem?_toArray,List.getElem?_cons_zero,List.getElem?_cons_succ,hT,hln,hE,hfirst,List.toList_toArray]
     rw [hk' kk]
     simp only [Result.andThen_ok,hgi]
   . have hlen:(s.take al.length++al.drop s.length).length=al.length:=by rw [List.length_append,List.length_take,List.length_drop]; omega
     refine .inr ⟨b,cap,v7 C 0 ((s.take al.length).map bv),T',by rw [hlen],rfl,ho',by rw [B8,hC],by rw [hlen]; exact hle,fun i hi=>?_⟩
     have hi':i<al.length:=by rw [hlen] at hi; exact hi
     obtain ⟨c,h1,h2,h3⟩:=hc i hi'
     have hget:=fun k=>P4 ((s.take al.length).map bv) C 0 k (by omega)
     by_cases his:i<s.length
     . have e:(s.take al.length++al.drop s.length)[i]'hi=s[i]:=by
         rw [List.getElem_append_left (by rw [List.length_take]; omega),List.getElem_take]
       refine ⟨[bv s[i]],rfl,fun jj hjj=>?_,by rw [e]; exact rfl⟩
       have hj0:jj=0:=by simp only [n5] at hjj; omega
       subst hj0
       have hd1:i * n5.sz+0=i:=by simp [n5]
       rw [hd1,hget,if_pos (by rw [hl]; omega),Nat.sub_zero,List.getElem?_map,List.getElem?_take,if_pos hi',List.getElem?_eq_getElem his]; rfl
     . have e:(s.take al.length++al.drop s.length)[i]'hi=al[i]:=by
         rw [List.getElem_append_right (by rw [List.length_take]; omega),List.getElem_drop]
         congr 1
         rw [List.length_take]; omega
       refine ⟨c,h1,fun jj hjj=>?_,by rw [e]; exact n5.mono h3 he' (fun x hx hz=>absurd hz (hs.nz j hj x hx)) (fun x hx _=>hx)⟩
       have hj0:jj=0:=by simp only [n5] at hjj; omega
       subst hj0
       have hd1:i * n5.sz+0=i:=by simp [n5]
       have:=h2 0 hjj
       rw [hd1] at this ⊢
       rw [hget,if_neg (by rw [hl]; omega)]; exact this
end
end Go.Wl
end
